/- Own work. -/
import Derived.Shelf.Abstract
import Derived.WalkKit
import Derived.OwnWalkIn
import Derived.TacticsInMore
import Derived.LoopNIn
import Derived.LoopIn
import Derived.Test.YtdbebmmhdefgdaaGreatProg
import Derived.Sort.QuietTacIn
import Derived.Lib.SmallJoins
import Derived.Deep.Matrix
import Derived.Test.YtdbebmmhdefgdaaGreatZ5
set_option linter.unusedVariables false
set_option linter.unusedSimpArgs false
set_option maxHeartbeats 8000000
namespace Go.Proofs.YtdbebmmhdefgdaaGreat
open Go Go.Eng Go.Pure
open Tryz
set_option maxRecDepth 100000
variable {B g gc nt ct pk mn bl an:Nat} {w0:World} {R X R0:List Row} {At me ap:AF} {p1 p2 p3 ms tt ls:Int} {l b u s t:AH}
theorem aXx (kp:RdC B w0 R me pk mn 1 (ints .u8 l)) (Fi:pk=l.length):
  CT 161 #[PG g,sl me pk mn,sl none 0 0] B w0 ((rc 87 10 g [PG gc,I 0,I p1,I p2,I p3,I ms,I tt,I ls,sl At nt ct,sl none 0 0])::R) (λv R'=>v= .tuple #[sl me pk mn,I 0]/\R'=(rc 87 10 g [PG gc,I 0,I p1,I p2,I p3,I ms,I tt,I ls,sl At nt ct,sl none 0 0])::R):=by
 subst Fi;refine fn2 Iu Z Z Z ?_;refine wq<|wg Z<|wn Z<|aD<|wq<|wm Z<|wy (aG Z)<|wy (yF 1 1 ig eQ Z)<|wy (yF 0 1 bg sz3 Z)<|wy (yL 0 au Z Z Z)<|aA<|aH ?_;refine wq<|wQ Z Z<|wn Z<|aP Z<|wq<|wQ Z Z<|wn Z<|aP Z<|wq<|wQ Z Z ?_;refine wn Z<|aP Z<|aI<|wq<|wm Z<|wg Z<|wn Z<|bU (R1:=((rc 87 10 g [PG gc,I 0,I p1,I p2,I p3,I ms,I tt,I ls,sl At nt ct,sl none 0 0])::R)) hiZ ?_;refine⟨_,_,Z,Z,?_⟩;exact⟨Z,Z⟩
theorem aXw {zj:AF} {zp:Nat} {at_:Int} (kp:RdC B w0 R me pk mn 1 (ints .u8 l)) (Fi:pk=l.length) (j7:RdC B w0 R zj 1 zp 1 (ints .i64 [at_])) (b8:aN l) (dr:bIg l at_) (hb:rP l at_=b) (hN:l.length<=100000):
  CT 161 #[PG g,sl me pk mn,sl zj 1 zp] B w0 ((rc 87 10 g [PG gc,I 1,I p1,I p2,I p3,I ms,I tt,I ls,sl At nt ct,sl none 0 0])::R) (λv R'=> ∃(A8:AF) (c8:Nat),v= .tuple #[sl A8 b.length c8,I 0]/\R'=(ru 5 A8 b.length c8 b)::(rc 87 10 g [PG gc,I 1,I p1,I p2,I p3,I ms,I tt,I ls,sl At nt ct,sl none 0 0])::R):=by
 subst Fi;refine fn2 Iu Z Z Z ?_;refine wq<|wg Z<|wn Z<|aD<|wq<|wm Z<|wy (aG Z)<|wy (yF 1 1 ig eQ Z)<|wy (yF 0 1 bg sz3 Z)<|wy (yL 0 au Z Z Z)<|aA<|aH ?_;refine wq<|wR Z Z<|wn Z<|dS Z<|wq<|wm Z<|wm Z<|wy (aF aa sz3 Z Z (RdC.right j7 [_]) (by first|decide|omega) (by first|decide|omega)) ?_;refine wy (aU au Z Z (RdC.right j7 [_]) (by first|decide|omega) (by first|decide|omega)) ?_;refine wa (aC bMz Z (Ct.fresh (λw hw=>aXr ((RdC.right kp [_]) w hw) b8 dr hN))) ?_;rintro _ _⟨_,rfl,cg,ce,rfl,rfl⟩;refine wX Z Z<|wX Z Z<|wg Z<|wn Z<|bU (R1:=((ru 5 cg l.length ce (rP l (rd ([at_]) 0)))::(rc 87 10 g [PG gc,I 1,I p1,I p2,I p3,I ms,I tt,I ls,sl At nt ct,sl none 0 0])::R)) hiZ ?_;refine⟨_,_,Z,Z,?_⟩;have zr:l.length=b.length:=by rw[<-hb,yV]
 rw[zr];have g9:rP l (rd [at_] 0)=b:=hb;rw[g9];exact⟨_,_,Z,Z⟩
theorem aXv (kp:RdC B w0 R me pk mn 1 (ints .u8 l)) (Fi:pk=l.length) (b8:aN l) (hb:backL l (fQ (fsL l))=b) (hN:l.length<=100000):
  CT 161 #[PG g,sl me pk mn,sl none 0 0] B w0 ((rc 87 10 g [PG gc,I 2,I p1,I p2,I p3,I ms,I tt,I ls,sl At nt ct,sl none 0 0])::R) (λv R'=> ∃(A8:AF) (c8:Nat),v= .tuple #[sl A8 b.length c8,I 0]/\R'=(ru 5 A8 b.length c8 b)::(rc 87 10 g [PG gc,I 2,I p1,I p2,I p3,I ms,I tt,I ls,sl At nt ct,sl none 0 0])::R):=by
 subst Fi;refine fn2 Iu Z Z Z ?_;refine wq<|wg Z<|wn Z<|aD<|wq<|wm Z<|wy (aG Z)<|wy (yF 1 1 ig eQ Z)<|wy (yF 0 1 bg sz3 Z)<|wy (yL 0 au Z Z Z)<|aA<|aH ?_;refine wq<|wQ Z Z<|wn Z<|aP Z<|wq<|wR Z Z<|wn Z<|dS Z<|wq<|wm Z ?_;refine wa (aC bMy Z (Ct.fresh (λw hw=>aGt ((RdC.right kp [_]) w hw) b8 hN))) ?_;rintro _ _⟨_,rfl,cg,ce,rfl,rfl⟩;refine wX Z Z<|wX Z Z<|wg Z<|wn Z<|bU (R1:=((ru 5 cg ((backL l (fQ (fsL l))).length) ce (backL l (fQ (fsL l))))::(rc 87 10 g [PG gc,I 2,I p1,I p2,I p3,I ms,I tt,I ls,sl At nt ct,sl none 0 0])::R)) hiZ ?_;refine⟨_,_,Z,Z,?_⟩;rw[hb];exact⟨_,_,Z,Z⟩
theorem aGq (ac:RdC B w0 R0 ap bl an 1 (ints .u8 u)) (cr:bl=u.length) (hN:u.length<=1000000) (am:aN u) (yk:nt=s.length) (hu:u=nN 0 p2 b t) (cx:aN b) (zv:b.length<=100000/\s.length<=100000) (hf:(b.length:Int)<=p3/\(b.length:Int)<=ms-tt) (pe:p2=0\/p2=1) (hb:(-1000000<=ms/\ms<=1000000)/\(0<=tt/\tt<=1000000)):
  CT 91 #[PG g,I (b.length:Int)] B w0 ((rc 87 10 g [PG gc,I 0,I p1,I p2,I p3,I ms,I tt,I ls,sl At nt ct,sl none 0 0])::(rc 146 1 gc [sl ap bl an])::(ru 5 At nt ct s)::(X++R0)) (λv R'=> ∃(A7:AF) (c7:Nat),∃(A9:AF) (c9:Nat),RdC B w0 R0 A9 (t).length c9 1 (ints .u8 (t))/\v=I 0/\R'=(rc 87 10 g [PG gc,I 0,I p1,I p2,I p3,I ms,I (tt+(b.length:Int)),I ls,sl A7 ((s++b).length) c7,sl none 0 0])::(rc 146 1 gc [sl A9 ((t).length) c9])::(ru 5 A7 ((s++b).length) c7 (s++b))::(X++R0)):=by
 subst cr;subst yk;rw[nN,KT (t:=0) cC cC] at hu;dsimp only at hu;rw[jd] at hu;have s8:b.length=b.length:=rfl;have yy:=bu List.length hu;simp only[ah] at yy;have Me:=am;rw[hu] at Me;have ke:0<=bv (gQ b)/\bv (gQ b)<4294967296:=⟨by unfold bv;omega,by unfold bv;have:=(gQ b).isLt;omega⟩;refine fn1 Js Z Z Z ?_;refine wq<|wn Z<|aD<|wq<|wm Z<|wm Z<|wa (aC aWl Z (Ct.at 0 Z (aEy hf.1 G))) ?_;rintro _ _⟨rfl,rfl⟩;refine mW 13 Z G<|wy (dW Z)<|aA<|aP Z<|aI<|wq<|wm Z<|wy (aG Z)<|wy (yF 6 6 ig sz3 Z)<|wy (yL 0 au Z Z Z)<|wm Z<|wA Z Z<|wy (aG Z)<|wy (yF 6 6 ig sz3 Z) ?_;refine dC (bE 0 Z Z Z sz3 Z Z Z Z (ak Z)) ?_;rintro _ _ rfl;refine aA<|wq<|wm Z<|wm Z<|wa (aC aWk Z (Ct.at 0 Z (aMn))) ?_;rintro _ _⟨rfl,rfl⟩;refine wm Z<|wX Z Z<|wX Z Z<|wg Z<|wn Z<|aD<|wq<|wm Z<|wy (dW Z)<|aA<|aP Z<|aI<|aD ?_;refine aK<|wm Z<|wm Z<|wa (aC aWj Z ((FV (X:=([(ru 5 At s.length ct s)]++X)) (R0:=R0) (x:=bv (gQ b)) (l:=b) (t:=t) ac Z G am ke pe cx G hu))) ?_;rintro _ _⟨ns,pi,cg,ce,ti,rfl,rfl⟩;refine wm Z<|wX Z Z<|wX Z Z<|wX Z Z<|wg Z<|wg Z<|wn Z<|aD<|wq<|wm Z<|wy (dW Z)<|aA<|aP Z ?_;refine aI<|wq<|wm Z<|wm Z<|wm Z<|wa (aC aWi Z (Ct.pick [1,0,2,3] 4 cC Z (aXx (rdr 0 Z) Z))) ?_;rintro _ _⟨rfl,rfl⟩;refine wm Z<|wX Z Z<|wX Z Z<|wg Z<|wn Z<|aD<|wq<|wm Z<|wy (Yl.f (jP Z Z) cC)<|aA<|aP Z<|aI<|aD ?_;refine wq<|wa (aC aFu Z (Ct.fresh (λw hw=>oU))) ?_;rintro _ _⟨_,rfl,io,rfl,rfl⟩;refine wm Z<|wa (iQ [Value.slice ns ((b).length) pi] ay nS Z Z Z Z) ?_;rintro _ _⟨xr,rfl,rfl⟩;refine wa (aC aFt Z (Ct.at 1 Z (oQ (ls:=[b]) (.inl ⟨Z,Z,dh ..,G⟩) (rdr 0 rfl) rfl (yZ.one (l:=b) (rdr 2 rfl) cx (by first|rfl|simp|(simp[upd];done))) (Big.one (by first|omega|decide|simp))))) ?_;rintro _ _⟨rfl,rfl⟩;refine wm Z<|wy (Yl.f (aPq (p:=gQ ([b]).flatten) (q:=gQ b) Z Z) (λh=>h cD)) ?_;refine aA<|aP Z<|aI<|aD<|wq<|wm Z<|wy (aG Z)<|wy (yF 1 1 ig eQ Z)<|wy (yF 0 1 bg sz3 Z)<|wy (yL 2 au Z Z Z)<|wy (Yl.t (jP Z Z) cC)<|aA<|dS Z<|aK ?_;refine wm Z<|wm Z<|wy (aG Z)<|wy (yF 8 8 ig pJ Z)<|wy (yF 0 8 dm dH Z)<|wy (yL 2 af Z Z Z)<|wm Z<|wa (aQ 5 Z af zb5 Z Z Z (rdr 3 Z)) ?_;rintro _ _⟨dv,br,rfl,rfl⟩;refine bC (v:=sl dv (s.length+((b).length)) br) Z<|wy (aG Z)<|wy (yF 8 8 ig pJ Z)<|wy (yF 0 8 dm dH Z)<|dC (bE 2 Z Z Z dH Z Z Z Z (ak Z)) ?_;rintro _ _ rfl;refine aA<|wq<|wn Z<|aT [2,4,5] 6 cC Z ?_;refine⟨_,Z,?_⟩;have Ug:s.length+b.length=(s++b).length:=by rw[ah]
 rw[Ug];exact⟨_,_,_,_,ti,Z,Z⟩
theorem aGp (ac:RdC B w0 R0 ap bl an 1 (ints .u8 u)) (cr:bl=u.length) (hN:u.length<=1000000) (am:aN u) (yk:nt=s.length) (hu:u=nN 1 p2 b t) (cx:aN b) (zv:b.length<=100000/\s.length<=100000) (hf:(b.length:Int)<=p3/\(b.length:Int)<=ms-tt) (pe:p2=0\/p2=1) (hb:(-1000000<=ms/\ms<=1000000)/\(0<=tt/\tt<=1000000)):
  CT 91 #[PG g,I (b.length:Int)] B w0 ((rc 87 10 g [PG gc,I 1,I p1,I p2,I p3,I ms,I tt,I ls,sl At nt ct,sl none 0 0])::(rc 146 1 gc [sl ap bl an])::(ru 5 At nt ct s)::(X++R0)) (λv R'=> ∃(A7:AF) (c7:Nat),∃(A9:AF) (c9:Nat),RdC B w0 R0 A9 (t).length c9 1 (ints .u8 (t))/\v=I 0/\R'=(rc 87 10 g [PG gc,I 1,I p1,I p2,I p3,I ms,I (tt+(b.length:Int)),I ls,sl A7 ((s++b).length) c7,sl none 0 0])::(rc 146 1 gc [sl A9 ((t).length) c9])::(ru 5 A7 ((s++b).length) c7 (s++b))::(X++R0)):=by
 subst cr;subst yk;obtain⟨a,vf,Uf⟩:=qE b;rw[nN,KU vf Uf] at hu;have hz:=mR vf Uf;have s7:=zO (s:=b) (k:=0) G;dsimp only at hu;have s8:(ofL b a).length=b.length:=(CU vf Uf).length_eq;have yy:=bu List.length hu;simp only[ah] at yy;have Me:=am;rw[hu] at Me;have ke:0<=bv (gQ b)/\bv (gQ b)<4294967296:=⟨by unfold bv;omega,by unfold bv;have:=(gQ b).isLt;omega⟩;refine fn1 Js Z Z Z ?_;refine wq<|wn Z<|aD<|wq<|wm Z<|wm Z<|wa (aC aWl Z (Ct.at 0 Z (aEx hf.1 G))) ?_;rintro _ _⟨rfl,rfl⟩;refine mW 13 Z G<|wy (dW Z)<|aA<|aP Z<|aI<|wq<|wm Z<|wy (aG Z)<|wy (yF 6 6 ig sz3 Z)<|wy (yL 0 au Z Z Z)<|wm Z<|wA Z Z<|wy (aG Z)<|wy (yF 6 6 ig sz3 Z) ?_;refine dC (bE 0 Z Z Z sz3 Z Z Z Z (ak Z)) ?_;rintro _ _ rfl;refine aA<|wq<|wm Z<|wm Z<|wa (aC aWk Z ((aMm (X:=([(ru 5 At s.length ct s)]++X)) (R0:=R0) (at_:=(zat a)) (t:=aW ((bR (ofL b a) p2).length:Int)++(eG (bv (gQ b))++(bR (ofL b a) p2++t))) ac Z G cF G hu))) ?_;rintro _ _⟨ns,cg,ce,ti,rfl,rfl⟩;refine wm Z<|wX Z Z<|wX Z Z<|wg Z<|wn Z<|aD<|wq<|wm Z<|wy (dW Z)<|aA<|aP Z<|aI<|aD ?_;refine aK<|wm Z<|wm Z<|wa (aC aWj Z (Ct.pick [1,2,0,3] 4 cC Z (FV (X:=([(ri 3 ns 1 1 ([(zat a)])),(ru 5 At s.length ct s)]++X)) (R0:=R0) (x:=bv (gQ b)) (l:=(ofL b a)) (t:=t) ti Z (by simp only[ah];omega) (aN.back Me) ke pe (yJ cx vf) G Z))) ?_;rintro _ _⟨kd,mu,fm,kx,Lm,rfl,rfl⟩;refine wm Z<|wX Z Z<|wX Z Z<|wX Z Z<|wg Z<|wg Z<|wn Z<|aD<|wq<|wm Z<|wy (dW Z)<|aA<|aP Z ?_;refine aI<|wq<|wm Z<|wm Z<|wm Z<|wa (aC aWi Z (Ct.pick [1,0,2,3,4] 5 cC Z (aXw (rdr 0 Z) Z (rdr 2 Z) (yJ cx vf) (HY cx vf Uf).1 (HY cx vf Uf).2 G))) ?_;rintro _ _⟨bw,bx,rfl,rfl⟩;refine wm Z<|wX Z Z<|wX Z Z<|wg Z<|wn Z<|aD<|wq<|wm Z<|wy (Yl.f (jP Z Z) cC)<|aA<|aP Z<|aI<|aD ?_;refine wq<|wa (aC aFu Z (Ct.fresh (λw hw=>oU))) ?_;rintro _ _⟨_,rfl,iu,rfl,rfl⟩;refine wm Z<|wa (iQ [Value.slice bw ((b).length) bx] ay nS Z Z Z Z) ?_;rintro _ _⟨jp,rfl,rfl⟩;refine wa (aC aFt Z (Ct.at 1 Z (oQ (ls:=[b]) (.inl ⟨Z,Z,dh ..,G⟩) (rdr 0 rfl) rfl (yZ.one (l:=b) (rdr 1 rfl) cx (by first|rfl|simp|(simp[upd];done))) (Big.one (by first|omega|decide|simp))))) ?_;rintro _ _⟨rfl,rfl⟩;refine wm Z<|wy (Yl.f (aPq (p:=gQ ([b]).flatten) (q:=gQ b) Z Z) (λh=>h cD)) ?_;refine aA<|aP Z<|aI<|aD<|wq<|wm Z<|wy (aG Z)<|wy (yF 1 1 ig eQ Z)<|wy (yF 0 1 bg sz3 Z)<|wy (yL 3 au Z Z Z)<|wy (Yl.t (jP Z Z) cC)<|aA<|dS Z<|aK ?_;refine wm Z<|wm Z<|wy (aG Z)<|wy (yF 8 8 ig pJ Z)<|wy (yF 0 8 dm dH Z)<|wy (yL 3 af Z Z Z)<|wm Z<|wa (aQ 7 Z af zb5 Z Z Z (rdr 2 Z)) ?_;rintro _ _⟨fb,pm,rfl,rfl⟩;refine bC (v:=sl fb (s.length+((b).length)) pm) Z<|wy (aG Z)<|wy (yF 8 8 ig pJ Z)<|wy (yF 0 8 dm dH Z)<|dC (bE 3 Z Z Z dH Z Z Z Z (ak Z)) ?_;rintro _ _ rfl;refine aA<|wq<|wn Z<|aT [3,5,7] 8 cC Z ?_;refine⟨_,Z,?_⟩;have Ug:s.length+b.length=(s++b).length:=by rw[ah]
 rw[Ug];exact⟨_,_,_,_,Lm,Z,Z⟩
theorem aGo (ac:RdC B w0 R0 ap bl an 1 (ints .u8 u)) (cr:bl=u.length) (hN:u.length<=1000000) (am:aN u) (yk:nt=s.length) (hu:u=nN 2 p2 b t) (cx:aN b) (zv:b.length<=100000/\s.length<=100000) (hf:(b.length:Int)<=p3/\(b.length:Int)<=ms-tt) (pe:p2=0\/p2=1) (hb:(-1000000<=ms/\ms<=1000000)/\(0<=tt/\tt<=1000000)):
  CT 91 #[PG g,I (b.length:Int)] B w0 ((rc 87 10 g [PG gc,I 2,I p1,I p2,I p3,I ms,I tt,I ls,sl At nt ct,sl none 0 0])::(rc 146 1 gc [sl ap bl an])::(ru 5 At nt ct s)::(X++R0)) (λv R'=> ∃(A7:AF) (c7:Nat),∃(A9:AF) (c9:Nat),RdC B w0 R0 A9 (t).length c9 1 (ints .u8 (t))/\v=I 0/\R'=(rc 87 10 g [PG gc,I 2,I p1,I p2,I p3,I ms,I (tt+(b.length:Int)),I ls,sl A7 ((s++b).length) c7,sl none 0 0])::(rc 146 1 gc [sl A9 ((t).length) c9])::(ru 5 A7 ((s++b).length) c7 (s++b))::(X++R0)):=by
 subst cr;subst yk;obtain⟨T,Tr,hsT⟩:=zC (bws b);rw[nN,KV Tr hsT] at hu;dsimp only at hu;rw[jd] at hu;have s8:(T.map (lastB (bws b))).length=b.length:=by rw[bq,EJ Tr]
 have yy:=bu List.length hu;simp only[ah] at yy;have Me:=am;rw[hu] at Me;have ke:0<=bv (gQ b)/\bv (gQ b)<4294967296:=⟨by unfold bv;omega,by unfold bv;have:=(gQ b).isLt;omega⟩;refine fn1 Js Z Z Z ?_;refine wq<|wn Z<|aD<|wq<|wm Z<|wm Z<|wa (aC aWl Z (Ct.at 0 Z (aEw hf.1 G))) ?_;rintro _ _⟨rfl,rfl⟩;refine mW 13 Z G<|wy (dW Z)<|aA<|aP Z<|aI<|wq<|wm Z<|wy (aG Z)<|wy (yF 6 6 ig sz3 Z)<|wy (yL 0 au Z Z Z)<|wm Z<|wA Z Z<|wy (aG Z)<|wy (yF 6 6 ig sz3 Z) ?_;refine dC (bE 0 Z Z Z sz3 Z Z Z Z (ak Z)) ?_;rintro _ _ rfl;refine aA<|wq<|wm Z<|wm Z<|wa (aC aWk Z (Ct.at 0 Z (aMl))) ?_;rintro _ _⟨rfl,rfl⟩;refine wm Z<|wX Z Z<|wX Z Z<|wg Z<|wn Z<|aD<|wq<|wm Z<|wy (dW Z)<|aA<|aP Z<|aI<|aD ?_;refine aK<|wm Z<|wm Z<|wa (aC aWj Z ((FV (X:=([(ru 5 At s.length ct s)]++X)) (R0:=R0) (x:=bv (gQ b)) (l:=(T.map (lastB (bws b)))) (t:=t) ac Z G am ke pe (kW Tr (by rw[nK];exact cx)) G hu))) ?_;rintro _ _⟨ns,pi,cg,ce,ti,rfl,rfl⟩;refine wm Z<|wX Z Z<|wX Z Z<|wX Z Z<|wg Z<|wg Z<|wn Z<|aD<|wq<|wm Z<|wy (dW Z)<|aA<|aP Z ?_;refine aI<|wq<|wm Z<|wm Z<|wm Z<|wa (aC aWi Z (Ct.pick [1,0,2,3] 4 cC Z (aXv (rdr 0 Z) Z (kW Tr (by rw[nK];exact cx)) (aPg cx Tr hsT) G))) ?_;rintro _ _⟨gn,mj,rfl,rfl⟩;refine wm Z<|wX Z Z<|wX Z Z<|wg Z<|wn Z<|aD<|wq<|wm Z<|wy (Yl.f (jP Z Z) cC)<|aA<|aP Z<|aI<|aD ?_;refine wq<|wa (aC aFu Z (Ct.fresh (λw hw=>oU))) ?_;rintro _ _⟨_,rfl,xr,rfl,rfl⟩;refine wm Z<|wa (iQ [Value.slice gn ((b).length) mj] ay nS Z Z Z Z) ?_;rintro _ _⟨j4,rfl,rfl⟩;refine wa (aC aFt Z (Ct.at 1 Z (oQ (ls:=[b]) (.inl ⟨Z,Z,dh ..,G⟩) (rdr 0 rfl) rfl (yZ.one (l:=b) (rdr 1 rfl) cx (by first|rfl|simp|(simp[upd];done))) (Big.one (by first|omega|decide|simp))))) ?_;rintro _ _⟨rfl,rfl⟩;refine wm Z<|wy (Yl.f (aPq (p:=gQ ([b]).flatten) (q:=gQ b) Z Z) (λh=>h cD)) ?_;refine aA<|aP Z<|aI<|aD<|wq<|wm Z<|wy (aG Z)<|wy (yF 1 1 ig eQ Z)<|wy (yF 0 1 bg sz3 Z)<|wy (yL 3 au Z Z Z)<|wy (Yl.t (jP Z Z) cC)<|aA<|dS Z<|aK ?_;refine wm Z<|wm Z<|wy (aG Z)<|wy (yF 8 8 ig pJ Z)<|wy (yF 0 8 dm dH Z)<|wy (yL 3 af Z Z Z)<|wm Z<|wa (aQ 6 Z af zb5 Z Z Z (rdr 2 Z)) ?_;rintro _ _⟨fz,ci,rfl,rfl⟩;refine bC (v:=sl fz (s.length+((b).length)) ci) Z<|wy (aG Z)<|wy (yF 8 8 ig pJ Z)<|wy (yF 0 8 dm dH Z)<|dC (bE 3 Z Z Z dH Z Z Z Z (ak Z)) ?_;rintro _ _ rfl;refine aA<|wq<|wn Z<|aT [3,5,6] 7 cC Z ?_;refine⟨_,Z,?_⟩;have Ug:s.length+b.length=(s++b).length:=by rw[ah]
 rw[Ug];exact⟨_,_,_,_,ti,Z,Z⟩
end Go.Proofs.YtdbebmmhdefgdaaGreat
namespace Go.Eng
open Go Go.RowKit Go.Pure
section
variable {P:Program} {n:Nd} {B:Nat} {w0:World} {L:Env} {R:List Row} {ty:TypeId}
def CellIs (L:Env) (R:List Row) (p sz:Nat) (xs:AG):Prop:= ∃(g i:Nat) (r:Row),lk L p=some (.pointer (some ⟨g,0,none⟩))/\R[i]? =some r/\r.ro=false/\r.A=some ⟨g,0,none⟩/\r.n=1/\r.c=1/\r.sz=sz/\r.xs=xs
theorem CellIs.load {m:Nat} {p sz:Nat} {xs:AG} {a:Act} {w:World} (h:CellIs L R p sz xs) (hs:Sat (m:Nd) L a) (hp:Hp B w0 w R): ∃g e,a.tmps[p]?.getD undef= .pointer (some ⟨g,0,none⟩)/\w.heap[g]? =some (.cells xs.toArray e (0,0))/\xs.length=sz:=by
 obtain⟨g,i,r,h1,h2,h3,h4,h5,h6,h7,h8⟩:=h;have ij:=Row.lies_w (hp.own r (gu h2)) h3;rcases ij.2 with⟨hn,_⟩|⟨g',cap,cur,hv,_,hg,_,_,ke,ht⟩
 ·rw[h4] at hn;cases hn
 ·rw [h4] at hv;simp only[ku,mr,Az,Aj,Ak] at hv;obtain⟨rfl,rfl⟩:=hv;rw[h5,h7,Bi] at ht;rw[h6,h7,Bi] at ke
  have e:cur=r.xs.toArray:=by
   rw[<-ht,bi (by rw[jy];omega)]
  rw[h8] at e;subst e;exact⟨g,_,by have:=hs.getD h1;simpa using this,hg,by simpa using ke⟩
theorem bJd {f:FuncId} {fn:Func} {c:Code} {args:AG} {R:List Row} {Post:Value->List Row->Prop} {p1 p2 r3:Nat} {t1 t2:TypeId} {d1 d2:TypeDesc} {s1 s2:Nat} (hf:P.funcs[f]? =some fn) (hb:fn.body=some c) (hr:fn.results= #[.cell p1 t1, .cell p2 t2, .tmp r3]) (hl:Nat.ble args.length fn.ntmps=true)
  (hu1:P.underlying t1=some d1) (Dd:(match d1 with| .struct _| .array _ _=>true|_=>false)=true) (gd:(P.info? t1).map (·.size)=some s1)
  (Mv:P.underlying t2=some d2) (Ob:(match d2 with| .struct _| .array _ _=>true|_=>false)=true) (Oi:(P.info? t2).map (·.size)=some s2)
  (h:W P fn.ntmps B w0 c ⟨λL R'=> ∃xs ys u,CellIs L R' p1 s1 xs/\CellIs L R' p2 s2 ys/\lk L r3=some u/\ ∃R1,(∀w,Hp B w0 w R'->Hp B w0 w R1)/\Post (.tuple #[.agg xs.toArray, .agg ys.toArray,u]) R1,
   λL R'=> ∃xs ys u,CellIs L R' p1 s1 xs/\CellIs L R' p2 s2 ys/\lk L r3=some u/\ ∃R1,(∀w,Hp B w0 w R'->Hp B w0 w R1)/\Post (.tuple #[.agg xs.toArray, .agg ys.toArray,u]) R1,λ_ _ _=>False⟩ (ini 0 args) R):Ct P f args.toArray B w0 R Post:=by
 intro w hw;have Qb:args.length<=fn.ntmps:=ak hl
 have fin: ∀(L':Env) (R':List Row) (a':Act) (w':World),Sat fn.ntmps L' a'->Hp B w0 w' R'->(∃xs ys u,CellIs L' R' p1 s1 xs/\CellIs L' R' p2 s2 ys/\lk L' r3=some u/\ ∃R1,(∀w,Hp B w0 w R'->Hp B w0 w R1)/\Post (.tuple #[.agg xs.toArray, .agg ys.toArray,u]) R1)->
   ∃v R1,(results fn a'.tmps).run P w'= .ok v w'/\Hp B w0 w' R1/\Post v R1:=by
  rintro L' R' a' w' fj da ⟨xs,ys,u,h1,h2,h3,R1,h8,h9⟩;obtain⟨g,e,a1,b1,l1⟩:=h1.load fj da;obtain⟨g',e',a2,b2,l2⟩:=h2.load fj da;have hu3:=fj.val r3 u h3
  have oy:(results fn a'.tmps).run P w'= .ok (.tuple #[.agg xs.toArray, .agg ys.toArray,u]) w':=by
   simp[results,hr,a1,a2,hu3,asAddr,run_loadVar_row w' g e t1 xs.toArray (0,0) d1 b1 hu1 Dd (by rw[gd];simp[l1]),run_loadVar_row w' g' e' t2 ys.toArray (0,0) d2 b2 Mv Ob (by rw[Oi];simp[l2])]
  exact⟨_,R1,oy,h8 _ da,h9⟩
 refine calls_of_wp hf hb (wp_mono (wpIn_wide.1 (h _ w ⟨cH,rfl,λt v ht=> ?_⟩ hw)) ?_)
 ·obtain ⟨_,h2⟩:=aEu args 0 t v ht;simp only[yz] at h2;have bp:=(fw.1 h2).1;rw[<-h2];simp[Bc,bp]
 ·intro e a' w' hq;cases e with
  |normal=>
   obtain⟨L',R',fj,da,hx⟩:=hq;obtain⟨v,R1,oy,hh,pr⟩:=fin L' R' _ _ fj da hx;exact⟨fj.defers,v,oy,v,R1,rfl,hh,pr⟩
  |ret=>
   obtain⟨L',R',fj,da,hx⟩:=hq;obtain⟨v,R1,oy,hh,pr⟩:=fin L' R' _ _ fj da hx;exact⟨fj.defers,v,oy,v,R1,rfl,hh,pr⟩
  |exit id=>obtain⟨_,_,_,_,h⟩:=hq;exact h.elim
  |goto l=>exact hq
  |panic ch=>exact hq.elim
  |outgrown=>exact hq.elim
end
end Go.Eng
namespace Go.Proofs.YtdbebmmhdefgdaaGreat
open Go Go.Eng Go.Pure
open Tryz
set_option maxRecDepth 100000
variable {B g gc bl an nt ct:Nat} {w0:World} {X R0:List Row} {ap At:AF} {u t:AH} {p1 p2 p3 ms tt ls sz k:Int}
theorem aUz {p0:Int} {b0 b1 b2:Int} (ac:RdC B w0 R0 ap bl an 1 (ints .u8 u)) (cr:bl=u.length) (hN:u.length<=1000000) (am:aN u) (hu:u=[87,72,82,76,1]++([b0,b1,b2]++(aW sz++t))) (vf:0<=b0/\b0<=3) (Ts:(0<=b1/\b1<=2)/\(b2=0\/b2=1)/\(1<=sz/\sz<=16777216)):
  CT 89 #[PG g] B w0 ((rc 87 10 g [PG gc,I p0,I p1,I p2,I p3,I ms,I tt,I ls,sl At nt ct,sl none 0 0])::(rc 146 1 gc [sl ap bl an])::(X++R0)) (λv R'=> ∃(A9:AF) (c9:Nat),RdC B w0 R0 A9 (t).length c9 1 (ints .u8 (t))/\v=bt/\R'=(rc 87 10 g [PG gc,I b0,I b1,I b2,I sz,I ms,I tt,I ls,sl At nt ct,sl none 0 0])::(rc 146 1 gc [sl A9 ((t).length) c9])::(X++R0)):=by
 have h5:u.take (5:Int).toNat=[87,72,82,76,1]:=by rw[hu];rfl
 have hd5:u.drop (5:Int).toNat=[b0,b1,b2]++(aW sz++t):=by rw[hu];rfl
 have hd8:(u.drop (5:Int).toNat).drop (3:Int).toNat=aW sz++t:=by rw[hd5];rfl
 have yy:u.length=8+((aW sz).length+t.length):=by rw[hu];simp only[ah,dn,jb];omega
 refine(aFi (R:=X++R0) (m:=(aW sz).length) (RdC.right ac X) cr hN am h5 (by rw[hd5];rfl) G (by rw[hd8];exact vM.of ⟨G,G⟩ t) vf Ts).mono λv R' hv=> ?_;obtain⟨rfl,rfl⟩:=hv;have e:=RdC.fromI (l:=(aW sz).length) (RdC.fromI (l:=(3:Int).toNat) (RdC.fromI (l:=(5:Int).toNat) ac (by show 5<=bl;omega)) (by show 3<=bl-5;omega)) (by show(aW sz).length<=bl-5-3;omega);have hl:bl-(5:Int).toNat-(3:Int).toNat-(aW sz).length=t.length:=by show bl-5-3-_=_;omega
 have hd:((u.drop (5:Int).toNat).drop (3:Int).toNat).drop (aW sz).length=t:=by rw[hd8];exact Fw
 rw[hl,hd] at e;rw[hl];exact⟨_,_,e,Z,Z⟩
theorem aOy {s b:AH} (ac:RdC B w0 R0 ap bl an 1 (ints .u8 u)) (cr:bl=u.length) (hN:u.length<=1000000) (am:aN u) (yk:nt=s.length) (hu:u=nN k p2 b t) (cx:aN b) (zv:b.length<=100000/\s.length<=100000) (hf:(b.length:Int)<=p3/\(b.length:Int)<=ms-tt) (pe:p2=0\/p2=1) (hb:(-1000000<=ms/\ms<=1000000)/\(0<=tt/\tt<=1000000)) (hk:k=0\/k=1\/k=2):
  CT 91 #[PG g,I (b.length:Int)] B w0 ((rc 87 10 g [PG gc,I k,I p1,I p2,I p3,I ms,I tt,I ls,sl At nt ct,sl none 0 0])::(rc 146 1 gc [sl ap bl an])::(ru 5 At nt ct s)::(X++R0)) (λv R'=> ∃(A7:AF) (c7:Nat),∃(A9:AF) (c9:Nat),RdC B w0 R0 A9 (t).length c9 1 (ints .u8 (t))/\v=I 0/\R'=(rc 87 10 g [PG gc,I k,I p1,I p2,I p3,I ms,I (tt+(b.length:Int)),I ls,sl A7 ((s++b).length) c7,sl none 0 0])::(rc 146 1 gc [sl A9 ((t).length) c9])::(ru 5 A7 ((s++b).length) c7 (s++b))::(X++R0)):=by
 rcases hk with rfl|rfl|rfl
 ·exact aGq ac cr hN am yk hu cx zv hf pe hb
 ·exact aGp ac cr hN am yk hu cx zv hf pe hb
 ·exact aGo ac cr hN am yk hu cx zv hf pe hb
theorem aSh {q0 q1 q2 q3:Int} {w:AH} {so od:Int} (ac:RdC B w0 R0 ap bl an 1 (ints .u8 u)) (cr:bl=u.length) (hN:u.length<=1000000) (am:aN u) (hu:u=tZ k so od sz w) (Kj:aN w) (hS:w.length<=400) (hk:k=0\/k=1\/k=2) (hp:(0<=so/\so<=2)/\(od=0\/od=1)/\(1<=sz/\sz<=16777216)) (hms: -1000000<=ms/\ms<=1000000) (e9:(w.length:Int)<=ms\/w.length=0):
  CT 51 #[PG g] B w0 ((rc 87 10 g [PG gc,I q0,I q1,I q2,I q3,I ms,I 0,I 0,sl none 0 0,sl none 0 0])::(rc 146 1 gc [sl ap bl an])::(ru 5 none 0 0 ([]))::(X++R0)) (λv R'=> ∃(A7:AF) (c7:Nat) (L7:Int) (A9:AF) (c9:Nat),v=I 0/\R'=(rc 87 10 g [PG gc,I k,I so,I od,I sz,I ms,I (w.length:Int),I L7,sl A7 w.length c7,sl none 0 0])::(rc 146 1 gc [sl A9 0 c9])::(ru 5 A7 w.length c7 w)::(X++R0)):=by
 subst cr;have heb:=oP (t:=k) (so:=so) (o:=od) (sz:=sz) Kj hS G G G hp.2.2;have Mv:=hu;rw[TC] at Mv;have yy:=bu List.length Mv;simp only[ah,dn,jb] at yy;have Qc:u.length<=400000:=by rw[hu];exact heb.2
 have Sl:=am;rw[Mv] at Sl;have o7:aN (lL k od sz.toNat w 0):=aN.back (aN.back (aN.back Sl));refine fn1 Tryz.func51 Z Z Z ?_;refine wq<|wn Z<|aD<|wq<|wm Z<|wa (aC bOa Z ((aUz (X:=([(ru 5 none 0 0 ([]))]++X)) (R0:=R0) (b0:=k) (b1:=so) (b2:=od) (sz:=sz) (t:=lL k od sz.toNat w 0) ac Z G am Mv G hp))) ?_;rintro _ _⟨cg,ce,ti,rfl,rfl⟩;refine wy (dW Z)<|aA<|aP Z<|aI<|wq<|wn Z<|aD<|aH ?_;refine UI (λ(kk:Nat) (Ac:AF) (cc:Nat) (At:AF) (nt:Nat) (ct:Nat) (s:AH) (tt:Int) (ls:Int)=>[(0,PG g),(3,bf)]) (λkk Ac cc At nt ct s tt ls=>((rc 87 10 g [PG gc,I k,I so,I od,I sz,I ms,I tt,I ls,sl At nt ct,sl none 0 0])::(rc 146 1 gc [sl Ac ((lL k od sz.toNat w kk).length) cc])::(ru 5 At nt ct s)::(X++R0))) (λkk Ac cc At nt ct s tt ls=>(kk<=chK w.length sz.toNat)/\(RdC B w0 R0 Ac (lL k od sz.toNat w kk).length cc 1 (ints .u8 (lL k od sz.toNat w kk)))/\((lL k od sz.toNat w kk).length<=400000)/\(aN (lL k od sz.toNat w kk))/\(s=w.take (kk*sz.toNat))/\(nt=s.length)/\(tt=(s.length:Int))/\(ls=0\/ls=sz\/w.length<=kk*sz.toNat)) (λkk Ac cc At nt ct s tt ls=>(chK w.length sz.toNat-kk)) ?_ ?_
 ·exact⟨0,cg,ce,none,0,0,[],0,0,⟨(qg _),(ti),G,(o7),(by rw[Bq];rfl),(Z),(Z),(.inl Z)⟩,KP⟩
 intro kk Ac cc At nt ct s tt ls ⟨hkk,Od,hln,Nx,hs,hnt,htt,yi⟩;have Pz:(kk+1)*sz.toNat=kk*sz.toNat+sz.toNat:=by rw[xz,Bi]
 have kt:=aXi w sz.toNat kk;have Px:=bHp (m:=w.length) (n:=sz.toNat) (k:=kk) G;have lf:s.length=min (kk*sz.toNat) w.length:=by rw[hs,ax]
 refine aH<|wq<|wm Z ?_;refine(Classical.em (kk<chK w.length sz.toNat)).elim (λEq=> ?_) (λEq=> ?_)
 ·have bp:kk+1<=chK w.length sz.toNat:=Eq;have hwk:=Px.1 Eq;have Zw:=aDy (t:=k) (o:=od) Eq;have vl:=Nx;rw[Zw] at vl;have yd:=bu List.length Zw;rw[ah] at yd;have g9:aN (lL k od sz.toNat w (kk+1)):=aN.back (x:=(mK k (rQ w sz.toNat kk)).1++(aW (bR (mK k (rQ w sz.toNat kk)).2 od).length++(eG (bv (gQ (rQ w sz.toNat kk)))++bR (mK k (rQ w sz.toNat kk)).2 od))) (by have h:=aN.back vl;unfold nN at h;simpa only[gq] using h);have un:(lL k od sz.toNat w (kk+1)).length<=(nN k od (rQ w sz.toNat kk) (lL k od sz.toNat w (kk+1))).length:=by unfold nN;simp only[ah];omega
  refine wa (aC aOb Z ((CX (X:=([(ru 5 At nt ct s)]++X)) (R0:=R0) ((((rQ w sz.toNat kk).length:Nat):Int)) (nN k od (rQ w sz.toNat kk) (lL k od sz.toNat w (kk+1))) Od Z G Nx G Zw))) ?_;rintro _ _⟨ns,pi,Fr,rfl,rfl⟩;refine wm Z<|wX Z Z<|wX Z Z<|wg Z<|wn Z<|aD<|wq<|wm Z<|wy (dW Z)<|aA<|aP Z<|aI<|aD ?_;refine wq<|wm Z<|wy (Yl.f (fD Z Z))<|aA<|aP Z<|aI ?_;refine uM [(0,PG g),(3,bf),(4,I (((rQ w sz.toNat kk).length:Nat):Int))] ((rc 87 10 g [PG gc,I k,I so,I od,I sz,I ms,I tt,I ls,sl At nt ct,sl none 0 0])::(rc 146 1 gc [sl ns ((nN k od (rQ w sz.toNat kk) (lL k od sz.toNat w (kk+1))).length) pi])::(ru 5 At nt ct s)::(X++R0)) ?_ ?_
  ·refine bF mixed<|wD 0 Z (aJ Z)<|wD 1 Z (aJ Z)<|wG 2 Z Z Z (aJ Z)<|wG 3 Z Z Z (aG Z)<|wG 4 Z Z Z (yF 7 7 ig sz3 Z)<|wG 5 Z Z Z (yL 0 au Z Z Z)<|wG 6 Z Z Z (dA Z Z)<|wG 7 Z Z Z (aJ Z)<|oZ 28 Z (λba=> ?_) (λba=> ?_)
   ·refine wG 8 Z Z Z (aJ Z)<|wG 9 Z Z Z (aG Z)<|wG 10 Z Z Z (yF 7 7 ig sz3 Z)<|wG 11 Z Z Z (yL 0 au Z Z Z)<|wG 12 Z Z Z (aJ Z)<|wG 13 Z Z Z (aG Z)<|wG 14 Z Z Z (yF 1 1 ig eQ Z)<|wG 15 Z Z Z (yF 3 4 bg sz3 Z)<|wG 16 Z Z Z (yL 0 au Z Z Z)<|wG 17 Z Z Z (Yl.f (eZ Z Z))<|wG 18 Z Z Z (aS Z Z)<|wD 19 Z (aO Z Z)<|wD 20 Z (bB Z)<|wN ?_;exact KP
   ·refine wO 8 Z Z Z<|wO 9 Z Z Z<|wO 10 Z Z Z<|wO 11 Z Z Z<|wO 12 Z Z Z<|wO 13 Z Z Z<|wO 14 Z Z Z<|wO 15 Z Z Z<|wO 16 Z Z Z<|wO 17 Z Z Z<|wG 18 Z Z Z (aO Z Z)<|wD 19 Z (aO Z Z)<|wD 20 Z (bB Z)<|wN ?_;exact KP
  refine aD<|wq<|wm Z<|wm Z<|wa (aC bNz Z ((aOy (X:=([]++X)) (R0:=R0) (b:=(rQ w sz.toNat kk)) (t:=lL k od sz.toNat w (kk+1)) Fr Z G (aN.back vl) hnt Z (aGh Kj _ _) G G hp.2.1 G hk))) ?_;rintro _ _⟨bw,bx,gg,ef,f9,rfl,rfl⟩;refine wn Z<|wq<|wm Z<|wy (Yl.f (jP Z Z) cC)<|aA<|aP Z<|aI<|aK<|wm Z<|wm Z<|wy (aG Z)<|wy (yF 7 7 ig sz3 Z)<|dC (bE 0 Z Z Z sz3 Z Z Z Z (ak Z)) ?_;rintro _ _ rfl;refine aA ?_;exact⟨(kk+1),gg,ef,bw,(s++(rQ w sz.toNat kk)).length,bx,s++(rQ w sz.toNat kk),tt+((((rQ w sz.toNat kk)).length:Nat):Int),(((rQ w sz.toNat kk).length:Nat):Int),⟨(bp),(f9),G,(g9),(by rw[aOv,<-hs]),(Z),(by rw[ah];omega),G⟩,G,KP⟩
 ·have Oc:=RP (t:=k) (o:=od) (n:=sz.toNat) (u:=w) (k:=kk) G;have hwk: ¬kk*sz.toNat<w.length:=λh=>Eq (Px.2 h);have m4:s=w:=by rw[hs];exact bi G
  have hbe:aN (aW 0++aW (w.length:Int)):=by rw[<-Oc];exact Nx
  refine wa (aC aOb Z ((CX (X:=([(ru 5 At nt ct s)]++X)) (R0:=R0) (0) (aW (w.length:Int)) Od Z G Nx G Oc))) ?_;rintro _ _⟨na,db,Tw,rfl,rfl⟩;refine wm Z<|wX Z Z<|wX Z Z<|wg Z<|wn Z<|aD<|wq<|wm Z<|wy (dW Z)<|aA<|aP Z<|aI<|aD ?_;refine wq<|wm Z<|wR Z Z<|aA<|dS Z<|aR<|wq<|wm Z<|wa (aC aOb Z ((CX (X:=([(ru 5 At nt ct s)]++X)) (R0:=R0) ((w.length:Int)) ([]) Tw Z (by have:=bu List.length Oc;rw[ah] at this;omega) (aN.back hbe) G (jh _).symm))) ?_;rintro _ _⟨fb,pm,xl,rfl,rfl⟩;refine wm Z<|wX Z Z<|wX Z Z<|wg Z<|wn Z<|aD<|wq<|wm Z<|wy (dW Z)<|wm Z<|aB Z Z<|wm Z<|aB Z Z ?_;refine wm Z<|aB Z Z<|wy (aG Z)<|aB Z Z<|wy (yF 6 6 ig sz3 Z)<|aB Z Z<|wy (yL 0 au Z Z Z)<|aB Z Z<|wy (Yl.f (jP Z Z) (by rw[<-m4];omega)) ?_;refine wy (aO Z Z)<|wm Z<|aB Z Z<|wm Z<|aB Z Z<|wy (aG Z)<|aB Z Z<|wy (yF 0 0 ig aKv Z)<|aB Z Z<|wy (yL 0 Ab Z Z Z)<|aB Z Z<|wa (aC bNy Z (Ct.pick [1,0,2] 3 cC Z (aUe (k:=0) (R:=([(rc 87 10 g [PG gc,I k,I so,I od,I sz,I ms,I tt,I ls,sl At nt ct,sl none 0 0]),(ru 5 At nt ct s)]++X)++R0) (RdC.right xl ([(rc 87 10 g [PG gc,I k,I so,I od,I sz,I ms,I tt,I ls,sl At nt ct,sl none 0 0]),(ru 5 At nt ct s)]++X)) Z))) ?_;rintro _ _⟨rfl,rfl⟩;refine aB Z Z<|wy (Yl.f (dA Z Z) cC)<|wy (aO Z Z)<|wm Z<|aB Z Z<|wm Z<|aB Z Z<|wm Z<|aM Z Z Z Z<|aM Z Z Z Z<|aM Z Z Z Z<|aM Z Z Z Z<|aM Z Z Z Z<|aM Z Z Z Z<|aB Z Z ?_;refine wy (aO Z Z)<|wy (aO Z Z)<|aA<|aP Z<|aI<|wq<|wn Z<|aT [1,0,2] 3 cC Z ?_;refine⟨_,Z,?_⟩;rw[htt,hnt,m4];exact⟨_,_,_,_,_,Z,Z⟩
theorem bCe {w_:World} {ap:AF} {bl an:Nat} {u:AH} {lim:Int} {w:AH} {k so od sz:Int} (ac:Rd w_ ap bl an 1 (ints .u8 u)) (am:aN u) (hN:u.length<=1000000) (hu:u=tZ k so od sz w) (Kj:aN w) (hS:w.length<=400) (hk:k=0\/k=1\/k=2) (hp:(0<=so/\so<=2)/\(od=0\/od=1)/\(1<=sz/\sz<=16777216)) (Om: -1000<=lim/\lim<=1000000) (e9:(w.length:Int)<=lim\/w.length=0):
  CF 19 #[sl ap bl an,I lim] w_ (λv R'=> ∃A c,v= .tuple #[.agg #[sl A w.length c,sl none 0 0], .agg #[I k,I so,I od,I sz],I 0]/\R'=[(ru 5 A w.length c w)]):=by
 obtain rfl:=ac.lenI;refine bJd Tryz.func19 Z Z Z dm Z pJ bg Z eQ ?_;have kc:=ac.max;refine wq<|wa (kF (sz:=2) bIj Z) ?_;rintro _ _⟨aq,rfl,rfl⟩;refine wa (kF (sz:=4) bIi Z) ?_;rintro _ _⟨cy,rfl,rfl⟩;refine wn Z<|wq<|wm Z<|wa (aC bOo Z (Ct.fresh (λw hw=>WG ((ac.c _) w hw) hN))) ?_;rintro _ _⟨_,rfl,fi,ns,pi,rfl,rfl⟩;refine wm Z<|wy (sW Z Z)<|wy (gX (v:= .agg #[PG fi,I 0,I 0,I 0,I 0,I (min lim 100000),I 0,I 0,sl none 0 0,sl none 0 0]) Z (λw=>cA))<|wa (cB (sz:=10) rfl rfl) ?_;rintro _ _⟨io,rfl,rfl⟩;refine bT (R1:=[(ru 5 none 0 0 ([])),(rc 87 10 io [PG fi,I 0,I 0,I 0,I 0,I (min lim 100000),I 0,I 0,sl none 0 0,sl none 0 0]),(rc 146 1 fi [sl ns ((u).length) pi]),(ru 5 ns ((u).length) pi u),(rc 27 4 cy [I 0,I 0,I 0,I 0]),(rc 25 2 aq [sl none 0 0,sl none 0 0])]) (Sub.refl _) (λ_ h=>h.nil 5 1)<|wn Z<|aD<|wq<|wm Z<|wa (aC bOn Z (Ct.pick [1,2,0,3,4,5] 99 cC Z (aSh (X:=[]) (R0:=[(ru 5 ns ((u).length) pi u),(rc 27 4 cy [I 0,I 0,I 0,I 0]),(rc 25 2 aq [sl none 0 0,sl none 0 0])]) (rdr 0 Z) Z hN am hu Kj hS hk hp G G))) ?_;rintro _ _⟨gg,ef,L_9,bw,bx,rfl,rfl⟩;refine wn Z<|wq<|wm Z<|wy (Yl.f (jP Z Z) cC)<|aA<|aP Z<|aI<|aD<|UH (Rc:=[(rc 87 10 io [PG fi,I k,I so,I od,I sz,I (min lim 100000),I (w.length:Int),I L_9,sl gg w.length ef,sl none 0 0])]) mixed (λ_ h=>h.sel [0] cC Z) ?_;refine jI 0 Z cA Z (aJ Z) ?_;refine jI 1 Z cA Z (aG Z) ?_;refine jI 2 Z cA Z (yF 8 8 ig pJ Z) ?_;refine jI 3 Z cA Z (bM (vs:=[sl gg w.length ef,sl none 0 0]) (rdr 0 Z) dm Z pJ Z Z (ak Z) Z) ?_;refine jI 4 Z cA Z (aJ Z) ?_;refine jI 5 Z cA Z (aG Z) ?_;refine jI 6 Z cA Z (yF 1 1 ig eQ Z) ?_;refine jI 7 Z cA Z (bM (vs:=[I k,I so,I od,I sz]) (rdr 0 Z) bg Z eQ Z Z (ak Z) Z) ?_;refine kD 8 cA ?_;refine bNg 8 Z (jN (vs:=[sl gg w.length ef,sl none 0 0]) 5 Z pJ Z Z Z (by intro v hv;simp at hv;rcases hv with rfl|rfl<;>rfl) Z) ?_;rintro _ _ rfl;refine⟨λ_ h=>h.sel [0] cC Z,?_⟩;refine kD 9 cA ?_;refine bNg 9 Z (jN (vs:=[I k,I so,I od,I sz]) 4 Z eQ Z Z Z (by intro v hv;simp at hv;rcases hv with rfl|rfl|rfl|rfl<;>rfl) Z) ?_;rintro _ _ rfl;refine⟨λ_ h=>h.sel [0] cC Z,?_⟩;refine jI 10 Z cA Z (bB Z) ?_;refine xN cA ?_;refine bQ ?_;refine⟨_,_,_,⟨_,5,_,Z,Z,Z,Z,Z,Z,Z,Z⟩,⟨_,4,_,Z,Z,Z,Z,Z,Z,Z,Z⟩,Z,[(ru 5 gg w.length ef w)],λ_ h=>h.sel [2] cC Z,?_⟩;exact⟨_,_,Z,Z⟩
variable {w w0:World} {dg Aq ap:AF} {dd B cq bl an:Nat} {f:Value} {R:List Row} {u:AH} {so od sz:Int}
theorem aNh:
  CF 114 #[sl dg 0 dd,f] w (λv R'=>v=I (-1)):=by
 refine fn1 Il Z Z Z ?_;refine wq<|wn Z<|aD<|wq<|wm Z<|wy (aL ay Z)<|wm Z<|aA<|aH<|lT 1<|eB<|aD ?_;refine aK<|wy (Yl.f (eZ Z Z) cC)<|aA<|aD<|aP Z<|aR<|wq<|wn Z<|bQ ?_;refine⟨_,Z,?_⟩;rfl
theorem rH:
  CF 68 #[sl dg 0 dd,f] w (λv R'=>v=bf):=by
 refine fn1 Jr Z Z Z ?_;refine wq<|wn Z<|wq<|wm Z<|wm Z<|wa (aC aWp Z (Ct.quiet (λw hw=>aNh))) ?_;rintro _ _⟨rfl,rfl⟩;refine wy (Yl.f (iD Z Z))<|wn Z<|bQ ?_;refine⟨_,Z,?_⟩;rfl
theorem aBw:CT 39 #[sl Aq 0 cq] B w0 R (λv R'=> ∃(A:AF) (c:Nat),v=sl A 0 c/\R'=R):=by
 intro w hw;refine(Ct.fresh (λw hw=>TP (ws:=[]) (zS w (Hp.refl w)) (gD _ _) ⟨(λ_ h=>by cases h),cC⟩) w hw).mono ?_;rintro e w' ⟨v,R',he,hh,Rn,rfl,A,c,vals,Rs,hv,hs,rfl⟩;have h1:vals.length=(canon []).length:=hs.1;have h0:vals.length=0:=by rw[h1,TM];rfl
 rw[h0] at hv;exact⟨v,R,he,hh.right,A,c,hv,Z⟩
theorem bAx (ac:RdC B w0 R ap bl an 1 (ints .u8 u)) (cr:bl=u.length) (am:aN u) (hN:u.length<=100000) (hp:(0<=so/\so<=2)/\(od=0\/od=1)/\(1<=sz/\sz<=16777216)):
  CT 36 #[.agg #[sl ap bl an,sl Aq 0 cq], .agg #[I 0,I so,I od,I sz]] B w0 (R) (λv R'=>v=I 0/\R'=R):=by
 subst cr;refine fn1 Es Z Z Z ?_;refine wq<|wa (cB (sz:=2) Z Z) ?_;rintro _ _⟨aq,rfl,rfl⟩;refine wa (cB (sz:=4) Z Z) ?_;rintro _ _⟨fi,rfl,rfl⟩;refine wn Z<|wq<|wn Z<|wq<|wy (yF 0 0 bg sz3 Z)<|wy (yL 0 au Z Z Z)<|wQ Z Z<|wn Z<|aD<|aD ?_;refine aK<|wy (bM (vs:=[I 0,I so,I od,I sz]) (rdr 0 Z) bg Z eQ Z Z (ak Z) Z)<|wa (aC WF Z (xP G hp)) ?_;rintro _ _⟨rfl,rfl⟩;refine wy (dW Z)<|wm Z<|aB Z Z<|wm Z<|aB Z Z<|wy (dW Z)<|aB Z Z<|wm Z<|aB Z Z<|wy (yF 1 1 dm jC Z)<|aB Z Z<|wy (yL 1 ay Z Z Z)<|aB Z Z<|wy (aL ay Z)<|aB Z Z ?_;refine wy (Yl.f (dA Z Z))<|aB Z Z<|wy (aS Z Z)<|wy (aO Z Z)<|wm Z<|aB Z Z<|wm Z<|aB Z Z<|wm Z<|aM Z Z Z Z<|aM Z Z Z Z<|aM Z Z Z Z<|aM Z Z Z Z<|aB Z Z<|wy (aO Z Z) ?_;refine wy (aO Z Z)<|wm Z<|aB Z Z<|wy (yF 1 1 dm jC Z)<|aB Z Z<|wy (yL 1 ay Z Z Z)<|aB Z Z<|wm Z<|aB Z Z<|wa (aC aOc Z (Ct.quiet (λw hw=>rH))) ?_;rintro _ _⟨rfl,rfl⟩;refine wy (aO Z Z)<|aA<|aP Z<|aI<|aD<|aD<|bF mixed<|wD 0 Z (yF 0 0 dm dH Z)<|wD 1 Z (yL 1 af Z Z Z)<|wD 2 Z (aL af Z)<|wD 3 Z (yF 1 1 dm jC Z)<|wD 4 Z (yL 1 ay Z Z Z)<|wC 5 Z (aC AB Z (Ct.fresh (λw hw=>iO (zS w hw) (gD _ _) cE))) ?_;rintro _ _⟨_,rfl,fm,kx,rfl,rfl⟩;refine⟨.inr hrZ,?_⟩;refine wD 6 Z (aL af Z)<|wD 7 Z (cK Z Z (by have e:([]:AD).flatten.length=0:=rfl;omega)) ?_;refine wD 8 Z (Yl.f (dA Z Z) (by have e:([]:AD).flatten.length=0:=rfl;omega)) ?_;refine wD 9 Z (aJ Z)<|wG 10 Z Z Z (yF 1 1 dm jC Z)<|wG 11 Z Z Z (yL 2 ay Z Z Z)<|wG 12 Z Z Z (aL ay Z)<|wG 13 Z Z Z (Yl.f (dA Z Z))<|wD 14 Z (aO Z Z)<|wN<|aP Z<|aI<|wq<|wn Z<|aT [] 3 cC Z ?_;exact⟨_,Z,Z,Z⟩
theorem bAw (ac:RdC B w0 R ap bl an 1 (ints .u8 u)) (cr:bl=u.length) (am:aN u) (hN:u.length<=100000) (hp:(0<=so/\so<=2)/\(od=0\/od=1)/\(1<=sz/\sz<=16777216)):
  CT 36 #[.agg #[sl ap bl an,sl Aq 0 cq], .agg #[I 1,I so,I od,I sz]] B w0 (R) (λv R'=>v=I 0/\R'=R):=by
 subst cr;refine fn1 Es Z Z Z ?_;refine wq<|wa (cB (sz:=2) Z Z) ?_;rintro _ _⟨aq,rfl,rfl⟩;refine wa (cB (sz:=4) Z Z) ?_;rintro _ _⟨fi,rfl,rfl⟩;refine wn Z<|wq<|wn Z<|wq<|wy (yF 0 0 bg sz3 Z)<|wy (yL 0 au Z Z Z)<|wQ Z Z<|wn Z<|aD<|aD ?_;refine aK<|wy (bM (vs:=[I 1,I so,I od,I sz]) (rdr 0 Z) bg Z eQ Z Z (ak Z) Z)<|wa (aC WF Z (xP G hp)) ?_;rintro _ _⟨rfl,rfl⟩;refine wy (dW Z)<|wm Z<|aB Z Z<|wm Z<|aB Z Z<|wy (dW Z)<|aB Z Z<|wm Z<|aB Z Z<|wy (yF 1 1 dm jC Z)<|aB Z Z<|wy (yL 1 ay Z Z Z)<|aB Z Z<|wy (aL ay Z)<|aB Z Z ?_;refine wy (Yl.f (dA Z Z))<|aB Z Z<|wy (aS Z Z)<|wy (aO Z Z)<|wm Z<|aB Z Z<|wm Z<|aB Z Z<|wm Z<|aM Z Z Z Z<|aM Z Z Z Z<|aM Z Z Z Z<|aM Z Z Z Z<|aB Z Z<|wy (aO Z Z) ?_;refine wy (aO Z Z)<|wm Z<|aB Z Z<|wy (yF 1 1 dm jC Z)<|aB Z Z<|wy (yL 1 ay Z Z Z)<|aB Z Z<|wm Z<|aB Z Z<|wa (aC aOc Z (Ct.quiet (λw hw=>rH))) ?_;rintro _ _⟨rfl,rfl⟩;refine wy (aO Z Z)<|aA<|aP Z<|aI<|aD<|aD<|bF mixed<|wD 0 Z (yF 0 0 dm dH Z)<|wD 1 Z (yL 1 af Z Z Z)<|wD 2 Z (aL af Z)<|wD 3 Z (yF 1 1 dm jC Z)<|wD 4 Z (yL 1 ay Z Z Z)<|wC 5 Z (aC AB Z (Ct.fresh (λw hw=>iO (zS w hw) (gD _ _) cE))) ?_;rintro _ _⟨_,rfl,fm,kx,rfl,rfl⟩;refine⟨.inr hrZ,?_⟩;refine wD 6 Z (aL af Z)<|wD 7 Z (cK Z Z (by have e:([]:AD).flatten.length=0:=rfl;omega)) ?_;refine wD 8 Z (Yl.f (dA Z Z) (by have e:([]:AD).flatten.length=0:=rfl;omega)) ?_;refine wD 9 Z (aJ Z)<|wG 10 Z Z Z (yF 1 1 dm jC Z)<|wG 11 Z Z Z (yL 2 ay Z Z Z)<|wG 12 Z Z Z (aL ay Z)<|wG 13 Z Z Z (Yl.f (dA Z Z))<|wD 14 Z (aO Z Z)<|wN<|aP Z<|aI<|wq<|wn Z<|aT [] 3 cC Z ?_;exact⟨_,Z,Z,Z⟩
theorem bAv (ac:RdC B w0 R ap bl an 1 (ints .u8 u)) (cr:bl=u.length) (am:aN u) (hN:u.length<=100000) (hp:(0<=so/\so<=2)/\(od=0\/od=1)/\(1<=sz/\sz<=16777216)):
  CT 36 #[.agg #[sl ap bl an,sl Aq 0 cq], .agg #[I 2,I so,I od,I sz]] B w0 (R) (λv R'=>v=I 0/\R'=R):=by
 subst cr;refine fn1 Es Z Z Z ?_;refine wq<|wa (cB (sz:=2) Z Z) ?_;rintro _ _⟨aq,rfl,rfl⟩;refine wa (cB (sz:=4) Z Z) ?_;rintro _ _⟨fi,rfl,rfl⟩;refine wn Z<|wq<|wn Z<|wq<|wy (yF 0 0 bg sz3 Z)<|wy (yL 0 au Z Z Z)<|wQ Z Z<|wn Z<|aD<|aD ?_;refine aK<|wy (bM (vs:=[I 2,I so,I od,I sz]) (rdr 0 Z) bg Z eQ Z Z (ak Z) Z)<|wa (aC WF Z (xP G hp)) ?_;rintro _ _⟨rfl,rfl⟩;refine wy (dW Z)<|wm Z<|aB Z Z<|wm Z<|aB Z Z<|wy (dW Z)<|aB Z Z<|wm Z<|aB Z Z<|wy (yF 1 1 dm jC Z)<|aB Z Z<|wy (yL 1 ay Z Z Z)<|aB Z Z<|wy (aL ay Z)<|aB Z Z ?_;refine wy (Yl.f (dA Z Z))<|aB Z Z<|wy (aS Z Z)<|wy (aO Z Z)<|wm Z<|aB Z Z<|wm Z<|aB Z Z<|wm Z<|aM Z Z Z Z<|aM Z Z Z Z<|aM Z Z Z Z<|aM Z Z Z Z<|aB Z Z<|wy (aO Z Z) ?_;refine wy (aO Z Z)<|wm Z<|aB Z Z<|wy (yF 1 1 dm jC Z)<|aB Z Z<|wy (yL 1 ay Z Z Z)<|aB Z Z<|wm Z<|aB Z Z<|wa (aC aOc Z (Ct.quiet (λw hw=>rH))) ?_;rintro _ _⟨rfl,rfl⟩;refine wy (aO Z Z)<|aA<|aP Z<|aI<|aD<|aD<|bF mixed<|wD 0 Z (yF 0 0 dm dH Z)<|wD 1 Z (yL 1 af Z Z Z)<|wD 2 Z (aL af Z)<|wD 3 Z (yF 1 1 dm jC Z)<|wD 4 Z (yL 1 ay Z Z Z)<|wC 5 Z (aC AB Z (Ct.fresh (λw hw=>iO (zS w hw) (gD _ _) cE))) ?_;rintro _ _⟨_,rfl,fm,kx,rfl,rfl⟩;refine⟨.inr hrZ,?_⟩;refine wD 6 Z (aL af Z)<|wD 7 Z (cK Z Z (by have e:([]:AD).flatten.length=0:=rfl;omega)) ?_;refine wD 8 Z (Yl.f (dA Z Z) (by have e:([]:AD).flatten.length=0:=rfl;omega)) ?_;refine wD 9 Z (aJ Z)<|wG 10 Z Z Z (yF 1 1 dm jC Z)<|wG 11 Z Z Z (yL 2 ay Z Z Z)<|wG 12 Z Z Z (aL ay Z)<|wG 13 Z Z Z (Yl.f (dA Z Z))<|wD 14 Z (aO Z Z)<|wN<|aP Z<|aI<|wq<|wn Z<|aT [] 3 cC Z ?_;exact⟨_,Z,Z,Z⟩
end Go.Proofs.YtdbebmmhdefgdaaGreat
namespace Go.Proofs.YtdbebmmhdefgdaaGreat
open Go Go.Eng Go.RowKit Go.Shelf Go.Proofs
variable {n c m k g1 g2:Nat} {xs:AG} {A:AF} {zs:AH}
attribute [local go_sem] Oper.semAt_some
theorem mJ {W:World} {a:Addr} (h:Rd W (some a) n c 1 xs) {j:Nat} (hj:j<xs.length):W.cell? (a.add j)=some (xs[j]'hj):=by
 obtain⟨b,h1,h2⟩:=h.at_ j _ (av hj);obtain rfl:=je h1;exact h2
def chN (m n:Nat):Nat:=(m+n-1)/n
theorem GU (hn:1<=n):k<chN m n↔k*n<m:=by
 unfold chN;rw[Nat.lt_iff_add_one_le,Nat.le_div_iff_mul_le G,xz];omega
theorem aGd (h:n<=m-k*n):((k:Int)*(n:Int)+(n:Int)).toNat-k*n=min n (m-k*n):=by
 have xf:(k:Int)*(n:Int)=((k*n:Nat):Int):=cD
 omega
theorem aGb:((k:Int)*(n:Int)+min (n:Int) ((m-k*n:Nat):Int)).toNat-k*n=min n (m-k*n):=by
 have xf:(k:Int)*(n:Int)=((k*n:Nat):Int):=cD
 omega
theorem aGc (h:m-k*n<=n):((k:Int)*(n:Int)+((m-k*n:Nat):Int)).toNat-k*n=min n (m-k*n):=by
 have xf:(k:Int)*(n:Int)=((k*n:Nat):Int):=cD
 omega
theorem aGe {N:Nat} (hn:1<=n) (h:k<N):N-(intOf (.int .i64 ((k:Int)*n+n))).toNat/n<N-(intOf (.int .i64 ((k:Int)*n))).toNat/n:=by
 have e0:(intOf (.int .i64 ((k:Int)*n))).toNat=k*n:=by
  have xf:(k:Int)*(n:Int)=((k*n:Nat):Int):=cD
  simp only[intOf,xf];omega
 have e1:(intOf (.int .i64 ((k:Int)*n+n))).toNat=(k+1)*n:=by
  have xf:(k:Int)*(n:Int)=((k*n:Nat):Int):=cD
  simp only[intOf,xf,xz];omega
 rw[e0,e1,Cq _ G,Cq _ G];omega
theorem aGg {P:Program} {t e:TypeId} {p:Nat} {tm:Array Value} {s:Nat} {w:World} {o:Oper} (ht:P.underlying t=some (.slice e)) (hi:(P.info? e).map (·.size)=some 1)
  (ho:o.op= .slice t (.tmp 14) (some (.tmp 15)) none none) (hs:tm.size=s) (h14:tm[14]? =some (.slice A m c)) (h15:tm[15]? =some (.int .i64 (p:Int))) (hp:p<=m):
  (execOp ({tmps:=tm,defers:=[]}:Act).eval o).run P w= .ok (.value (.slice (jH A p c 1) (m-p) (c-p))) w:=by
 have h:=dF (P:=P) (n:=⟨s,[],none⟩) (B:=w.heap.size) (w0:=w) (L:=[(14, .slice A m c),(15, .int .i64 (p:Int))]) (R:=[]) (ty:=o.type) (x:= .tmp 14) (y:= .tmp 15) ht hi rfl rfl (l:=(p:Int)) G G
 have h2:=h {tmps:=tm,defers:=[]} w o ho rfl ⟨hs,rfl,λt v hv=>by
  rcases yN hv with⟨rfl,rfl⟩|⟨_,hv⟩
  ·exact h14
  ·rcases yN hv with⟨rfl,rfl⟩|⟨_,hv⟩
   ·exact h15
   ·simp[lk] at hv⟩ (Hp.refl w)
 rw[cz] at h2;exact h2
set_option maxRecDepth 100000 in
theorem aXh (hn:1<=n) (pj:n<=16777216) (ua:xs.length<=1000000):Iter Tryz.prog 73 #[.pointer (some ⟨g1,0,none⟩), .pointer (some ⟨g2,0,none⟩)] (λw=>Rd w (some ⟨g1,0,none⟩) 1 1 1 [.slice A xs.length c]/\Rd w (some ⟨g2,0,none⟩) 1 1 1 [.int .i64 (n:Int)]/\Rd w A xs.length c 1 xs) (chN xs.length n)
  (λk=>[.slice (jH A (k*n) c 1) (min n (xs.length-k*n)) (min n (xs.length-k*n))]):=by
 intro l J W hR hD hY h0;have hc:W.cell? ⟨g1,0,none⟩=some (.slice A xs.length c):=mJ (hR _ _ h0).1 (j:=0) cD;have hd:W.cell? ⟨g2,0,none⟩=some (.int .i64 (n:Int)):=mJ (hR _ _ h0).2.1 (j:=0) cD;have ox:=(hR _ _ h0).2.2.le;refine Ba Tryz.func73 rfl trivial ?_ rfl;simp only[Tryz.ntmps73,ql,dn,jb,Nat.reduceAdd,Nat.reduceSub,ww,wz,yt,ui,jd,jf]
 gi_wp2
 gi_loopw [4] (λi wr=> ∃k:Nat,k<=chN xs.length n/\i= .int .i64 ((k*n:Nat):Int)/\J k wr) (λi _=>chN xs.length n-(intOf i).toNat/n)
 case atStart=>exact⟨0,qg _,cD,h0⟩
 case round=>
  obtain⟨k,hk,rfl,sq⟩:=hrel;have ba:wr.cell? ⟨g1,0,none⟩=some (.slice A xs.length c):=mJ (hR _ _ sq).1 (j:=0) cD;have Dd:wr.cell? ⟨g2,0,none⟩=some (.int .i64 (n:Int)):=mJ (hR _ _ sq).2.1 (j:=0) cD;by_cases bp:k<chN xs.length n
  ·have Pz:k*n<xs.length:=(GU hn).1 bp
   have Yn:jH A (k*n) c 1=Option.map (λx=>x.add (k*n)) A:=by
    unfold jH;rw[df G,qf]
   gi_wp2
   refine wpIn_region_quiet_lit rfl cA cA ?_
   iterate 3 quiet_step_in (skip)
   refine wpQuietIn_step (by quiet_asked_in) (λK hK=> ?_);rw[di (by simp[Region.wanted])];refine⟨.slice (jH A (k*n) c 1) (xs.length-k*n) (c-k*n),λw' Mx=> ?_,hK _ ?_⟩
   ·unfold Oper.quietAtIn;rw[aGg (p:=k*n) (A:=A) (m:=xs.length) (c:=c) Tryz.underlying22 sz5 rfl rfl rfl cD G];exact⟨rfl,rfl⟩
   clear hK K
   iterate 3 quiet_step_in (skip)
   refine wpQuietIn_nil ?_;intro _ Mx;obtain⟨nq,hw''⟩:=Mx;subst hw'';have Xp:J k (wr.drewN nq):=hD k wr (wr.drawn+nq) sq G;have cj:(wr.drewN nq).cell? ⟨g1,0,none⟩=some (.slice A xs.length c):=mJ (hR _ _ Xp).1 (j:=0) cD;have Ob:(wr.drewN nq).cell? ⟨g2,0,none⟩=some (.int .i64 (n:Int)):=mJ (hR _ _ Xp).2.1 (j:=0) cD;obtain⟨fn,tmps,assign,body,hy,Np⟩:=hY k _ bp Xp;have rv:(k*n)/n=k:=Cq _ G;have mt:(k*n+n)/n=k+1:=by rw[<-Bp];exact Cq _ G
   gi_wp2
   all_goals
    rw[Yn] at hy
    first
     |rw[aGd (k:=k) (n:=n) (m:=xs.length) G,hy]
     |rw[aGc (k:=k) (n:=n) (m:=xs.length) G,hy]
     |rw[aGb (k:=k) (n:=n) (m:=xs.length),hy]
    gi_wp2
    refine⟨rfl,Np.mono ?_⟩;rintro e W3 ⟨rfl,In⟩;have hd3:W3.cell? ⟨g2,0,none⟩=some (.int .i64 (n:Int)):=mJ (hR _ _ In).2.1 (j:=0) cD
    gi_wp2
    go_roundw
    case rel=>exact⟨k+1,G,by simp[xz],In⟩
    case measure=>
     exact aGe hn bp
  ·obtain rfl:k=chN xs.length n:=G
   have Pz: ¬chN xs.length n*n<xs.length:=λh=>bp ((GU hn).2 h)
   gi_wp2
   go_end0
   exact⟨⟨_,rfl⟩,sq⟩
theorem aGf (hn:1<=n) (pj:n<=16777216) (ua:zs.length<=1000000):Iter Tryz.prog 73 #[.pointer (some ⟨g1,0,none⟩), .pointer (some ⟨g2,0,none⟩)] (λw=>Rd w (some ⟨g1,0,none⟩) 1 1 1 [.slice A zs.length c]/\Rd w (some ⟨g2,0,none⟩) 1 1 1 [.int .i64 (n:Int)]/\Rd w A zs.length c 1 (ints .u8 zs)) (chN zs.length n)
  (λk=>[.slice (jH A (k*n) c 1) (min n (zs.length-k*n)) (min n (zs.length-k*n))]):=by
 have h:=aXh (g1:=g1) (g2:=g2) (A:=A) (c:=c) (xs:=ints .u8 zs) hn pj (by rw[bX];exact ua);rw[bX] at h;exact h
theorem IU {sz:Int} (hn:1<=sz) (pj:sz<=16777216) (ua:zs.length<=1000000):Iter Tryz.prog 73 #[.pointer (some ⟨g1,0,none⟩), .pointer (some ⟨g2,0,none⟩)] (λw=>Rd w (some ⟨g1,0,none⟩) 1 1 1 [.slice A zs.length c]/\Rd w (some ⟨g2,0,none⟩) 1 1 1 [.int .i64 sz]/\Rd w A zs.length c 1 (ints .u8 zs)) (chN zs.length sz.toNat)
  (λk=>[.slice (jH A (k*sz.toNat) c 1) (min sz.toNat (zs.length-k*sz.toNat)) (min sz.toNat (zs.length-k*sz.toNat))]):=by
 have h:=aGf (g1:=g1) (g2:=g2) (A:=A) (c:=c) (n:=sz.toNat) (zs:=zs) G G ua;rw[lm G] at h;exact h
theorem RU {B:Nat} {w0:World} {R:List Row} {l:Nat} {k:IntKind} {xs:AH} (hr:RdC B w0 R A m c 1 (ints k xs)) (h1:l<=m):RdC B w0 R (jH A l c 1) (min n (m-l)) (min n (m-l)) 1 (ints k ((xs.drop l).take n)):=by
 intro w hw;have hl:=(hr w hw).lenI;have h:=hr.cutI (l:=l) (h:=l+min n (m-l)) G G w hw;rw[show l+min n (m-l)-l=min n (m-l) by omega] at h
 have e:(xs.drop l).take (min n (m-l))=(xs.drop l).take n:=by
  rcases Nat.le_total n (m-l) with a|a
  ·rw[zo a]
  ·rw[Nat.min_eq_right a,bi (by rw[az];omega),bi (by rw[az];omega)]
 rw[e] at h;exact⟨h.len,h.max,dx _,h.at_⟩
end Go.Proofs.YtdbebmmhdefgdaaGreat
namespace Go.Proofs.YtdbebmmhdefgdaaGreat
open Go Go.Eng Go.Pure
open Tryz
set_option maxRecDepth 100000
variable {w w0:World} {ap Aq:AF} {bl an B cq:Nat} {u acc:AH} {R:List Row} {k so od sz:Int}
theorem OP {n:Int} (ac:Rd w ap bl an 1 (ints .u8 u)) (hn:1<=n):
  CF 40 #[sl ap bl an,I n] w (λv R'=> ∃g1 g2,v= .func (.func 73) #[] #[PG g1,PG g2]/\R'=[(rc 22 1 g1 [sl ap u.length an]),(rc 3 1 g2 [I n])]):=by
 obtain rfl:=ac.lenI;refine fn1 Tryz.func40 Z Z Z ?_;have kc:=ac.max;refine wq<|wa (cB (sz:=1) Z Z) ?_;rintro _ _⟨aq,rfl,rfl⟩;refine wa (cB (sz:=1) Z Z) ?_;rintro _ _⟨cy,rfl,rfl⟩;refine wn Z<|aD<|wq<|wy (yL 0 au Z Z Z)<|wy (Yl.f (eZ Z Z))<|aA<|aP Z<|aI<|wq<|wy (mG Z Z)<|wn Z ?_;refine aT [1,0] 99 cC Z ?_;exact⟨_,Z,_,_,Z,Z⟩
theorem rJ {ar:AF} {bo aw:Nat} {al:AG} {ws:AD} (ao:Rd w ar bo aw 1 al) (bh:SlW .u8 w al ws) (hN:ws.flatten.length<=1000000/\ws.length<=1000000) (e:ws.flatten=u):
  CF 38 #[sl ar bo aw] w (λv R'=> ∃A c,v=sl A u.length c/\R'=[(ru 5 A u.length c u)]):=by
 subst e;exact iO ao bh hN
theorem aZs {A:AF} {c:Nat}:RdC B w0 R A 0 c 1 []:=λ_ _=>⟨rfl,G,G,λj v hv=>by simp at hv⟩
theorem aVq (h:acc=(([87,72,82,76]++[1,k%256,so%256,od%256])++aW sz)++lI k od sz.toNat u (chN u.length sz.toNat)) (hs:0<=so/\so<=2) (ho:od=0\/od=1) (hk:0<=k/\k<256):
  ([]++[acc]++[aW 0]++[aW (u.length:Int)]:AD).flatten=tZ k so od sz u:=by
 rw[h,ky hk.1 hk.2,ky (a:=so) G G,ky (a:=od) G G];unfold tZ;simp[chN,chK]
theorem aNz (h:acc=(([87,72,82,76]++[1,k%256,so%256,od%256])++aW sz)++lI k od sz.toNat u (chN u.length sz.toNat)) (hs:0<=so/\so<=2) (ho:od=0\/od=1) (hk:0<=k/\k<256) (hu:aN u) (hN:u.length<=100000) (hz:0<=sz):aN acc:=by
 rw[h];intro x hx;rcases dz.1 hx with hx|hx
 ·rcases dz.1 hx with hx|hx
  ·simp only[jf,jd,jc,vk,Gm] at hx;omega
  ·exact dB hz x hx
 ·exact(mQ hu hN _).2 x hx
theorem aJe (h:acc=(([87,72,82,76]++[1,k%256,so%256,od%256])++aW sz)++lI k od sz.toNat u (chN u.length sz.toNat)) (hu:aN u) (hS:u.length<=400) (h1:1<=sz) (h2:sz<=16777216):acc.length<=400000:=by
 have e1:=(mQ (t:=k) (o:=od) (n:=sz.toNat) hu G (chN u.length sz.toNat)).1;have e2:chN u.length sz.toNat<=u.length:=aGi G;have e3:(2*u.length+22)*chN u.length sz.toNat<=822*400:=Bh G G;have e4:=bW 4 sz G;have e5:=bu List.length h;rw[ah,ah] at e5;have e6:([87,72,82,76]++[1,k%256,so%256,od%256]:AH).length=8:=rfl;omega
theorem aOz (ac:RdC B w0 R ap bl an 1 (ints .u8 u)) (cr:bl=u.length) (am:aN u) (hN:u.length<=100000) (hp:(0<=so/\so<=2)/\(od=0\/od=1)/\(1<=sz/\sz<=16777216)) (hk:k=0\/k=1\/k=2):
  CT 41 #[sl ap bl an,sl Aq 0 cq, .agg #[I k,I so,I od,I sz]] B w0 R (λv R'=> ∃(A1:AF) (c1:Nat),v=sl A1 (bZ k od u).length c1/\R'=(ru 5 A1 ((bZ k od u).length) c1 (bZ k od u))::R):=by
 rcases hk with rfl|rfl|rfl
 ·exact aPd ac cr am hN hp
 ·exact aPc ac cr am hN hp
 ·exact aPb ac cr am hN hp
theorem bAt (ac:RdC B w0 R ap bl an 1 (ints .u8 u)) (cr:bl=u.length) (am:aN u) (hN:u.length<=100000) (hp:(0<=so/\so<=2)/\(od=0\/od=1)/\(1<=sz/\sz<=16777216)) (hk:k=0\/k=1\/k=2):
  CT 36 #[.agg #[sl ap bl an,sl Aq 0 cq], .agg #[I k,I so,I od,I sz]] B w0 R (λv R'=>v=I 0/\R'=R):=by
 subst cr;rcases hk with rfl|rfl|rfl
 ·exact bAx ac rfl am hN hp
 ·exact bAw ac rfl am hN hp
 ·exact bAv ac rfl am hN hp
theorem aJf (ac:Rd w ap bl an 1 (ints .u8 u)) (am:aN u) (hS:u.length<=400) (hp:(0<=so/\so<=2)/\(od=0\/od=1)/\(1<=sz/\sz<=16777216)) (hk:k=0\/k=1\/k=2):
  CF 16 #[.agg #[sl ap u.length an,sl Aq 0 cq], .agg #[I k,I so,I od,I sz]] w (λv R'=> ∃A c,v= .tuple #[sl A (tZ k so od sz u).length c,I 0]/\R'=[(ru 5 A ((tZ k so od sz u).length) c (tZ k so od sz u))]):=by
 obtain rfl:=ac.lenI;refine fnV Jn Z Z ?_;have kc:=ac.max;have hN:u.length<=100000:=G
 have Zs:=bW 4 sz G;have Zr:=bW 2 (u.length:Int) G;refine eP ?_;refine aK<|wa (cB (sz:=2) Z Z) ?_;rintro _ _⟨aq,rfl,rfl⟩;refine gM (R1:=[(rc 25 2 aq [sl ap u.length an,sl Aq 0 cq])]) Z<|wa (cB (sz:=4) Z Z) ?_;rintro _ _⟨cy,rfl,rfl⟩;refine gM (R1:=[(rc 27 4 cy [I k,I so,I od,I sz]),(rc 25 2 aq [sl ap u.length an,sl Aq 0 cq])]) Z<|wg Z<|wn Z ?_;refine eP ?_;refine wq<|wy (bM (vs:=[sl ap u.length an,sl Aq 0 cq]) (rdr 1 Z) dm Z pJ Z Z (ak Z) Z)<|wy (bM (vs:=[I k,I so,I od,I sz]) (rdr 0 Z) bg Z eQ Z Z (ak Z) Z)<|wa (aC bHh Z (bAt (ac.c _) (by first|rfl|(simp;done)|omega) am hN hp hk)) ?_;rintro _ _⟨rfl,rfl⟩;refine wn Z<|wq<|wm Z<|wy (Yl.f (jP Z Z) cC)<|aA<|aP Z<|aI ?_;refine eP ?_;refine aK<|wa (bH .u8 [87,72,82,76] af zs5 Z Z Z) ?_;rintro _ _⟨fd,rfl,rfl⟩;refine wa (WV 0 Z Z af bn Z Z) ?_;rintro _ _⟨rfl,rfl⟩;refine gM (R1:=[⟨5,1,(GG fd),4,4,ints .u8 ([87,72,82,76]),true⟩,(rc 27 4 cy [I k,I so,I od,I sz]),(rc 25 2 aq [sl ap u.length an,sl Aq 0 cq])]) Z<|wy (yF 0 0 bg sz3 Z)<|wy (yL 1 au Z Z Z)<|wy (dU au bn Z)<|wy (yF 1 1 bg sz3 Z)<|wy (yL 1 au Z Z Z)<|wy (dU au bn Z)<|wy (yF 2 2 bg sz3 Z)<|wy (yL 1 au Z Z Z)<|wy (dU au bn Z)<|wa (bH .u8 [1,k%256,so%256,od%256] af zs5 Z Z Z) ?_;rintro _ _⟨io,rfl,rfl⟩;refine wa (sK af zb5 Z (rdr 1 Z) Z (rdr 0 Z) (by first|decide|(dsimp only;decide)) (by first|decide|(dsimp only;decide)) (by first|decide|(dsimp only;decide)) (by first|decide|(dsimp only;decide)) (by first|decide|(dsimp only;decide)) Z) ?_;rintro _ _⟨ir,ef,rfl,rfl⟩;refine gM (R1:=[(ru 5 (GG ir) 8 ef (([87,72,82,76])++([1,k%256,so%256,od%256]))),(ru 5 (GG io) 4 4 ([1,k%256,so%256,od%256])),⟨5,1,(GG fd),4,4,ints .u8 ([87,72,82,76]),true⟩,(rc 27 4 cy [I k,I so,I od,I sz]),(rc 25 2 aq [sl ap u.length an,sl Aq 0 cq])]) Z<|bC (v:=sl (GG ir) 8 ef) Z<|wa (kF (sz:=1) bFb Z) ?_;rintro _ _⟨ml,rfl,rfl⟩;refine gM (R1:=[(rc 22 1 ml [sl none 0 0]),(ru 5 (GG ir) 8 ef (([87,72,82,76])++([1,k%256,so%256,od%256]))),(ru 5 (GG io) 4 4 ([1,k%256,so%256,od%256])),⟨5,1,(GG fd),4,4,ints .u8 ([87,72,82,76]),true⟩,(rc 27 4 cy [I k,I so,I od,I sz]),(rc 25 2 aq [sl ap u.length an,sl Aq 0 cq])]) Z<|dC (bE 0 Z Z Z dH Z Z Z Z (ak Z)) ?_;rintro _ _ rfl;refine gM (R1:=[(rc 22 1 ml [sl (GG ir) 8 ef]),(ru 5 (GG ir) 8 ef (([87,72,82,76])++([1,k%256,so%256,od%256]))),(ru 5 (GG io) 4 4 ([1,k%256,so%256,od%256])),⟨5,1,(GG fd),4,4,ints .u8 ([87,72,82,76]),true⟩,(rc 27 4 cy [I k,I so,I od,I sz]),(rc 25 2 aq [sl ap u.length an,sl Aq 0 cq])]) Z<|aA ?_;refine eP ?_;refine bF mixed<|wD 0 Z (yL 0 af Z Z Z)<|wD 1 Z (yF 3 3 bg sz3 Z)<|wD 2 Z (yL 4 au Z Z Z)<|wC 3 Z (aC xJ Z (Ct.fresh (λw hw=>gU G))) ?_;rintro _ _⟨_,rfl,bw,bx,rfl,rfl⟩;refine⟨.inr hrZ,?_⟩;refine wC 4 Z (aQ 2 Z af zb5 Z Z Z (rdr 0 Z)) ?_;rintro _ _⟨fa,fc,rfl,rfl⟩;refine⟨.inl cA,?_⟩;refine qC (R1:=[(ru 5 bw ((aW sz).length) bx (aW sz)),(rc 22 1 ml [sl (GG ir) 8 ef]),(ru 5 fa (8+((aW sz).length)) fc ((([87,72,82,76])++([1,k%256,so%256,od%256]))++(aW sz))),(ru 5 (GG io) 4 4 ([1,k%256,so%256,od%256])),⟨5,1,(GG fd),4,4,ints .u8 ([87,72,82,76]),true⟩,(rc 27 4 cy [I k,I so,I od,I sz]),(rc 25 2 aq [sl ap u.length an,sl Aq 0 cq])]) Z<|fO (v:=sl fa (8+((aW sz).length)) fc) Z<|qD 5 Z cA (bE 1 Z Z Z dH Z Z Z Z (ak Z)) ?_;rintro _ _ rfl;refine⟨.inl cA,?_⟩;refine qC (R1:=[(ru 5 bw ((aW sz).length) bx (aW sz)),(rc 22 1 ml [sl fa (8+((aW sz).length)) fc]),(ru 5 fa (8+((aW sz).length)) fc ((([87,72,82,76])++([1,k%256,so%256,od%256]))++(aW sz))),(ru 5 (GG io) 4 4 ([1,k%256,so%256,od%256])),⟨5,1,(GG fd),4,4,ints .u8 ([87,72,82,76]),true⟩,(rc 27 4 cy [I k,I so,I od,I sz]),(rc 25 2 aq [sl ap u.length an,sl Aq 0 cq])]) Z<|wN ?_;refine eP ?_;refine bF mixed<|wD 0 Z (yF 0 0 dm dH Z)<|wD 1 Z (yL 6 af Z Z Z)<|wD 2 Z (yF 1 1 dm jC Z)<|wD 3 Z (yL 6 ay Z Z Z)<|wC 4 Z (aC bJj Z (aBw)) ?_;rintro _ _⟨fb,pm,rfl,rfl⟩;refine⟨.inr hiZ,?_⟩;refine wC 5 Z (aC AB Z (Ct.fresh (λw hw=>rJ (u:=([]:AH)) (aZs w hw) (gD _ _) ⟨cC,cC⟩ rfl))) ?_;rintro _ _⟨_,rfl,dj,dp,rfl,rfl⟩;refine⟨.inr hrZ,?_⟩;refine wC 6 Z (iQ [Value.slice ap u.length an,Value.slice dj ((([]:AH)).length) dp] ay nS Z Z Z Z) ?_;rintro _ _⟨gi,rfl,rfl⟩;refine⟨.inr hrZ,?_⟩;refine wC 7 Z (aC AB Z (Ct.fresh (λw hw=>rJ (u:=u) ((rdr 0 Z) w hw) (((gD _ _).snoc ((ac.c _) w hw) (λx hx=>dR (am x hx)) G).snoc ((rdr 1 Z) w hw) (λx hx=>dR ((show aN [] from λ_ h=>nomatch h) x hx)) cC) ⟨cH,cD⟩ cD))) ?_;rintro _ _⟨_,rfl,gs,gw,rfl,rfl⟩;refine⟨.inr hrZ,?_⟩;refine wD 8 Z (bB Z)<|wN ?_;refine eP ?_;refine aK<|wy (yF 3 3 bg sz3 Z)<|wy (yL 8 au Z Z Z)<|wn Z ?_;refine eP ?_;refine wq<|wy (yF 0 0 bg sz3 Z)<|wy (yL 8 au Z Z Z)<|wy (Yl.f (fD Z Z))<|aA<|aP Z<|aI ?_;refine XN ?_;refine eP ?_;refine aK<|wm Z<|wm Z<|wa (aC bJi Z (Ct.fresh (λw hw=>OP ((rdr 0 Z) w hw) G))) ?_;rintro _ _⟨_,rfl,Kn,wk,rfl,rfl⟩;refine aA ?_;refine BF ?_;refine KQ Z bJf (IU (A:=gs) (c:=gw) (zs:=u) (sz:=sz) G G G) Z (λ_=>Z) Gd.refl (λ(kr:Nat) (A1:AF) (n1:Nat) (c1:Nat) (acc:AH)=>[(rc 22 1 Kn [sl gs ((u).length) gw]),(rc 3 1 wk [I sz]),(ru 5 gs ((u).length) gw u),⟨22,1,(GG gi),2,2,[Value.slice ap u.length an,Value.slice dj ((([]:AH)).length) dp],false⟩,(ru 5 dj ((([]:AH)).length) dp ([]:AH)),(ru 5 bw ((aW sz).length) bx (aW sz)),(rc 22 1 ml [sl A1 n1 c1]),(ru 5 A1 n1 c1 acc),(ru 5 (GG io) 4 4 ([1,k%256,so%256,od%256])),⟨5,1,(GG fd),4,4,ints .u8 ([87,72,82,76]),true⟩,(rc 27 4 cy [I k,I so,I od,I sz]),(rc 25 2 aq [sl ap u.length an,sl Aq 0 cq])]) (λkr A1 n1 c1 acc=>(n1=acc.length)/\(acc=(([87,72,82,76]++[1,k%256,so%256,od%256])++aW sz)++lI k od sz.toNat u kr)) ?_ ?_ ?_ ?_
 ·exact⟨fa,8+((aW sz).length),fc,(([87,72,82,76])++([1,k%256,so%256,od%256]))++(aW sz),⟨(by rw[ah];rfl),(by rw[vG,jh])⟩,λ_ h=>h⟩
 ·intro kr A1 n1 c1 acc w ⟨cm,bc⟩ hw;exact⟨(rdr 0 Z) w hw,(rdr 1 Z) w hw,(rdr 2 Z) w hw⟩
 ·intro lr kr A1 n1 c1 acc Wv Lc ⟨cm,bc⟩ Nw;have Mk:kr*sz.toNat<u.length:=(GU G).1 cF;have Px:kr<=400:=qy (Nat.le_mul_of_pos_right kr (show 0<sz.toNat by omega)) G;have qt:=bu List.length bc;rw[ah,ah,ah] at qt;have zr:=mQ (t:=k) (o:=od) (n:=sz.toNat) am hN kr;have Vr:(2*u.length+22)*kr<=822*400:=Bh G Px;have Cd:=AJ (t:=k) (o:=od) (b:=(u.drop (kr*sz.toNat)).take sz.toNat) ((am.drop _).take _) (by rw[ax,az];omega);have Yf:((u.drop (kr*sz.toNat)).take sz.toNat).length<=u.length:=by rw[ax,az];omega
  have h8:([87,72,82,76]:AH).length=4:=rfl;have h9:([1,k%256,so%256,od%256]:AH).length=4:=rfl;refine aK<|wn Z ?_;intro Ng vc;refine aH<|bF mixed<|wD 0 Z (yL 6 af Z Z Z)<|wD 1 Z (aJ Z)<|wD 2 Z (yF 1 1 dm jC Z)<|wD 3 Z (yL 11 ay Z Z Z)<|wD 4 Z (bM (vs:=[I k,I so,I od,I sz]) (rdr 10 Z) bg Z eQ Z Z (ak Z) Z)<|wC 5 Z (aC bJh Z (aOz (RU (l:=kr*sz.toNat) (n:=sz.toNat) (rdr 2 Z) cG) (by rw[ax,az]) ((am.drop _).take _) (by rw[ax,az];omega) hp hk)) ?_;rintro _ _⟨nd,nh,rfl,rfl⟩;refine⟨.inr hrZ,?_⟩;refine wC 6 Z (aQ 8 Z af zb5 Z Z Z (rdr 0 Z)) ?_;rintro _ _⟨nf,nj,rfl,rfl⟩;refine⟨.inl cA,?_⟩;refine qC (R1:=[(ru 5 nd ((bZ k od ((u.drop (kr*sz.toNat)).take sz.toNat)).length) nh (bZ k od ((u.drop (kr*sz.toNat)).take sz.toNat))),(rc 22 1 Kn [sl gs ((u).length) gw]),(rc 3 1 wk [I sz]),(ru 5 gs ((u).length) gw u),⟨22,1,(GG gi),2,2,[Value.slice ap u.length an,Value.slice dj ((([]:AH)).length) dp],false⟩,(ru 5 dj ((([]:AH)).length) dp ([]:AH)),(ru 5 bw ((aW sz).length) bx (aW sz)),(rc 22 1 ml [sl A1 n1 c1]),(ru 5 nf (n1+((bZ k od ((u.drop (kr*sz.toNat)).take sz.toNat)).length)) nj (acc++(bZ k od ((u.drop (kr*sz.toNat)).take sz.toNat)))),(ru 5 (GG io) 4 4 ([1,k%256,so%256,od%256])),⟨5,1,(GG fd),4,4,ints .u8 ([87,72,82,76]),true⟩,(rc 27 4 cy [I k,I so,I od,I sz]),(rc 25 2 aq [sl ap u.length an,sl Aq 0 cq])]) Z<|fO (v:=sl nf (n1+((bZ k od ((u.drop (kr*sz.toNat)).take sz.toNat)).length)) nj) Z<|qD 7 Z cA (bE 7 Z Z Z dH Z Z Z Z (ak Z)) ?_;rintro _ _ rfl;refine⟨.inl cA,?_⟩;refine qC (R1:=[(ru 5 nd ((bZ k od ((u.drop (kr*sz.toNat)).take sz.toNat)).length) nh (bZ k od ((u.drop (kr*sz.toNat)).take sz.toNat))),(rc 22 1 Kn [sl gs ((u).length) gw]),(rc 3 1 wk [I sz]),(ru 5 gs ((u).length) gw u),⟨22,1,(GG gi),2,2,[Value.slice ap u.length an,Value.slice dj ((([]:AH)).length) dp],false⟩,(ru 5 dj ((([]:AH)).length) dp ([]:AH)),(ru 5 bw ((aW sz).length) bx (aW sz)),(rc 22 1 ml [sl nf (n1+((bZ k od ((u.drop (kr*sz.toNat)).take sz.toNat)).length)) nj]),(ru 5 nf (n1+((bZ k od ((u.drop (kr*sz.toNat)).take sz.toNat)).length)) nj (acc++(bZ k od ((u.drop (kr*sz.toNat)).take sz.toNat)))),(ru 5 (GG io) 4 4 ([1,k%256,so%256,od%256])),⟨5,1,(GG fd),4,4,ints .u8 ([87,72,82,76]),true⟩,(rc 27 4 cy [I k,I so,I od,I sz]),(rc 25 2 aq [sl ap u.length an,sl Aq 0 cq])]) Z<|wN ?_;exact⟨nf,n1+((bZ k od ((u.drop (kr*sz.toNat)).take sz.toNat)).length),nj,acc++(bZ k od ((u.drop (kr*sz.toNat)).take sz.toNat)),⟨(by rw[ah,cm]),(by rw[vH,<-gq,<-bc])⟩,λ_=>λ_ h=>h.sel [1,2,3,4,5,6,7,8,9,10,11,12] cC Z⟩
 intro Nh Wu A1 n1 c1 acc ⟨cm,bc⟩ Bx vb;refine XO ?_;refine aQf ?_;refine v_w ?_;refine aD<|bF mixed<|wD 0 Z (yL 6 af Z Z Z)<|wD 2 Z (aJ Z)<|wD 3 Z (aL af Z)<|wC 1 Z (aC xJ Z (Ct.fresh (λw hw=>gU cC))) ?_;rintro _ _⟨_,rfl,rx,sd,rfl,rfl⟩;refine⟨.inr hrZ,?_⟩;refine wC 4 Z (aC xJ Z (Ct.fresh (λw hw=>gU G))) ?_;rintro _ _⟨_,rfl,Nc,Nj,rfl,rfl⟩;refine⟨.inr hrZ,?_⟩;refine wC 5 Z (iQ [Value.slice A1 n1 c1,Value.slice rx ((aW 0).length) sd,Value.slice Nc ((aW (((u).length:Nat):Int)).length) Nj] ay nS Z Z Z Z) ?_;rintro _ _⟨g_37,rfl,rfl⟩;refine⟨.inr hrZ,?_⟩;refine wC 6 Z (aC AB Z (Ct.fresh (λw hw=>rJ (u:=(tZ k so od sz u)) ((rdr 0 Z) w hw) ((((gD _ _).snoc ((rdr 10 Z) w hw) (λx hx=>dR ((aNz bc hp.1 hp.2.1 G am hN G) x hx)) (by have:=aJe bc am hS G G;omega)).snoc ((rdr 2 Z) w hw) (λx hx=>dR ((dB G) x hx)) cC).snoc ((rdr 1 Z) w hw) (λx hx=>dR ((dB G) x hx)) G) ⟨by have:=aJe bc am hS G G;simp only[qc,jd,jf,ko,qx,uh,Fj];have h0:(aW 0).length=1:=rfl;omega,cD⟩ (aVq bc hp.1 hp.2.1 G)))) ?_;rintro _ _⟨_,rfl,Qz,Rm,rfl,rfl⟩;refine⟨.inr hrZ,?_⟩;refine wD 7 Z (bB Z)<|wD 8 Z (bB Z)<|wN<|aT [0] 99 cC Z ?_;refine aNq Z vb ⟨_,_,Z,Z,?_⟩;exact⟨_,_,Z,Z⟩
theorem bBw:tZ 0 0 0 1 []=[87,72,82,76,1,0,0,0,1,0,0]:=by
 rw[TC,RP cC];rfl
theorem zX {w:World}:
  CF 25 #[] w (λv R'=>v=bt):=by
 refine fn1 Tryz.func25 Z Z Z ?_;refine wq<|wn Z<|wq<|wy (gX (v:= .agg #[sl none 0 0,sl none 0 0]) Z (λw=>cA))<|wy (gX (v:= .agg #[I 0,I 0,I 0,I 1]) rfl (λw=>cA))<|wa (aC bCd rfl (Ct.fresh (λw hw=>aJf (u:=[]) ((zR _) w hw) aN.nil cC G G))) ?_;rintro _ _⟨_,rfl,cg,ce,rfl,rfl⟩;refine wm Z<|wX Z Z<|wX Z Z<|wg Z<|wn Z<|wq<|wm Z<|wa (aC bOs Z (Ct.fresh (λw hw=>bCe (w:=([]:AH)) (k:=0) (so:=0) (od:=0) (sz:=1) ((rdr 0 Z) w hw) (oP aN.nil cC cC cC cC cC).1 (by have:=(oP (t:=0) (so:=0) (o:=0) (sz:=1) aN.nil cC cC cC cC cC).2;omega) Z aN.nil cC G G G (.inr Z)))) ?_;rintro _ _⟨_,rfl,ns,pi,rfl,rfl⟩;refine wm Z<|wX Z Z<|wX Z Z<|wX Z Z<|wa (kF (sz:=2) bIj Z) ?_;rintro _ _⟨xr,rfl,rfl⟩;refine wa (kF (sz:=4) bIi Z) ?_;rintro _ _⟨j4,rfl,rfl⟩;refine dC (jN (vs:=[sl ns ((([]:AH)).length) pi,sl none 0 0]) 1 Z pJ Z Z Z (by intro v hv;simp at hv;rcases hv with rfl|rfl<;>rfl) Z) ?_;rintro _ _ rfl;refine dC (jN (vs:=[I 0,I 0,I 0,I 1]) 0 Z eQ Z Z Z (by intro v hv;simp at hv;rcases hv with rfl|rfl|rfl|rfl<;>rfl) Z) ?_;rintro _ _ rfl;refine wn Z<|wq<|wm Z<|wR Z Z<|wm Z<|aB Z Z<|wm Z<|aB Z Z<|wy (lX af bn ym Z (rdr 3 Z))<|aB Z Z<|wy (Yl.t (QI (q:=[87,72,82,76,1,0,0,0,1,0,0]) Z Z (oP aN.nil cC cC cC cC cC).1 (by unfold aN;decide)) (bBw)) ?_;refine wy (aS Z Z)<|wm Z<|aB Z Z<|wm Z<|aB Z Z<|wR Z Z<|wy (aS Z Z)<|wm Z<|aB Z Z<|wy (yF 0 0 dm dH Z)<|aB Z Z<|wy (yL 1 af Z Z Z)<|aB Z Z<|wy (aL af Z)<|aB Z Z ?_;refine wy (yF 1 1 dm jC Z)<|aB Z Z<|wy (yL 1 ay Z Z Z)<|aB Z Z<|wy (aL ay Z)<|aB Z Z<|wy (cK Z Z cC)<|aB Z Z<|wR Z Z<|wy (aS Z Z)<|wm Z<|aB Z Z<|wy (yF 3 3 bg sz3 Z)<|aB Z Z<|wy (yL 0 au Z Z Z) ?_;refine aB Z Z<|wR Z Z<|wy (aS Z Z)<|wn Z<|aT [] 99 cC Z ?_;refine⟨_,Z,?_⟩;rfl
end Go.Proofs.YtdbebmmhdefgdaaGreat
namespace Go.Pure
open Go Go.Eng
variable {w r a b l:AH} {k:Nat} {ws:AD} {T:AE}
def ER (w:AH):List (Nat->Int):=(List.range w.length).map λj=>rot w j
def EW (ws:AD):List (Nat->Int):=ws.flatMap ER
theorem KX (ws:AD): ∀k:Nat,k<=ws.length->(fG ws k).map (tw ws)=EW (ws.take k)
 |0,_=>rfl
 | k+1,hk=>by
  have ih:=KX ws k G;rw[fG,iv,ih,qm,av G];unfold EW;rw[Bv];congr 1;simp only[Am,zw,List.flatMap_nil,jh]
  have e:rdl ws (k:Int)=ws[k]:=by
   unfold rdl;rw[cz,ai,av G];rfl
  unfold turnsOf ER;rw[qo,e];refine vv λj _=> ?_;show tw ws ((k:Int),(j:Int))=rot ws[k] j;rw[bDo,e];rfl
theorem aHd (a b:AD):EW (a++b)=EW a++EW b:=Bv
theorem aKh {a b:AD} (h:a.Perm b):(EW a).Perm (EW b):=h.flatMap_right _
theorem aZi (u:AH) (q:Nat):rot u (q+u.length)=rot u q:=by
 rw[<-BS (q+u.length),Gt,BS]
theorem aRl (u:AH) (q k:Nat):rot u (k*u.length+q)=rot u q:=by
 rw[<-BS (k*u.length+q),um,Nat.add_mul_mod_self_right,BS]
theorem bDf {r:Nat} (hr:r<=w.length) (hn:0<w.length):(ER (kS w r)).Perm (ER w):=by
 have hl:=nW w r
 have e:ER (kS w r)=(ER w).drop r++(ER w).take r:=by
  refine vg (by unfold ER;simp[hl];omega) λj h1 h2=> ?_;unfold ER at h1 h2 ⊢;rw[bq,yo,hl] at h1;rw[yg,zg,UY hr hn];rcases gm j (w.length-r) with g|g
  ·rw[List.getElem_append_left (by simp;exact g),zx,yg,zg]
  ·rw [List.getElem_append_right cH,xq,yg,zg];simp only[az,bq,yo];rw[<-aZi w (j-(w.length-r))];congr 1;omega
 rw[e];refine uk.trans ?_;rw[gy]
theorem aZh (hr:0<r.length) (hk:0<k) (q:Nat):rot (rep r k) q=rot r q:=by
 funext d;show om (rep r k) (q+d)=om r (q+d);exact aTk hr hk _
theorem bIf (hr:0<r.length) (hk:0<k):ER (rep r k)=EW (List.replicate k r):=by
 have h1: ∀m:Nat,(List.range (m*r.length)).map (λj=>rot r j)=EW (List.replicate m r):=λm=>by
  induction m with
  |zero=>simp[EW]
  |succ m ih=>
   rw[Bg,aHd,Bp,List.range_add,iv,ih,qo];congr 1;unfold EW ER;simp only[zw,List.flatMap_nil,jh];exact vv λj _=>aRl r j m
 rw[<-h1 k];unfold ER;rw[oC,cz];exact vv λj _=>aZh hr hk j
def aNt (rs:List RT):AD:=rs.flatMap λr=>List.replicate r.2.toNat r.1
def exs (ws:AD):AD:=aNt (fI ws)
theorem bDg (hw:0<w.length):(ER w).Perm (EW (List.replicate (lQ w).2.toNat (lQ w).1)):=by
 have hb:=VO w;have hl:=kL w
 have h1:(ER (lw w)).Perm (ER w):=by
  have:=bDf (w:=w) (r:=(nQ w).toNat) G hw;rwa[lm hb.1] at this
 have h2:=rW (c:=lw w) G;have ht:=sZ (c:=lw w) G;have hr:=LQ (c:=lw w) G;have hp:=pK (u:=lw w) G;have h3:=bIf (r:=jR (lw w)) (k:=(gB (lw w)).toNat) G G;rw[lm G,h2] at h3;rw[h3] at h1;exact h1.symm
theorem aCn: ∀ws:AD,(EW ws).Perm (EW (aNt (dE ws)))
 |[]=> .refl _
 | w::ws=>by
  have ih:=aCn ws;rw[show w::ws=[w]++ws from rfl,aHd,kT];unfold aNt;rw[Bv,aHd];refine List.Perm.append ?_ ih;by_cases h:0<w.length
  ·have e:dE [w]=[lQ w]:=by unfold dE;simp[h]
   rw[e];have:=bDg h;unfold EW at this ⊢;simpa using this
  ·have e:dE [w]=[]:=by unfold dE;simp[h]
   have e2:w=[]:=dw G;rw[e,e2];unfold EW ER;simp
theorem bIe (ws:AD):(EW ws).Perm (EW (exs ws)):=by
 refine(aCn ws).trans (aKh ?_);unfold exs aNt;exact(iK ws).symm.flatMap_right _
theorem aRm (hw:0<w.length):pW (lQ w).1=true:=by
 have hc:0<(lw w).length:=by rw[kL];exact hw
 generalize o8:lw w=c at hc;have hz:nQ c=0:=by rw[<-o8];exact bBd w
 have ox: ∀q,¬Lt (rot c q) (om c):=λq=>by
  have fl:=yM hc;have:=fl.any q
  have e0:iN c c.length=0:=by
   have:(iN c c.length:Int)=0:=hz;omega
  rw[e0] at this;have e1:rot c 0=om c:=by funext d;show om c (0+d)=_;rw[og]
  rwa[e1] at this
 obtain⟨p,hp,p1,p2,ho,On⟩:=VB hc
 have Ub:(lQ w).1=c.take p:=by
  show jR (lw w)=_;rw[o8];unfold jR;rw[hp];rfl
 rw[Ub];have Tn:om c=om (c.take p):=funext ho;generalize hr:c.take p=r at Tn;have Qo:r.length=p:=by rw[<-hr,ax];omega
 have Uc: ∀q,rot c q=rot r q:=λq=>by
  funext d;show om c (q+d)=om r (q+d);rw[Tn]
 have bp: ∀j,0<j->j<p->Lt (om r) (rot r j):=λj j0 hj=>by
  rcases wZ (om r) (rot r j) with a|a|a
  ·exact a
  ·exfalso
   have:Per (om c) j:=λi=>by
    have:=a i;rw[Tn,this];show om r (i+j)=om r (j+i);rw[um]
   have:=On j j0 this;omega
  ·have:=ox j;rw[Uc,Tn] at this;exact absurd a this
 rw[kY];refine⟨G,λj j0 hj=> ?_⟩;rw[nI _ _ (by rw[az];omega)];obtain⟨d,h1,h2⟩:=bp j j0 G
 have Vs: ∀e,lt (r.drop j) e=lt r (j+e):=λe=>by
  unfold lt;rw[ai,ai,qz]
 have nc: ∀e,rot r j e=om r (j+e):=λe=>rfl;rcases gm d (p-j) with g|g
 ·refine ⟨d,by rw[az];omega,λe he=> ?_,?_⟩
  ·have:=h1 e he;rw[nc,pQ G,pQ G] at this;rw[Vs];exact this
  ·rw [nc,pQ G,pQ G] at h2;rw[Vs];exact h2
 ·exfalso;have:=ox (p-j);rw[Uc,Tn] at this;have nb:=pX r;rw[Qo] at nb;refine this ⟨d-(p-j),λi hi=> ?_,?_⟩
  ·have h3:=h1 (p-j+i) G;rw[nc,show j+(p-j+i)=i+p by omega,nb] at h3;exact h3
  ·have h3:=h2;rw[nc,show j+d=(d-(p-j))+p by omega,nb] at h3;show om r (p-j+(d-(p-j)))<om r (d-(p-j));rw[show p-j+(d-(p-j))=d by omega];exact h3
theorem OH: ∀a b:AH,cmpL a b<0->(∃d,d<a.length/\d<b.length/\(∀e,e<d->lt a e=lt b e)/\lt a d<lt b d)\/a.length<b.length/\ ∀e,e<a.length->lt a e=lt b e
 |[],[],h=>by simp[cmpL] at h
 |[],y::b,_=> .inr ⟨cD,λe he=>by simp at he⟩
 |_::_,[],h=>by simp[cmpL] at h
 | x ::a,y::b,h=>by
  rw[cmpL] at h;split at h
  ·rename_i c;exact .inl ⟨0,cD,cD,λe he=>G,c⟩
  ·split at h
   ·omega
   ·have Lu:x=y:=G
    rcases OH a b h with⟨d,h1,h2,h3,h4⟩|⟨h1,h2⟩
    ·refine .inl ⟨d+1,cH,cH,λe he=> ?_,?_⟩
     ·rcases e with _|e
      ·exact Lu
      ·exact h3 e G
     ·exact h4
    ·refine .inr ⟨cH,λe he=> ?_⟩;rcases e with _|e
     ·exact Lu
     ·exact h2 e (by simp at he;omega)
theorem aTv (ha:0<a.length) (hb:pW b=true) (h:cmpL a b<0):Lt (om a) (om b):=by
 rcases OH a b h with⟨d,h1,h2,h3,h4⟩|⟨h1,h2⟩
 ·exact⟨d,λe he=>by rw[pQ G,pQ G];exact h3 e he,by rw[pQ h1,pQ h2];exact h4⟩
 ·exact longer ha hb h1 λe he=>(h2 e he).symm
theorem bGt (ha:pW a=true) (hb:pW b=true):cmpL a b<=0↔ ¬Lt (om b) (om a):=by
 have qt:=((kY a).1 ha).1;have zr:=((kY b).1 hb).1;constructor
 ·intro h;rcases Cm h with g|g
  ·exact(aTv qt hb g).asymm
  ·rw[(cmpL_eq a b).1 g];exact λh=>h.asymm h
 ·intro h;rcases bz 0 (cmpL a b) with g|g
  ·exact absurd (aTv zr ha (by rw[yS a b];omega)) h
  ·exact g
theorem bFr (l:AH):(fQ (lfL l)).map (kN l)=(gF l).reverse:=by
 unfold gF;rw[Du,Eo]
theorem bDe (hl:aN l):(EW (gF l)).Perm ((iota l.length).map (U l)):=by
 have hlen:(gF l).length=(fQ (lfL l)).length:=by unfold gF;rw[bq,nk]
 have h0:=KX (gF l) (gF l).length (dx _);rw[ow] at h0;rw[<-h0,hlen];refine(uO hl _ (dx _)).trans ?_;rw[bi (by rw[nk];exact dx _)];have hc:=yQ (lW hl);rw[nE] at hc;exact(((Dg _).flatten).trans hc).map _
theorem XR (hl:aN l) (hp:T.Perm (fG ws ws.length)) (ho:T.Pairwise (jF ws)) (hE:(EW ws).Perm (EW (gF l))):T.map (lastB ws)=l:=by
 have h1:(T.map (tw ws)).Perm ((iota l.length).map (U l)):=by
  refine(hp.map _).trans ?_;have h0:=KX ws ws.length (dx _);rw[ow] at h0;rw[h0];exact hE.trans (bDe hl)
 have s1:(T.map (tw ws)).Pairwise λa b=> ¬Lt b a:=ik.2 (ho.imp λ{t u} h bp=>by
  rcases h with h|h
  ·exact h.asymm bp
  ·exact bp.not_eq λi=>(h.1 i).symm)
 have s2:((iota l.length).map (U l)).Pairwise λa b=> ¬Lt b a:=ik.2 (lv (λ{i k} hi hk h=>by
  have hi:=aZ.1 hi;have hk:=aZ.1 hk
  exact aPn hl hi.1 (Bj h) hk.2) (xC l.length))
 have same:T.map (tw ws)=(iota l.length).map (U l):=h1.eq_of_pairwise (λa b _ _ x y=>by
  rcases wZ a b with z|z|z
  ·exact absurd z y
  ·exact funext z
  ·exact absurd z x) s1 s2
 have Sc:T.length=l.length:=by
  have:=bu List.length same;rwa[bq,bq,bD] at this
 refine bL (by rw[bq];exact Sc) λq q0 q1=> ?_;rw[bq] at q1;rw[aIa q0 q1];have hv:=sD.1 (hp.subset (jY (l:=T) q0 q1))
 have hU:tw ws (rdp T q)=U l q:=by
  have e1:(T.map (tw ws))[q.toNat]? =some (tw ws (rdp T q)):=by
   rw[ol,av G];unfold rdp;rw[ai,av G];rfl
  have e2:((iota l.length).map (U l))[q.toNat]? =some (U l q):=by
   rw[ol,av (by rw[bD];omega)];have:=uT (n:=l.length) q0 G;rw[fE q0 (by rw[bD];omega)] at this;rw[this];rfl
  rw[same,e2] at e1;exact(je e1).symm
 obtain⟨m,m0,hm⟩:=yB hl q0 (by omega:q<l.length);obtain⟨a1,a2,a3,a4⟩:=hv;have uc:0<(rdl ws (rdp T q).1).length:=G
 generalize b5:(rdl ws (rdp T q).1).length=wl at uc a4;have po:U l q (m*wl-1)=rd l q:=XB hm m0 uc;rw[<-po,<-hU];have ff:0<m*wl:=Gv m0 uc;unfold lastB tw rd;rw[b5];congr 1;obtain⟨j,hj⟩: ∃j:Nat,(rdp T q).2=j:=⟨(rdp T q).2.toNat,G⟩;rw[hj,cz,show(j:Int)+(wl:Int)-1=((j+wl-1:Nat):Int) by omega,<-zb,cz]
 have e:j+(m*wl-1)=(j+wl-1)+wl*(m-1):=by
  obtain⟨m',rfl⟩: ∃m',m=m'+1:=⟨m-1,G⟩;rw[Bp,Fz,zy wl m'];omega
 rw[e,Nat.add_mul_mod_self_left]
theorem WC {ws:AD}: ∀v∈exs ws,pW v=true:=λv hv=>by
 obtain⟨r,hr,h⟩:=Ai.1 hv;obtain⟨_,rfl⟩:=Cn.1 h;obtain⟨w,_,hw,rfl⟩:=tV hr;exact aRm hw
theorem IP: ∀ {rs:List RT},rs.Pairwise (λa b=>kM a b<=0)->(aNt rs).Pairwise λa b=>cmpL a b<=0
 |[],_=> .nil
 |r::rs,h=>by
  obtain⟨h1,h2⟩:=ja.1 h;have ih:=IP h2;show(List.replicate r.2.toNat r.1++aNt rs).Pairwise _;rw[kg];refine⟨List.pairwise_replicate.2 (.inr (by rw[(cmpL_eq r.1 r.1).2 rfl];omega)),ih,λa ha b hb=> ?_⟩;obtain⟨_,rfl⟩:=Cn.1 ha;obtain⟨q,hq,hqb⟩:=Ai.1 hb;obtain⟨_,rfl⟩:=Cn.1 hqb;have:=IK.1 (h1 q hq);rcases this with g|g
  ·omega
  ·rw[(cmpL_eq _ _).2 g.1];omega
theorem aNs {ws:AD} (hb: ∀w∈ws,aN w): ∀v∈exs ws,aN v:=λv hv=>by
 obtain⟨r,hr,h⟩:=Ai.1 hv;obtain⟨_,rfl⟩:=Cn.1 h;obtain⟨w,h1,hw,rfl⟩:=tV hr;have h2:=hb w h1;exact(aN.append (h2.drop _) (h2.take _)).take _
theorem aCx {ws:AD} (hb: ∀w∈ws,aN w) (hp:T.Perm (fG ws ws.length)) (ho:T.Pairwise (jF ws)):(fQ (lfL (T.map (lastB ws)))).map (kN (T.map (lastB ws)))=exs ws/\ ∀(xs:AD) (T':AE),exs xs=exs ws->T'.Perm (fG xs xs.length)->T'.Pairwise (jF xs)->T'.map (lastB xs)=T.map (lastB ws):=by
 have Za: ∀v∈(exs ws).reverse,pW v=true:=λv hv=>WC v (ze.1 hv);have Sw:(exs ws).reverse.Pairwise λa b=> ¬Lt (om a) (om b):=List.pairwise_reverse.2 (lv (λ{a b} ha hb h=>(bGt (WC a ha) (WC b hb)).1 h) (IP (uR ws)))
 have zv:aN (exs ws).reverse.flatten:=λx hx=>by
  obtain⟨v,hv,hxv⟩:=ug.1 hx;exact aNs hb v (ze.1 hv) x hxv
 have Sp:=TR Za Sw;obtain⟨l,hl,_,d6⟩:=TW zv;have u9:gF l=(exs ws).reverse:=by rw[<-EI hl,d6,Sp]
 have hE: ∀xs:AD,exs xs=exs ws->(EW xs).Perm (EW (gF l)):=λxs e=>by
  refine(bIe xs).trans ?_;rw[u9,e];exact aKh (Dg _).symm
 have hT:=XR hl hp ho (hE ws rfl);rw[hT];exact⟨by rw[bFr,u9,Eo],λxs T' e da Zg=>XR hl da Zg (hE xs e)⟩
variable {ws:AD} {L L' TS Vd:AH} {e e':Int}
def ExtR (ws:AD) (L TS:AH) (e:Int):Prop:=
 (e=2/\(1000<ws.length\/100000<ws.flatten.length)/\L=[]/\TS=[])\/
 (¬(1000<ws.length\/100000<ws.flatten.length)/\e=1/\(∃w∈ws,w.length=0)/\L=[]/\TS=[])\/
 (¬(1000<ws.length\/100000<ws.flatten.length)/\e=0/\(∀w∈ws,0<w.length)/\(∃T:AE,T.Perm (fG ws ws.length)/\T.Pairwise (jF ws)/\L=T.map (lastB ws))/\TS=(fI ws).map Prod.snd)
theorem ExtR.same {ws xs:AD} (h:ExtR ws L TS e) (h':ExtR xs L' Vd e') (hb: ∀w∈ws,aN w) (hl:xs.length=ws.length) (hf:xs.flatten.length=ws.flatten.length) (hz:(∃w∈xs,w.length=0)↔ ∃w∈ws,w.length=0) (hr:(dE xs).Perm (dE ws)):e'=e/\L'=L/\Vd=TS:=by
 have hS:=YS hr;unfold ExtR at h';rw[hl,hf,hz,hS] at h';rcases h with⟨rfl,c,rfl,rfl⟩|⟨c,rfl,d,rfl,rfl⟩|⟨c,rfl,d,⟨T,hp,ho,rfl⟩,rfl⟩
 ·rcases h' with⟨rfl,_,rfl,rfl⟩|⟨c',_⟩|⟨c',_⟩
  ·exact⟨rfl,rfl,rfl⟩
  ·exact absurd c c'
  ·exact absurd c c'
 ·rcases h' with⟨_,c',_⟩|⟨_,rfl,_,rfl,rfl⟩|⟨_,_,d',_⟩
  ·exact absurd c' c
  ·exact⟨rfl,rfl,rfl⟩
  ·have d2:=hz.2 d;obtain⟨w,hw,e⟩:=d2;have:=d' w hw;omega
 ·rcases h' with⟨_,c',_⟩|⟨_,_,d',_⟩|⟨_,rfl,_,⟨T',da,Zg,rfl⟩,rfl⟩
  ·exact absurd c' c
  ·obtain ⟨w,hw,e⟩:=d';have:=d w hw;omega
  ·refine⟨rfl,(aCx hb hp ho).2 xs T' (by unfold exs;rw[hS]) (by rw[hl] at*;exact da) Zg,rfl⟩
theorem ExtR.one {ws:AD} (h:ExtR ws L TS e) (h':ExtR ws L' Vd e') (hb: ∀w∈ws,aN w):e'=e/\L'=L/\Vd=TS:=h.same h' hb rfl rfl Iff.rfl (.refl _)
end Go.Pure
namespace Go.Eng
open Go Go.RowKit
section
variable {P:Program} {n:Nd} {B:Nat} {w0 w00:World} {F:Exit->Act->World->Prop} {L:Env} {R:List Row}
end
end Go.Eng
namespace Go.Proofs.YtdbebmmhdefgdaaGreat
open Go Go.Eng Go.Pure
open Tryz
set_option maxRecDepth 100000
variable {ws:AD} {i e:Int} {w:World} {ar:AF} {bo aw:Nat} {al:AG} {L TS:AH}
abbrev eO (ws:AD):Prop:= ∃w∈ws,w.length=0
theorem GM (h0:0<=i) (h1:i<ws.length) (h:((rdl ws i).length:Int)=0):eO ws:=⟨_,jD h0 h1,G⟩
theorem GL (hi:(ws.length:Int)<=i) (h: ∀j:Int,0<=j->j<i->j<ws.length->0<(rdl ws j).length): ¬eO ws:=λ⟨w,hw,e⟩=>by
 obtain⟨k,hk,rfl⟩:=gz.1 hw;have:=h k G G G;unfold rdl at this;rw[cz,ai,av hk] at this;simp at this;omega
theorem bBh {ap:AF} {bl an:Nat} {u:AH} (ac:Rd w ap bl an 1 (ints .u8 u)):
  CF 198 #[sl ap bl an] w (λv R'=>v= .bool (decide ((u.length:Int)=0))):=by
 obtain rfl:=ac.lenI;refine fn1 Tryz.func198 Z Z Z ?_;have kc:=ac.max;refine wq<|wn Z<|wq<|wm Z<|wy (aL af Z)<|wy (fD Z Z)<|wn Z<|bQ ?_;refine⟨_,Z,?_⟩;rfl
theorem aNf {w:World} (ao:Rd w ar bo aw 1 al) (bh:SlW .u8 w al ws):
  CF 114 #[sl ar bo aw, .func (.func 198) #[] #[]] w (λv R'=> ∃z:Int,v=I z/\(0<=z↔eO ws)):=by
 obtain rfl:bo=ws.length:=by have:=ao.len;have:=bh.1;omega
 refine fn1 Il Z Z Z ?_;have kh:=ao.max;refine wq<|wn Z<|aD<|wq<|wm Z<|wy (aL ay Z)<|wm Z<|aA<|aH ?_;refine gZ (λ(k:Int)=>[(0,sl ar ws.length aw),(1, .func (.func 198) #[] #[]),(7,I (ws.length:Int)),(8,I k)]) (λk=>[]) (λk=>(0<=k)/\(k<=ws.length)/\(∀j:Int,0<=j->j<k->j<ws.length->0<(rdl ws j).length)) (λk=>(ws.length-k).toNat) ?_ ?_
 ·exact⟨0,⟨G,G,(λj h1 h2=>G)⟩,KP⟩
 intro k ⟨ju,tz,cv⟩;refine wq<|wL Z Z<|aA<|aD<|bA Z (λba=> ?_) (λba=> ?_)
 ·refine aI<|aD<|aH<|wq<|wm Z<|wn Z<|wq<|wm Z<|wm Z<|wm Z<|wy (aF ay dH Z Z (ao.c _)) ?_;refine bh.elim (i:=k) G G (λcg ce py ub xt tk=> ?_);refine wy (lC af Z Z Z (ao.c _) py)<|wa (AQ bLn Z Z (Ct.quiet (λw hw=>bBh ((ub.c _) w hw)))) ?_;rintro _ _⟨rfl,rfl⟩;refine aA<|bA Z (λcj=> ?_) (λcj=> ?_)
  ·refine wq<|wm Z<|wn Z<|bQ ?_;exact⟨_,Z,k,Z,⟨λ_=>GM ju G cF,λ_=>ju⟩⟩
  ·refine aI<|aK<|wA Z Z<|wm Z<|aA ?_
   exact⟨k+1,⟨G,G,(λj h1 h2 h3=>by
     rcases bz j k with g|g
     ·exact cv j h1 g h3
     ·obtain rfl:j=k:=G
      omega)⟩,G,KP⟩
 ·refine aR<|wq<|wn Z<|bQ ?_;exact⟨_,Z,-1,Z,⟨λh=>G,λh=>absurd h (GL G cv)⟩⟩
theorem WH {w:World} (ao:Rd w ar bo aw 1 al) (bh:SlW .u8 w al ws):
  CF 68 #[sl ar bo aw, .func (.func 198) #[] #[]] w (λv R'=>v= .bool (decide (eO ws))):=by
 obtain rfl:bo=ws.length:=by have:=ao.len;have:=bh.1;omega
 refine fn1 Jr Z Z Z ?_;have kh:=ao.max;refine wq<|wn Z<|wq<|wm Z<|wm Z<|wa (aC aWp Z (Ct.quiet (λw hw=>aNf ((ao.c _) w hw) (bh.c hw)))) ?_;rintro _ _⟨rfl,z1,rfl,xb⟩;refine wy (iD Z Z)<|wn Z<|bQ ?_;refine⟨_,Z,?_⟩;exact bu Value.bool (sj.2 xb)
theorem aFq {w:World} {ws:AD} (ao:Rd w ar bo aw 1 al) (bh:SlW .u8 w al ws) (hN:(∀w∈ws,w.length<=8000)/\ws.length<=100000):
  CF 125 #[sl ar bo aw] w (λv R'=> ∃(A A2:AF) (c c2:Nat) (L TS:AH) (e:Int),v= .tuple #[sl A L.length c,sl A2 TS.length c2,I e]/\ExtR ws L TS e/\R'=[(ru 5 A L.length c L),(ri 3 A2 TS.length c2 TS)]):=by
 obtain rfl:bo=ws.length:=by have:=ao.len;have:=bh.1;omega
 refine fn3 Tryz.func125 Z Z Z ?_;have kh:=ao.max;refine wq<|bT (R1:=((ru 5 none 0 0 ([]))::[])) (Sub.refl _) (λ_ h=>h.nil 5 1)<|wg Z<|bT (R1:=((ri 3 none 0 0 ([]))::(ru 5 none 0 0 ([]))::[])) (Sub.refl _) (λ_ h=>h.nil 3 1)<|wg Z<|wn Z<|wq<|wn Z<|aD<|wq ?_;refine wm Z<|wy (aL ay Z)<|wm Z<|aA<|aH ?_;refine dI (λ(i:Int) (z:Int)=>[(0,sl ar ws.length aw),(5,I z),(11,sl ar ws.length aw),(12,I (ws.length:Int)),(13,I i)]) (λi z=>((ri 3 none 0 0 ([]))::(ru 5 none 0 0 ([]))::[])) (λi z=>(0<=i)/\(i<=ws.length)/\(z=((ws.take i.toNat).flatten.length:Int))/\(0<=z/\z<=i*8000)) (λi z=>(ws.length-i).toNat) ?_ ?_
 ·exact⟨0,0,⟨G,G,(Z),G⟩,KP⟩
 intro i z ⟨bb,gd,hz,s7⟩;have b5:0<=i->i<ws.length->(rdl ws i).length<=8000:=λh h'=>hN.1 _ (jD h h');refine wq<|wL Z Z<|aA<|aD<|bA Z (λba=> ?_) (λba=> ?_)
 ·have Pi:=b5 bb G;refine aI<|aD<|aH<|wq<|wy (aF ay dH Z Z (ao.c _)) ?_;refine bh.elim (i:=i) G G (λcg ce py ub xt tk=> ?_);refine wy (lC af Z Z Z (ao.c _) py)<|wn Z<|aK<|wm Z<|wm Z<|wy (aL af Z)<|wA Z Z<|wn Z<|aK<|wA Z Z<|wm Z<|aA ?_;exact⟨i+1,z+(((rdl ws i).length:Nat):Int),⟨G,G,(by rw[fC bb G,ah,hz];omega),G⟩,G,KP⟩
 ·obtain rfl:i=ws.length:=G
  rw[cz,ow] at hz;refine aR<|aD<|wq<|wm Z<|wy (aL ay Z)<|wy (dA Z Z)<|wm Z<|bV 3 [(0,sl ar ws.length aw),(28, .bool (decide ((1000<(ws.length:Int))\/(100000<z))))] ((ri 3 none 0 0 ([]))::(ru 5 none 0 0 ([]))::[]) ?_ ?_
  ·refine bN 25 Z (λcj=> ?_) (λcj=> ?_)
   ·refine aM Z Z Z Z<|aM Z Z Z Z<|wy (aS Z Z)<|aA ?_;exact KP
   ·refine aB Z Z<|wm Z<|aB Z Z<|wy (dA Z Z)<|wy (aO Z Z)<|aA ?_;exact KP
  refine aA<|bA Z (λfh=> ?_) (λfh=> ?_)
  ·refine wq<|wg Z<|wg Z<|wn Z<|bU (R1:=[(ru 5 none 0 0 ([])),(ri 3 none 0 0 ([]))]) (λ_ h=>(h.selR (F:=[_,_]) (F':=[_,_]) [1,0] cC Z).left (X:=[_,_])) ?_;refine⟨_,_,_,Z,Z,Z,?_⟩;exact⟨_,_,_,_,[],[],2,Z, .inl ⟨Z,G,rfl,rfl⟩,rfl⟩
  ·refine aI<|aD<|wq<|wm Z<|wa (aC aOc Z (Ct.quiet (λw hw=>WH ((ao.c _) w hw) (bh.c hw)))) ?_;rintro _ _⟨rfl,rfl⟩;refine aA<|bA Z (λjj=> ?_) (λjj=> ?_)
   ·refine wq<|wg Z<|wg Z<|wn Z<|bU (R1:=[(ru 5 none 0 0 ([])),(ri 3 none 0 0 ([]))]) (λ_ h=>(h.selR (F:=[_,_]) (F':=[_,_]) [1,0] cC Z).left (X:=[_,_])) ?_;refine⟨_,_,_,Z,Z,Z,?_⟩;exact⟨_,_,_,_,[],[],1,Z, .inr (.inl ⟨G,rfl,jj,rfl,rfl⟩),rfl⟩
   ·refine aI<|wq<|wa (bH .u8 [] af zs5 Z Z Z) ?_;rintro _ _⟨ir,rfl,rfl⟩;refine wn Z<|aD<|wq<|wm Z<|wa (aC bEs Z (Ct.fresh (λw hw=>XQ ((ao.c _) w hw) (bh.c hw) ⟨G,G⟩))) ?_;rintro _ _⟨_,rfl,lt,dv,br,rfl,a7,ge,rfl⟩;refine wy (aL jg Z)<|wm Z<|aA<|aH ?_;refine eH (λ(q:Int) (B1:AF) (m1:Nat) (d1:Nat) (acc:AH)=>[(0,sl ar ws.length aw),(2,sl B1 m1 d1),(33,sl dv lt.length br),(34,I (lt.length:Int)),(35,I q)]) (λq B1 m1 d1 acc=>(⟨230,2,dv,lt.length,br,prs lt,false⟩::(ru 5 B1 m1 d1 acc)::(ri 3 none 0 0 ([]))::(ru 5 none 0 0 ([]))::[])) (λq B1 m1 d1 acc=>(0<=q)/\(q<=lt.length)/\(m1=acc.length)/\(acc.length=q.toNat)/\(acc=(lt.take q.toNat).map (lastB ws))) (λq B1 m1 d1 acc=>(lt.length-q).toNat) ?_ ?_
    ·exact⟨0,GG ir,0,0,[],⟨G,G,(Z),(Z),(Z)⟩,KP⟩
    intro q B1 m1 d1 acc ⟨js,xa,mt,Sk,bc⟩;have ur:=EM a7;refine wq<|wL Z Z<|aA<|aD<|bA Z (λkb=> ?_) (λkb=> ?_)
    ·have ht:=sD.1 (a7.subset (jY (l:=lt) js G));have yv:=ht.2.2;have he0:=jv ((rdp lt q).2+(rdl ws (rdp lt q).1).length-1) (show((rdl ws (rdp lt q).1).length:Int)≠0 by omega);have he1:=iy ((rdp lt q).2+(rdl ws (rdp lt q).1).length-1) (show(0:Int)<(rdl ws (rdp lt q).1).length by omega);refine aI<|aD<|aH<|wq<|wy (mU jg jQ Z Z (rdr 0 Z) Z)<|wy (aHh jo Z jQ Z (rdr 0 Z))<|wa (kF (sz:=2) aHe Z) ?_;rintro _ _⟨jn,rfl,rfl⟩;refine dC (jN (vs:=[I ((rdp lt q).1),I ((rdp lt q).2)]) 0 Z jQ Z Z Z (by intro v hv;simp at hv;rcases hv with rfl|rfl<;>rfl) Z) ?_;rintro _ _ rfl;refine aA<|wq<|wm Z<|wy (dK (q:=0) (rdr 0 Z) jo sz3 Z Z (ak Z) cC cC Z)<|wy (yL 0 au Z Z Z)<|wy (aF ay dH Z Z (ao.c _) (by first|exact ht.1|exact ht.2.1) (by first|exact ht.1|exact ht.2.1)) ?_;refine bh.elim (i:=(rdp lt q).1) (by first|exact ht.1|exact ht.2.1) (by first|exact ht.1|exact ht.2.1) (λdy ee Hs xl Sm Pl=> ?_);refine wy (lC af Z Z Z (ao.c _) Hs)<|wn Z<|aK<|wm Z<|wm Z<|wy (dK (q:=1) (rdr 0 Z) jo sz3 Z Z (ak Z) cC cC Z)<|wy (yL 0 au Z Z Z)<|wm Z<|wy (aL af Z)<|wA Z Z<|wS Z Z<|wm Z<|wy (aL af Z)<|wy (rR Z Z) ?_;refine wy (aF af sz5 Z Z (xl.c _))<|wy (aU bn Z Z (xl.c _))<|wa (bH .u8 [rd (rdl ws ((rdp lt q).1)) (((((rdp lt q).2)+(((rdl ws ((rdp lt q).1)).length:Nat):Int))-1)%(((rdl ws ((rdp lt q).1)).length:Nat):Int))] af zs5 Z Z Z) ?_;rintro _ _⟨Nl,rfl,rfl⟩;refine wa (aQ 3 Z af zb5 Z Z Z (rdr 0 Z)) ?_;rintro _ _⟨pf,ph,rfl,rfl⟩;refine bC (v:=sl pf (m1+1) ph) Z<|wn Z<|aK<|wA Z Z<|wm Z<|aA ?_;exact⟨q+1,pf,m1+1,ph,acc++([rd (rdl ws ((rdp lt q).1)) (((((rdp lt q).2)+(((rdl ws ((rdp lt q).1)).length:Nat):Int))-1)%(((rdl ws ((rdp lt q).1)).length:Nat):Int))]),⟨G,G,(by rw[ah,mt];rfl),(by rw[ah,Sk,ib];omega),(by rw[LB js G,iv,bc];rfl)⟩,G,SA,λ_ h=>h.selR (F:=[_,_,_,_,_,_]) (F':=[_,_,_,_]) [2,3,4,5] cC Z⟩
    ·refine aR<|wq<|wm Z<|wa (aC bLm Z (Ct.fresh (λw hw=>aLr ((ao.c _) w hw) (bh.c hw) hN))) ?_;rintro _ _⟨_,rfl,re,rh,wb,wi,m9,Ri,rfl,Pb,rfl⟩;have Qj:=Pb.1;refine bT (R1:=(⟨22,1,re,m9.length,rh,m9,false⟩::(ri 3 wb (((fI ws).map Prod.snd).length) wi ((fI ws).map Prod.snd))::⟨230,2,dv,lt.length,br,prs lt,false⟩::(ru 5 B1 m1 d1 acc)::(ri 3 none 0 0 ([]))::(ru 5 none 0 0 ([]))::Ri)) (Sub.refl _) (λ_ h=>Hp.toTail0 (X:=[_,_]) (Y:=[_,_,_,_]) h)<|wm Z<|wX Z Z<|wX Z Z<|wn Z<|wq<|wm Z<|wm Z<|wg Z<|wg Z<|wn Z<|bU (R1:=[(ru 5 B1 m1 d1 acc),(ri 3 wb (((fI ws).map Prod.snd).length) wi ((fI ws).map Prod.snd))]) (λ_ h=>(h.selR (F:=[_,_,_,_,_,_]) (F':=[_,_]) [3,1] cC Z).left (X:=[_,_])) ?_;refine⟨_,_,_,Z,Z,Z,?_⟩;rw[bi G] at bc;obtain rfl:=mt;exact⟨_,_,_,_,acc,_,0,Z, .inr (.inr ⟨G,rfl,λw hw=>Cr λe=>jj ⟨w,hw,e⟩,⟨lt,a7,ge,bc⟩,rfl⟩),rfl⟩
theorem _root_.Go.Pure.ExtR.bytes {ws:AD} (h:ExtR ws L TS e) (hb: ∀w∈ws,aN w):aN L:=by
 rcases h with⟨_,_,rfl,_⟩|⟨_,_,_,rfl,_⟩|⟨_,_,_,⟨T,hp,_,rfl⟩,_⟩
 ·exact aN.nil
 ·exact aN.nil
 ·exact kW hp λx hx=>by
   obtain⟨w,hw,h⟩:=ug.1 hx;exact hb w hw x h
theorem _root_.Go.Pure.ExtR.tlen (h:ExtR ws L TS e):TS.length<=ws.length:=by
 rcases h with⟨_,_,_,rfl⟩|⟨_,_,_,_,rfl⟩|⟨_,_,_,_,rfl⟩
 ·exact qg _
 ·exact qg _
 ·rw[bq,(iK ws).length_eq];exact pM ws
theorem _root_.Go.Pure.ExtR.all {ws:AD} (h:ExtR ws L TS e) (he:e=0):TS.length=ws.length/\ ∀w∈ws,0<w.length:=by
 rcases h with⟨rfl,_⟩|⟨_,rfl,_⟩|⟨_,_,cv,_,rfl⟩
 ·omega
 ·omega
 ·refine ⟨?_,cv⟩;rw[bq,(iK ws).length_eq];unfold dE;rw[bq,Bu.2 λw hw=>ni (cv w hw)]
end Go.Proofs.YtdbebmmhdefgdaaGreat
namespace Go.Pure
open Go Go.Eng
variable {ws:AD} {L TS:AH}
open Classical in
noncomputable def aVl (ws:AD):AH × AH:=if h: ∃p:AH × AH,ExtR ws p.1 p.2 0 then Classical.choose h else([],[])
theorem WB {ws:AD} (h:ExtR ws L TS 0) (hb: ∀w∈ws,aN w):aVl ws=(L,TS):=by
 have he: ∃p:AH × AH,ExtR ws p.1 p.2 0:=⟨(L,TS),h⟩;unfold aVl;rw[dif_pos he];obtain⟨_,h1,h2⟩:=h.one (Classical.choose_spec he) hb;exact Prod.ext h1 h2
noncomputable def vX (TS:AH):AH:=aW TS.length++(TS.map aW).flatten
theorem KZ {i:Int} (h0:0<=i) (h1:i<TS.length):((TS.take (i+1).toNat).map aW).flatten=((TS.take i.toNat).map aW).flatten++aW (rd TS i):=by
 rw[dJ h0 h1,iv,lq];simp
noncomputable def dZ (o:Int) (ws:AD):AH:=
 aW (canon ws).flatten.length++(vX (aVl ws).2++(aW (bR (aVl ws).1 o).length++(eG (bv (gQ (canon ws).flatten))++bR (aVl ws).1 o)))
noncomputable def xI (so o size:Int) (ws:AD):AH:=
 (([87,72,82,76]++[1,3,so,o])++aW size++(if ws=[] then [] else dZ o ws))++(aW 0++aW (canon ws).flatten.length)
theorem fT (ws:AD):(canon ws).flatten.length=ws.flatten.length:=by
 have h1:((canon ws).map List.length).sum=((dE ws).map λr=>(KR r).length).sum:=by
  unfold canon;rw[qo];exact((iK ws).map _).sum_nat
 rw[qc,qc,h1];unfold dE;rw[qo];clear h1
 induction ws with
 |nil=>rfl
 | cons w ws ih=>
  by_cases h:0<w.length
  ·rw [nz (by simpa using h),ko,uh,ko,uh,ih];congr 1;show(KR (lQ w)).length=w.length;rw[EY h,kL]
  ·rw [kz (by simpa using h),ko,uh,ih];omega
theorem aFp {ws:AD} (hp: ∀w∈ws,0<w.length) (h1:ws.length<=1000) (h2:ws.flatten.length<=100000): ∃L TS,ExtR ws L TS 0:=by
 obtain⟨T,h3,h4⟩:=zC ws;exact⟨T.map (lastB ws),_, .inr (.inr ⟨G,rfl,hp,⟨T,h3,h4,rfl⟩,rfl⟩)⟩
theorem tY {TS:AH} (h:ExtR ws L TS 0): ∀t∈TS,0<t/\t<=ws.flatten.length:=by
 rcases h with⟨h,_⟩|⟨_,h,_⟩|⟨_,_,_,_,rfl⟩
 ·omega
 ·omega
 intro t ht;obtain⟨r,hr,rfl⟩:=ii.1 ht;have h2:=(iK ws).mem_iff.1 hr;unfold dE at h2;obtain⟨w,hw,rfl⟩:=ii.1 h2;obtain⟨hw,hp⟩:=nu.1 hw;have hp:0<w.length:=by simpa using hp
 have hl:0<(lw w).length:=by rw[kL];exact hp
 have h3:=sZ hl;have h4:=ve (rz hw);refine⟨h3,?_⟩;show gB (lw w)<=_
 have h5:gB (lw w)<=(lw w).length:=by
  unfold gB;exact Dt _ G
 rw[kL] at h5;omega
theorem DY (h:ExtR ws L TS 0):L.length=ws.flatten.length:=by
 rcases h with⟨h,_⟩|⟨_,h,_⟩|⟨_,_,_,⟨T,hT,_,rfl⟩,_⟩
 ·omega
 ·omega
 ·rw[bq,EM hT]
end Go.Pure
namespace Go.Eng
open Go Go.RowKit Go.Pure
section
variable {P:Program} {n:Nd} {B:Nat} {w0:World}
end
end Go.Eng
namespace Go.Eng
open Go Go.RowKit
section
variable {P:Program} {n:Nd} {B:Nat} {w0:World} {ops:Array Oper} {K:Env->List Row->Prop} {L:Env} {R R1:List Row}
theorem aPz {bm:Nat} {ab:AI} (h: ∀w,Hp B w0 w R↔Hp B w0 w R1) (k:WD P n B w0 ops K bm ab L R1):WD P n B w0 ops K bm ab L R:=by
 intro a w Q hs hp km hq;have e:(λw=>Hp B w0 w R)=(λw=>Hp B w0 w R1):=funext λw=>propext (h w);rw[e];exact k a w Q hs ((h w).1 hp) km hq
theorem Hp.toTailI0 {w:World} {X Rs Y:List Row}:Hp B w0 w ((X++Rs)++Y)↔Hp B w0 w (X++(Y++Rs)):=by
 have hp:((X++Rs)++Y).Perm (X++(Y++Rs)):=by
  rw[gq];exact zl X uk
 exact⟨λh=>h.perm hp,λh=>h.perm hp.symm⟩
end
end Go.Eng
namespace Go.Proofs.YtdbebmmhdefgdaaGreat
open Go Go.Eng Go.Pure
open Tryz
set_option maxRecDepth 100000
variable {w:World} {ar Au ki:AF} {bo aw cu qe kj:Nat} {al:AG} {ws:AD} {so od sz:Int} {TS acc:AH}
theorem aOg {ap:AF} {bl an:Nat} {u:AH} (ac:Rd w ap bl an 1 (ints .u8 u)):
  CF 67 #[sl ap bl an] w (λv R'=>v= .bool (decide ((u.length:Int)=0))):=by
 obtain rfl:=ac.lenI;refine fn1 Tryz.func67 Z Z Z ?_;have kc:=ac.max;refine wq<|wn Z<|wq<|wm Z<|wy (aL af Z)<|wy (fD Z Z)<|wn Z<|bQ ?_;refine⟨_,Z,?_⟩;rfl
theorem aNg {w:World} (ao:Rd w ar bo aw 1 al) (bh:SlW .u8 w al ws):
  CF 114 #[sl ar bo aw, .func (.func 67) #[] #[]] w (λv R'=> ∃z:Int,v=I z/\(0<=z↔eO ws)):=by
 obtain rfl:bo=ws.length:=by have:=ao.len;have:=bh.1;omega
 refine fn1 Il Z Z Z ?_;have kh:=ao.max;refine wq<|wn Z<|aD<|wq<|wm Z<|wy (aL ay Z)<|wm Z<|aA<|aH ?_;refine gZ (λ(k:Int)=>[(0,sl ar ws.length aw),(1, .func (.func 67) #[] #[]),(7,I (ws.length:Int)),(8,I k)]) (λk=>[]) (λk=>(0<=k)/\(k<=ws.length)/\(∀j:Int,0<=j->j<k->j<ws.length->0<(rdl ws j).length)) (λk=>(ws.length-k).toNat) ?_ ?_
 ·exact⟨0,⟨G,G,(λj h1 h2=>G)⟩,KP⟩
 intro k ⟨ju,tz,cv⟩;refine wq<|wL Z Z<|aA<|aD<|bA Z (λba=> ?_) (λba=> ?_)
 ·refine aI<|aD<|aH<|wq<|wm Z<|wn Z<|wq<|wm Z<|wm Z<|wm Z<|wy (aF ay dH Z Z (ao.c _)) ?_;refine bh.elim (i:=k) G G (λcg ce py ub xt tk=> ?_);refine wy (lC af Z Z Z (ao.c _) py)<|wa (AQ bOj Z Z (Ct.quiet (λw hw=>aOg ((ub.c _) w hw)))) ?_;rintro _ _⟨rfl,rfl⟩;refine aA<|bA Z (λcj=> ?_) (λcj=> ?_)
  ·refine wq<|wm Z<|wn Z<|bQ ?_;exact⟨_,Z,k,Z,⟨λ_=>GM ju G cF,λ_=>ju⟩⟩
  ·refine aI<|aK<|wA Z Z<|wm Z<|aA ?_
   exact⟨k+1,⟨G,G,(λj h1 h2 h3=>by
     rcases bz j k with g|g
     ·exact cv j h1 g h3
     ·obtain rfl:j=k:=G
      omega)⟩,G,KP⟩
 ·refine aR<|wq<|wn Z<|bQ ?_;exact⟨_,Z,-1,Z,⟨λh=>G,λh=>absurd h (GL G cv)⟩⟩
theorem EC {w:World} (ao:Rd w ar bo aw 1 al) (bh:SlW .u8 w al ws):
  CF 68 #[sl ar bo aw, .func (.func 67) #[] #[]] w (λv R'=>v= .bool (decide (eO ws))):=by
 obtain rfl:bo=ws.length:=by have:=ao.len;have:=bh.1;omega
 refine fn1 Jr Z Z Z ?_;have kh:=ao.max;refine wq<|wn Z<|wq<|wm Z<|wm Z<|wa (aC aWp Z (Ct.quiet (λw hw=>aNg ((ao.c _) w hw) (bh.c hw)))) ?_;rintro _ _⟨rfl,z1,rfl,xb⟩;refine wy (iD Z Z)<|wn Z<|bQ ?_;refine⟨_,Z,?_⟩;exact bu Value.bool (sj.2 xb)
theorem bFq {k:IntKind} {W w':World} {R:List Row} {vals:AG} {ls:AD} (h:SlW k w vals ls) (hb:RowKit.Below w.heap.size w W) (hw:Hp w.heap.size W w' R):SlW k w' vals ls:=
 ⟨h.1,λj hj=>let ⟨A,c,h1,h2,h3⟩:=h.2 j hj;⟨A,c,h1,(h2.cb hb R) _ hw,h3⟩⟩
theorem aTu (ao:Rd w ar bo aw 1 al) (bh:SlW .u8 w al ws) (hp:(0<=so/\so<=2)/\(od=0\/od=1)/\(1<=sz/\sz<=16777216)) (cv: ¬eO ws) (hN:ws.flatten.length<=400/\ws.length<=400):
  CF 36 #[.agg #[sl Au 0 cu,sl ar ws.length aw], .agg #[I 3,I so,I od,I sz]] w (λv R'=>v=I 0):=by
 obtain rfl:bo=ws.length:=by have:=ao.len;have:=bh.1;omega
 refine fn1 Es Z Z Z ?_;have kh:=ao.max;refine wq<|wa (cB (sz:=2) Z Z) ?_;rintro _ _⟨aq,rfl,rfl⟩;refine wa (cB (sz:=4) Z Z) ?_;rintro _ _⟨fi,rfl,rfl⟩;refine wn Z<|wq<|wn Z<|wq<|wy (yF 0 0 bg sz3 Z)<|wy (yL 0 au Z Z Z)<|wR Z Z<|wn Z<|aD<|aD ?_;refine aK<|wy (bM (vs:=[I 3,I so,I od,I sz]) (rdr 0 Z) bg Z eQ Z Z (ak Z) Z)<|wa (aC WF Z (xP G hp)) ?_;rintro _ _⟨rfl,rfl⟩;refine wy (dW Z)<|wm Z<|aB Z Z<|wm Z<|aB Z Z<|wy (dW Z)<|aB Z Z<|wm Z<|aM Z Z Z Z<|aM Z Z Z Z<|aM Z Z Z Z<|aM Z Z Z Z<|aB Z Z<|wy (aO Z Z)<|wy (aO Z Z) ?_;refine wm Z<|aB Z Z<|wm Z<|aB Z Z<|wm Z<|aB Z Z<|wy (yF 0 0 dm dH Z)<|aB Z Z<|wy (yL 1 af Z Z Z)<|aB Z Z<|wy (aL af Z)<|aB Z Z<|wy (Yl.f (dA Z Z) cC)<|aB Z Z<|wy (aS Z Z) ?_;refine wy (aO Z Z)<|wm Z<|aB Z Z<|wy (yF 1 1 dm jC Z)<|aB Z Z<|wy (yL 1 ay Z Z Z)<|aB Z Z<|wm Z<|aB Z Z<|wa (aC aOc Z (Ct.quiet (λw hw=>EC ((ao.c _) w hw) (bh.c hw)))) ?_;rintro _ _⟨rfl,rfl⟩;refine rT 36 Z (cv)<|wy (aO Z Z)<|aA<|aP Z<|aI<|aD<|aD<|bF mixed<|wD 0 Z (yF 0 0 dm dH Z)<|wD 1 Z (yL 1 af Z Z Z)<|wD 2 Z (aL af Z)<|wD 3 Z (yF 1 1 dm jC Z)<|wD 4 Z (yL 1 ay Z Z Z)<|wC 5 Z (aC AB Z (Ct.fresh (λw hw=>iO ((ao.c _) w hw) (bh.c hw) ⟨G,G⟩))) ?_;rintro _ _⟨_,rfl,fm,kx,rfl,rfl⟩;refine⟨.inr hrZ,?_⟩;refine wD 6 Z (aL af Z)<|wD 7 Z (cK Z Z)<|wD 8 Z (Yl.f (dA Z Z))<|wD 9 Z (aJ Z)<|wG 10 Z Z Z (yF 1 1 dm jC Z)<|wG 11 Z Z Z (yL 2 ay Z Z Z)<|wG 12 Z Z Z (aL ay Z)<|wG 13 Z Z Z (Yl.f (dA Z Z))<|wD 14 Z (aO Z Z)<|wN<|aP Z<|aI<|wq<|wg Z ?_;refine aA<|aT [] 99 cC Z ?_;refine⟨_,Z,?_⟩;rfl
theorem aAp {L:AH} {e:Int} (hx:ExtR ws L TS e) (cv: ¬eO ws) (h1:ws.length<=1000) (h2:ws.flatten.length<=100000):e=0:=by
 rcases hx with⟨_,h,_⟩|⟨_,_,h,_⟩|⟨_,h,_⟩
 ·omega
 ·exact absurd h cv
 ·exact h
theorem aCy (ao:Rd w ar bo aw 1 al) (bh:SlW .u8 w al ws) (cv: ¬eO ws) (hN:ws.flatten.length<=400/\ws.length<=400):
  CF 74 #[sl ki qe kj,sl ar bo aw, .agg #[I 3,I so,I od,I sz]] w (λv R'=> ∃(L TS:AH) (A1:AF) (c1:Nat) (A2:AF) (c2:Nat),v= .tuple #[sl A1 (vX TS).length c1,sl A2 L.length c2]/\(ExtR ws L TS 0/\(vX TS).length<=1203)/\R'=[(ru 5 A1 ((vX TS).length) c1 (vX TS)),(ru 5 A2 L.length c2 L)]):=by
 obtain rfl:bo=ws.length:=by have:=ao.len;have:=bh.1;omega
 refine fn2 Gy Z Z Z ?_;have kh:=ao.max;refine wq<|wa (cB (sz:=4) Z Z) ?_;rintro _ _⟨aq,rfl,rfl⟩;refine wg Z<|wn Z<|aD<|wq<|wy (yF 0 0 bg sz3 Z)<|wy (yL 0 au Z Z Z)<|aA<|aH<|wq<|wQ Z Z<|wn Z ?_;refine aP Z<|wq<|wQ Z Z<|wn Z<|aP Z<|wq<|wR Z Z<|wn Z<|dS Z<|wq ?_;refine wm Z<|wa (aC bMp Z (Ct.fresh (λw hw=>aFq ((ao.c _) w hw) (bh.c hw) ⟨λw hw=>by have:=ve (rz hw);omega,G⟩))) ?_;rintro _ _⟨_,rfl,en,fm,es,kx,L1,oa,e1,rfl,xp,rfl⟩;obtain rfl:=aAp xp cv G G;have Hj:=xp.tlen;have yv:=tY xp;have ur:=DY xp;have a7:=bW 2 (oa.length:Int) G;refine wm Z<|wX Z Z<|wX Z Z<|wX Z Z<|wg Z<|wg Z<|wn Z<|wq<|wm Z<|wy (aL aa Z)<|wa (aC xJ Z (Ct.fresh (λw hw=>gU G))) ?_;rintro _ _⟨_,rfl,dv,br,rfl,rfl⟩;refine wn Z<|aD<|wq<|wm Z<|wy (aL aa Z)<|wm Z<|aA<|aH ?_;refine eH (λ(i:Int) (A1:AF) (n1:Nat) (c1:Nat) (acc:AH)=>[(6,sl A1 n1 c1),(15,sl en L1.length es),(61,sl fm oa.length kx),(62,I (oa.length:Int)),(63,I i)]) (λi A1 n1 c1 acc=>[(ru 5 A1 n1 c1 acc),(ru 5 en L1.length es L1),(ri 3 fm oa.length kx oa),(rc 27 4 aq [I 3,I so,I od,I sz])]) (λi A1 n1 c1 acc=>(0<=i)/\(i<=oa.length)/\(n1=acc.length)/\(acc=aW (oa.length:Int)++((oa.take i.toNat).map aW).flatten)/\((acc.length:Int)<=3+i*3)) (λi A1 n1 c1 acc=>(oa.length-i).toNat) ?_ ?_
 ·exact⟨0,dv,(aW (oa.length:Int)).length,br,aW (oa.length:Int),⟨G,G,(Z),cD,G⟩,KP⟩
 intro i A1 n1 c1 acc ⟨bb,gd,cm,bc,qt⟩;refine wq<|wL Z Z<|aA<|aD<|bA Z (λba=> ?_) (λba=> ?_)
 ·have ht0:=yv _ (bI (L:=oa) (k:=i) bb G);have sk:=bW 2 (rd oa i) G;refine aI<|aD<|aH<|wq<|wy (aF aa sz3 Z Z (rdr 2 Z))<|wy (aU au Z Z (rdr 2 Z))<|wn Z<|aK<|wm Z<|wm Z<|wa (aC xJ Z (Ct.fresh (λw hw=>gU G))) ?_;rintro _ _⟨_,rfl,fz,ci,rfl,rfl⟩;refine wa (aQ 1 Z af zb5 Z Z Z (rdr 0 Z)) ?_;rintro _ _⟨dy,ee,rfl,rfl⟩;refine bC (v:=sl dy (n1+((aW (rd oa i)).length)) ee) Z<|wn Z<|aK<|wA Z Z<|wm Z<|aA ?_;exact⟨i+1,dy,n1+((aW (rd oa i)).length),ee,acc++(aW (rd oa i)),⟨G,G,(by rw[ah,cm]),(by rw[KZ bb G,<-gq,<-bc]),(by rw[ah];omega)⟩,G,SA,λ_ h=>h.sel [1,2,3,4] cC Z⟩
 ·refine aR<|wq<|wm Z<|wm Z<|wg Z<|wn Z<|aT [0,1] 99 cC Z ?_;refine⟨_,_,Z,Z,?_⟩;rw[bi G] at bc;have e:acc=vX oa:=by rw[bc];rfl
  subst cm;rw[e] at qt ⊢;exact⟨L1,oa,_,_,_,_,Z,⟨xp,G⟩,rfl⟩
theorem IA {TS:AH} (h: ∀t∈TS,0<t):aN (vX TS):=by
 intro x hx;rcases dz.1 hx with hx|hx
 ·exact dB G x hx
 ·obtain ⟨l,hl,hx⟩:=ug.1 hx;obtain⟨t,ht,rfl⟩:=ii.1 hl;exact dB (by have:=h t ht;omega) x hx
theorem aPa {b:AH} (ie:Rd w ki qe kj 1 (ints .u8 b)) (ao:Rd w ar bo aw 1 al) (bh:SlW .u8 w al ws) (hb:b=(canon ws).flatten) (cx:aN b) (hp:(0<=so/\so<=2)/\(od=0\/od=1)/\(1<=sz/\sz<=16777216)) (cv: ¬eO ws) (hN:ws.flatten.length<=400/\ws.length<=400):
  CF 41 #[sl ki qe kj,sl ar bo aw, .agg #[I 3,I so,I od,I sz]] w (λv R'=> ∃A c,v=sl A (dZ od ws).length c/\R'=[(ru 5 A ((dZ od ws).length) c (dZ od ws))]):=by
 obtain rfl:=ie.lenI;obtain rfl:bo=ws.length:=by have:=ao.len;have:=bh.1;omega
 refine fn1 Gx Z Z Z ?_;have v7:=ie.max;have kh:=ao.max;have zr:=bu List.length hb;have hcl0:=fT ws;have u6:=bW 2 (b.length:Int) G;refine wq<|wa (cB (sz:=4) Z Z) ?_;rintro _ _⟨aq,rfl,rfl⟩;refine wn Z<|wq<|wm Z<|wm Z<|wy (bM (vs:=[I 3,I so,I od,I sz]) (rdr 0 Z) bg Z eQ Z Z (ak Z) Z)<|wa (aC bCc Z (Ct.fresh (λw hw=>aCy ((ao.c _) w hw) (bh.c hw) cv hN))) ?_;rintro _ _⟨_,rfl,L1,oa,en,es,fm,kx,rfl,⟨xp,Vz⟩,rfl⟩;have Vq:=xp.bytes (λw hw=>((bh.okB) w hw).1);have ur:=DY xp;have Fl:=lG (b:=L1) (o:=od) Vq;have kt:=fT ws;have yd:=bW 2 ((canon ws).flatten.length:Int) G;have a6:=bW 2 ((bR L1 od).length:Int) G;refine wm Z<|wX Z Z<|wX Z Z<|wg Z<|wn Z<|wq<|wm Z<|wy (yF 2 2 bg sz3 Z)<|wy (yL 2 au Z Z Z)<|wa (aC aVu Z (Ct.fresh (λw hw=>tL ((rdr 1 Z) w hw) Vq hp.2.1 G))) ?_;rintro _ _⟨_,rfl,dv,br,rfl,rfl⟩;refine wm Z<|wX Z Z<|wX Z Z<|wg Z<|wn Z<|wq<|wm Z<|wy (aL af Z)<|wa (aC xJ Z (Ct.fresh (λw hw=>gU G))) ?_;rintro _ _⟨_,rfl,na,db,rfl,rfl⟩;refine wm Z<|wm Z<|wy (aL af Z)<|wa (aC xJ Z (Ct.fresh (λw hw=>gU G))) ?_;rintro _ _⟨_,rfl,fb,pm,rfl,rfl⟩;refine wa (aC aFu Z (Ct.fresh (λw hw=>oU))) ?_;rintro _ _⟨_,rfl,Rr,rfl,rfl⟩;refine wm Z<|wa (iQ [Value.slice ki b.length kj] ay nS Z Z Z Z) ?_;rintro _ _⟨Nl,rfl,rfl⟩;refine wa (aC aFt Z (Ct.at 1 Z (oQ (ls:=[b]) (.inl ⟨Z,Z,dh ..,G⟩) (rdr 0 rfl) rfl (yZ.one (l:=b) (ie.c _) cx (by first|rfl|simp|(simp[upd];done))) (Big.one (by first|omega|decide|simp))))) ?_;rintro _ _⟨rfl,rfl⟩;refine wa (aC bCb Z (Ct.fresh (λw hw=>DU ⟨by unfold bv;omega,by unfold bv;have:=(gQ ([b]).flatten).isLt;omega⟩))) ?_;rintro _ _⟨_,rfl,pf,ph,rfl,rfl⟩;refine wm Z<|wa (iQ [Value.slice na ((aW (b.length:Int)).length) db,Value.slice en ((vX oa).length) es,Value.slice fb ((aW (((bR L1 od).length:Nat):Int)).length) pm,Value.slice pf 4 ph,Value.slice dv ((bR L1 od).length) br] ay nS Z Z Z Z) ?_;rintro _ _⟨wk,rfl,rfl⟩;refine wa (aC AB Z (Ct.fresh (λw hw=>iO ((rdr 0 Z) w hw) ((((((gD _ _).snoc ((rdr 5 Z) w hw) (λx hx=>dR ((dB G) x hx)) G).snoc ((rdr 7 Z) w hw) (λx hx=>dR ((IA (λt ht=>(tY xp t ht).1)) x hx)) G).snoc ((rdr 4 Z) w hw) (λx hx=>dR ((dB G) x hx)) G).snoc ((rdr 1 Z) w hw) (λx hx=>dR ((iI _) x hx)) (by show(4:Nat)<=_;decide)).snoc ((rdr 6 Z) w hw) (λx hx=>dR ((fZ _ _) x hx)) G) ⟨by simp only[qc,jd,jf,oh,ko,qx,uh,Fj,jb];have h4:(eG (bv (gQ ([b]).flatten))).length=4:=rfl;omega,cD⟩))) ?_;rintro _ _⟨_,rfl,nd,nh,rfl,rfl⟩;refine wn Z<|aT [0] 99 cC Z ?_;refine⟨_,Z,?_⟩
 have e:([aW (b.length:Int),vX oa,aW (((bR L1 od).length:Nat):Int),eG (bv (gQ ([b]).flatten)),bR L1 od]).flatten=dZ od ws:=by
  subst hb;unfold dZ;rw[WB xp (λw hw=>((bh.okB) w hw).1)];simp
 rw[<-e];exact⟨_,_,Z,Z⟩
theorem aNy (h:acc=(([87,72,82,76]++[1,3%256,so%256,od%256])++aW sz)++(List.replicate (chN (canon ws).flatten.length (100000:Int).toNat) (dZ od ws)).flatten) (hs:0<=so/\so<=2) (ho:od=0\/od=1) (cv: ¬eO ws) (hN:ws.flatten.length<=400):
  ([]++[acc]++[aW 0]++[aW (((canon ws).flatten.length:Nat):Int)]:AD).flatten=xI so od sz ws:=by
 have e:(List.replicate (chN (canon ws).flatten.length (100000:Int).toNat) (dZ od ws)).flatten=if ws=[] then [] else dZ od ws:=by
  rw[fT];by_cases hw:ws=[]
  ·subst hw;rfl
  ·rw [df hw]
   have h0:0<ws.flatten.length:=by
    cases ws with
    |nil=>exact absurd rfl hw
    |cons w l=>
     have:w.length≠0:=λe=>cv ⟨w, .head _,e⟩;rw[qj,ah];omega
   have:chN ws.flatten.length (100000:Int).toNat=1:=by
    show(ws.flatten.length+100000-1)/100000=1;omega
   rw[this];simp
 rw[h,e,ky (a:=so) G G,ky (a:=od) G G];unfold xI;simp
theorem rO {ws:AD} (hb: ∀w∈ws,aN w) (cv: ¬eO ws) (hx: ∃L TS,ExtR ws L TS 0) (hN:ws.flatten.length<=400/\ws.length<=400):(dZ od ws).length<=3000/\aN (dZ od ws):=by
 obtain⟨L,TS,hx⟩:=hx;have Vq:=hx.bytes hb;have ur:=DY hx;have Hj:=hx.tlen;have Fl:=lG (b:=L) (o:=od) Vq;have kt:=fT ws;have yd:=bW 2 ((canon ws).flatten.length:Int) G;have a6:=bW 2 ((bR L od).length:Int) G;have hl4:=bW 2 (TS.length:Int) G;have h4:(eG (bv (gQ (canon ws).flatten))).length=4:=rfl
 have hm:(TS.map aW).flatten.length<=3*TS.length:=by
  have yv:=tY hx;clear hl4 Hj hx
  induction TS with
  |nil=>simp
  |cons t l ih=>
   have h1:=yv t (.head _);have h2:=bW 2 t G;have h3:=ih λt ht=>yv t (.tail _ ht);rw[ko,qj,ah,dn];omega
 unfold dZ vX;rw[WB hx hb];refine⟨by simp only[ah];omega,λx zc=> ?_⟩;simp only[dz] at zc;rcases zc with h|(h|h)|h|h|h
 ·exact dB G x h
 ·exact dB G x h
 ·exact IA (λt ht=>(tY hx t ht).1) x (dz.2 (.inr h))
 ·exact dB G x h
 ·exact iI _ x h
 ·exact fZ _ _ x h
theorem aFs {ws:AD} {k:Nat} (h:acc=(([87,72,82,76]++[1,3%256,so%256,od%256])++aW sz)++(List.replicate k (dZ od ws)).flatten) (hs:0<=so/\so<=2) (ho:od=0\/od=1) (hb: ∀w∈ws,aN w) (cv: ¬eO ws) (hx: ∃L TS,ExtR ws L TS 0) (hN:ws.flatten.length<=400/\ws.length<=400) (hz:0<=sz):aN acc:=by
 rw[h];intro x zc;rcases dz.1 zc with zc|zc
 ·rcases dz.1 zc with zc|zc
  ·simp only[jf,jd,jc,vk,Gm] at zc;omega
  ·exact dB hz x zc
 ·obtain ⟨l,hl,zc⟩:=ug.1 zc;rw[Bz hl] at zc;exact(rO hb cv hx hN).2 x zc
theorem aAv {ws:AD} (h:acc=(([87,72,82,76]++[1,3%256,so%256,od%256])++aW sz)++(List.replicate (chN (canon ws).flatten.length (100000:Int).toNat) (dZ od ws)).flatten) (hb: ∀w∈ws,aN w) (cv: ¬eO ws) (hx: ∃L TS,ExtR ws L TS 0) (hN:ws.flatten.length<=400/\ws.length<=400) (h1:1<=sz) (h2:sz<=16777216):acc.length<=3100:=by
 have e1:=(rO (od:=od) hb cv hx hN).1;have e4:=bW 4 sz G
 have e2:chN (canon ws).flatten.length (100000:Int).toNat<=1:=by
  rw[fT];show(ws.flatten.length+100000-1)/100000<=1;omega
 have e5:=bu List.length h;rw[ah,ah,ah] at e5;have e6:([87,72,82,76]:AH).length=4:=rfl;have e7:([1,3%256,so%256,od%256]:AH).length=4:=rfl
 have e8:(List.replicate (chN (canon ws).flatten.length (100000:Int).toNat) (dZ od ws)).flatten.length<=3000:=by
  rcases Nat.le_one_iff_eq_zero_or_eq_one.1 e2 with e|e
  ·rw[e];simp
  ·rw[e];simpa using e1
 omega
theorem bBx (ao:Rd w ar bo aw 1 al) (bh:SlW .u8 w al ws) (hp:(0<=so/\so<=2)/\(od=0\/od=1)/\(1<=sz/\sz<=16777216)) (cv: ¬eO ws) (hN:ws.flatten.length<=400/\ws.length<=400) (hex: ∃L TS,ExtR ws L TS 0):
  CF 16 #[.agg #[sl Au 0 cu,sl ar ws.length aw], .agg #[I 3,I so,I od,I sz]] w (λv R'=> ∃A c,v= .tuple #[sl A (xI so od sz ws).length c,I 0]/\R'=[(ru 5 A ((xI so od sz ws).length) c (xI so od sz ws))]):=by
 obtain rfl:bo=ws.length:=by have:=ao.len;have:=bh.1;omega
 refine fnV Jn Z Z ?_;have kh:=ao.max;have zv: ∀w∈ws,aN w:=λw hw=>((bh.okB) w hw).1;have Zs:=bW 4 sz G;have kt:=fT ws;have Ki:aN (canon ws).flatten:=λx hx=>by obtain⟨l,hl,hx⟩:=ug.1 hx;exact(xO (bh.okB) l hl).1 x hx
 have Zr:=bW 2 ((canon ws).flatten.length:Int) G;refine eP ?_;refine aK<|wa (cB (sz:=2) Z Z) ?_;rintro _ _⟨aq,rfl,rfl⟩;refine gM (R1:=((rc 25 2 aq [sl Au 0 cu,sl ar ws.length aw])::[])) Z<|wa (cB (sz:=4) Z Z) ?_;rintro _ _⟨cy,rfl,rfl⟩;refine gM (R1:=((rc 27 4 cy [I 3,I so,I od,I sz])::(rc 25 2 aq [sl Au 0 cu,sl ar ws.length aw])::[])) Z<|wg Z<|wn Z ?_;refine eP ?_;refine wq<|wy (bM (vs:=[sl Au 0 cu,sl ar ws.length aw]) (rdr 1 Z) dm Z pJ Z Z (ak Z) Z)<|wy (bM (vs:=[I 3,I so,I od,I sz]) (rdr 0 Z) bg Z eQ Z Z (ak Z) Z)<|wa (aC bHh Z (Ct.quiet (λw hw=>aTu ((ao.c _) w hw) (bh.c hw) hp cv hN))) ?_;rintro _ _⟨rfl,rfl⟩;refine wn Z<|wq<|wm Z<|wy (Yl.f (jP Z Z) cC)<|aA<|aP Z<|aI ?_;refine eP ?_;refine aK<|wa (bH .u8 [87,72,82,76] af zs5 Z Z Z) ?_;rintro _ _⟨fd,rfl,rfl⟩;refine wa (WV 0 Z Z af bn Z Z) ?_;rintro _ _⟨rfl,rfl⟩;refine gM (R1:=(⟨5,1,(GG fd),4,4,ints .u8 ([87,72,82,76]),true⟩::(rc 27 4 cy [I 3,I so,I od,I sz])::(rc 25 2 aq [sl Au 0 cu,sl ar ws.length aw])::[])) Z<|wy (yF 0 0 bg sz3 Z)<|wy (yL 1 au Z Z Z)<|wy (dU au bn Z)<|wy (yF 1 1 bg sz3 Z)<|wy (yL 1 au Z Z Z)<|wy (dU au bn Z)<|wy (yF 2 2 bg sz3 Z)<|wy (yL 1 au Z Z Z)<|wy (dU au bn Z)<|wa (bH .u8 [1,3%256,so%256,od%256] af zs5 Z Z Z) ?_;rintro _ _⟨io,rfl,rfl⟩;refine wa (sK af zb5 Z (rdr 1 Z) Z (rdr 0 Z) (by first|decide|(dsimp only;decide)) (by first|decide|(dsimp only;decide)) (by first|decide|(dsimp only;decide)) (by first|decide|(dsimp only;decide)) (by first|decide|(dsimp only;decide)) Z) ?_;rintro _ _⟨ir,ef,rfl,rfl⟩;refine gM (R1:=((ru 5 (GG ir) 8 ef (([87,72,82,76])++([1,3%256,so%256,od%256])))::(ru 5 (GG io) 4 4 ([1,3%256,so%256,od%256]))::⟨5,1,(GG fd),4,4,ints .u8 ([87,72,82,76]),true⟩::(rc 27 4 cy [I 3,I so,I od,I sz])::(rc 25 2 aq [sl Au 0 cu,sl ar ws.length aw])::[])) Z<|bC (v:=sl (GG ir) 8 ef) Z<|wa (kF (sz:=1) bFb Z) ?_;rintro _ _⟨ml,rfl,rfl⟩;refine gM (R1:=((rc 22 1 ml [sl none 0 0])::(ru 5 (GG ir) 8 ef (([87,72,82,76])++([1,3%256,so%256,od%256])))::(ru 5 (GG io) 4 4 ([1,3%256,so%256,od%256]))::⟨5,1,(GG fd),4,4,ints .u8 ([87,72,82,76]),true⟩::(rc 27 4 cy [I 3,I so,I od,I sz])::(rc 25 2 aq [sl Au 0 cu,sl ar ws.length aw])::[])) Z<|dC (bE 0 Z Z Z dH Z Z Z Z (ak Z)) ?_;rintro _ _ rfl;refine gM (R1:=((rc 22 1 ml [sl (GG ir) 8 ef])::(ru 5 (GG ir) 8 ef (([87,72,82,76])++([1,3%256,so%256,od%256])))::(ru 5 (GG io) 4 4 ([1,3%256,so%256,od%256]))::⟨5,1,(GG fd),4,4,ints .u8 ([87,72,82,76]),true⟩::(rc 27 4 cy [I 3,I so,I od,I sz])::(rc 25 2 aq [sl Au 0 cu,sl ar ws.length aw])::[])) Z<|aA ?_;refine eP ?_;refine bF mixed<|wD 0 Z (yL 0 af Z Z Z)<|wD 1 Z (yF 3 3 bg sz3 Z)<|wD 2 Z (yL 4 au Z Z Z)<|wC 3 Z (aC xJ Z (Ct.fresh (λw hw=>gU G))) ?_;rintro _ _⟨_,rfl,bw,bx,rfl,rfl⟩;refine⟨.inr hrZ,?_⟩;refine wC 4 Z (aQ 2 Z af zb5 Z Z Z (rdr 0 Z) cG) ?_;rintro _ _⟨fa,fc,rfl,rfl⟩;refine⟨.inl cA,?_⟩;refine qC (R1:=((ru 5 bw ((aW sz).length) bx (aW sz))::(rc 22 1 ml [sl (GG ir) 8 ef])::(ru 5 fa (8+((aW sz).length)) fc ((([87,72,82,76])++([1,3%256,so%256,od%256]))++(aW sz)))::(ru 5 (GG io) 4 4 ([1,3%256,so%256,od%256]))::⟨5,1,(GG fd),4,4,ints .u8 ([87,72,82,76]),true⟩::(rc 27 4 cy [I 3,I so,I od,I sz])::(rc 25 2 aq [sl Au 0 cu,sl ar ws.length aw])::[])) Z<|fO (v:=sl fa (8+((aW sz).length)) fc) Z<|qD 5 Z cA (bE 1 Z Z Z dH Z Z Z Z (ak Z)) ?_;rintro _ _ rfl;refine⟨.inl cA,?_⟩;refine qC (R1:=((ru 5 bw ((aW sz).length) bx (aW sz))::(rc 22 1 ml [sl fa (8+((aW sz).length)) fc])::(ru 5 fa (8+((aW sz).length)) fc ((([87,72,82,76])++([1,3%256,so%256,od%256]))++(aW sz)))::(ru 5 (GG io) 4 4 ([1,3%256,so%256,od%256]))::⟨5,1,(GG fd),4,4,ints .u8 ([87,72,82,76]),true⟩::(rc 27 4 cy [I 3,I so,I od,I sz])::(rc 25 2 aq [sl Au 0 cu,sl ar ws.length aw])::[])) Z<|wN ?_;refine eP ?_;refine bF mixed<|wD 0 Z (yF 0 0 dm dH Z)<|wD 1 Z (yL 6 af Z Z Z)<|wD 2 Z (yF 1 1 dm jC Z)<|wD 3 Z (yL 6 ay Z Z Z)<|wC 4 Z (aC bJj Z (Ct.fresh (λw hw=>TP ((ao.c _) w hw) (bh.c hw) (⟨λw hw=>by have:=ve (rz hw);omega,G⟩)))) ?_;rintro _ _⟨_,rfl,fb,pm,mz,k9,rfl,Ge,rfl⟩;refine⟨.inr λ_ h=>h.right,?_⟩;have Qh:=Ge.1;refine aPz (R1:=(⟨22,1,fb,mz.length,pm,mz,false⟩::(ru 5 bw ((aW sz).length) bx (aW sz))::(rc 22 1 ml [sl fa (8+((aW sz).length)) fc])::(ru 5 fa (8+((aW sz).length)) fc ((([87,72,82,76])++([1,3%256,so%256,od%256]))++(aW sz)))::(ru 5 (GG io) 4 4 ([1,3%256,so%256,od%256]))::⟨5,1,(GG fd),4,4,ints .u8 ([87,72,82,76]),true⟩::(rc 27 4 cy [I 3,I so,I od,I sz])::(rc 25 2 aq [sl Au 0 cu,sl ar ws.length aw])::k9)) (λ_=>Hp.toTailI0 (X:=[_]) (Y:=[_,_,_,_,_,_,_]))<|wC 5 Z (aC AB Z (Ct.fresh (λw hw=>iO ((rdr 0 Z) w hw) (Ge.slw (xO bh.okB) (Hp.right (R':=[_,_,_,_,_,_,_,_]) hw)) ⟨G,by have:=TN ws;omega⟩))) ?_;rintro _ _⟨_,rfl,li,lj,rfl,rfl⟩;refine⟨.inr hrZ,?_⟩;refine wC 6 Z (iQ [Value.slice Au 0 cu,Value.slice li ((((canon ws)).flatten).length) lj] ay nS Z Z Z Z) ?_;rintro _ _⟨c5,rfl,rfl⟩;refine⟨.inr hrZ,?_⟩;refine wC 7 Z (aC AB Z (Ct.fresh (λw hw=>rJ (u:=(canon ws).flatten) ((rdr 0 Z) w hw) (((gD _ _).snoc (zS w hw) (λx hx=>dR ((show aN [] from λ_ h=>nomatch h) x hx)) cC).snoc ((rdr 1 Z) w hw) (λx hx=>dR (Ki x hx)) G) ⟨by rw[show([]++[[]]++[(canon ws).flatten]:AD).flatten=(canon ws).flatten from by simp];omega,cD⟩ cD))) ?_;rintro _ _⟨_,rfl,jx,jz,rfl,rfl⟩;refine⟨.inr hrZ,?_⟩;refine wD 8 Z (bB Z)<|wN ?_;refine eP ?_;refine aK<|wy (yF 3 3 bg sz3 Z)<|wy (yL 9 au Z Z Z)<|wn Z ?_;refine eP ?_;refine wq<|wy (yF 0 0 bg sz3 Z)<|wy (yL 9 au Z Z Z)<|wR Z Z<|aA<|dS Z<|aK<|wn Z ?_;refine XN ?_;refine eP ?_;refine aK<|wm Z<|wm Z<|wa (aC bJi Z (Ct.fresh (λw hw=>OP ((rdr 0 Z) w hw) G))) ?_;rintro _ _⟨_,rfl,d4,Ko,rfl,rfl⟩;refine aA ?_;refine BF ?_;refine KQ Z bJf (IU (A:=jx) (c:=jz) (zs:=(canon ws).flatten) (sz:=100000) G G G) Z (λ_=>Z) Gd.refl (λ(kr:Nat) (A1:AF) (n1:Nat) (c1:Nat) (acc:AH)=>((rc 22 1 d4 [sl jx (((canon ws).flatten).length) jz])::(rc 3 1 Ko [I 100000])::(ru 5 jx (((canon ws).flatten).length) jz ((canon ws).flatten))::⟨22,1,(GG c5),2,2,[Value.slice Au 0 cu,Value.slice li ((((canon ws)).flatten).length) lj],false⟩::(ru 5 li ((((canon ws)).flatten).length) lj (((canon ws)).flatten))::⟨22,1,fb,mz.length,pm,mz,false⟩::(ru 5 bw ((aW sz).length) bx (aW sz))::(rc 22 1 ml [sl A1 n1 c1])::(ru 5 A1 n1 c1 acc)::(ru 5 (GG io) 4 4 ([1,3%256,so%256,od%256]))::⟨5,1,(GG fd),4,4,ints .u8 ([87,72,82,76]),true⟩::(rc 27 4 cy [I 3,I so,I od,I sz])::(rc 25 2 aq [sl Au 0 cu,sl ar ws.length aw])::k9)) (λkr A1 n1 c1 acc=>(n1=acc.length)/\(acc=(([87,72,82,76]++[1,3%256,so%256,od%256])++aW sz)++(List.replicate kr (dZ od ws)).flatten)) ?_ ?_ ?_ ?_
 ·exact⟨fa,8+((aW sz).length),fc,(([87,72,82,76])++([1,3%256,so%256,od%256]))++(aW sz),⟨(by rw[ah];rfl),(by rw[Ff];simp)⟩,λ_ h=>h⟩
 ·intro kr A1 n1 c1 acc w ⟨cm,bc⟩ hw;exact⟨(rdr 0 Z) w hw,(rdr 1 Z) w hw,(rdr 2 Z) w hw⟩
 ·intro lr kr A1 n1 c1 acc Wv Lc ⟨cm,bc⟩ Nw;have Mk:kr*(100000:Int).toNat<(canon ws).flatten.length:=(GU cC).1 cF;have ju:kr=0:=by have:kr*100000<(canon ws).flatten.length:=Mk;omega
  have vf:(((canon ws).flatten.drop (kr*(100000:Int).toNat)).take (100000:Int).toNat)=(canon ws).flatten:=by rw[ju,Bq,Fx,bi (by show _<=100000;omega)]
  have qt:=bu List.length bc;rw[ju,Ff,ah,ah,ah] at qt;have h8:([87,72,82,76]:AH).length=4:=rfl;have h9:([1,3%256,so%256,od%256]:AH).length=4:=rfl;have h7:([]:AD).flatten.length=0:=rfl;refine aK<|wn Z ?_;intro Ng vc;refine aH<|bF mixed<|wD 0 Z (yL 7 af Z Z Z)<|wD 1 Z (aJ Z)<|wD 2 Z (yF 1 1 dm jC Z)<|wD 3 Z (yL 12 ay Z Z Z)<|wD 4 Z (bM (vs:=[I 3,I so,I od,I sz]) (rdr 11 Z) bg Z eQ Z Z (ak Z) Z)<|wC 5 Z (aC bJh Z (Ct.fresh (λw hw=>aPa (b:=((canon ws).flatten.drop (kr*(100000:Int).toNat)).take (100000:Int).toNat) ((RU (l:=kr*(100000:Int).toNat) (n:=(100000:Int).toNat) (rdr 2 Z) cG) w hw) ((ao.cb vc _) w hw) (bFq bh vc hw) vf (by rw[vf];exact Ki) hp cv hN))) ?_;rintro _ _⟨_,rfl,nf,nj,rfl,rfl⟩;have Sp:=(rO (od:=od) zv cv hex hN).1;refine⟨.inr hrZ,?_⟩;refine wC 6 Z (aQ 9 Z af zb5 Z Z Z (rdr 0 Z)) ?_;rintro _ _⟨rx,sd,rfl,rfl⟩;refine⟨.inl cA,?_⟩;refine qC (R1:=((ru 5 nf ((dZ od ws).length) nj (dZ od ws))::(rc 22 1 d4 [sl jx (((canon ws).flatten).length) jz])::(rc 3 1 Ko [I 100000])::(ru 5 jx (((canon ws).flatten).length) jz ((canon ws).flatten))::⟨22,1,(GG c5),2,2,[Value.slice Au 0 cu,Value.slice li ((((canon ws)).flatten).length) lj],false⟩::(ru 5 li ((((canon ws)).flatten).length) lj (((canon ws)).flatten))::⟨22,1,fb,mz.length,pm,mz,false⟩::(ru 5 bw ((aW sz).length) bx (aW sz))::(rc 22 1 ml [sl A1 n1 c1])::(ru 5 rx (n1+((dZ od ws).length)) sd (acc++(dZ od ws)))::(ru 5 (GG io) 4 4 ([1,3%256,so%256,od%256]))::⟨5,1,(GG fd),4,4,ints .u8 ([87,72,82,76]),true⟩::(rc 27 4 cy [I 3,I so,I od,I sz])::(rc 25 2 aq [sl Au 0 cu,sl ar ws.length aw])::k9)) Z<|fO (v:=sl rx (n1+((dZ od ws).length)) sd) Z<|qD 7 Z cA (bE 8 Z Z Z dH Z Z Z Z (ak Z)) ?_;rintro _ _ rfl;refine⟨.inl cA,?_⟩;refine qC (R1:=((ru 5 nf ((dZ od ws).length) nj (dZ od ws))::(rc 22 1 d4 [sl jx (((canon ws).flatten).length) jz])::(rc 3 1 Ko [I 100000])::(ru 5 jx (((canon ws).flatten).length) jz ((canon ws).flatten))::⟨22,1,(GG c5),2,2,[Value.slice Au 0 cu,Value.slice li ((((canon ws)).flatten).length) lj],false⟩::(ru 5 li ((((canon ws)).flatten).length) lj (((canon ws)).flatten))::⟨22,1,fb,mz.length,pm,mz,false⟩::(ru 5 bw ((aW sz).length) bx (aW sz))::(rc 22 1 ml [sl rx (n1+((dZ od ws).length)) sd])::(ru 5 rx (n1+((dZ od ws).length)) sd (acc++(dZ od ws)))::(ru 5 (GG io) 4 4 ([1,3%256,so%256,od%256]))::⟨5,1,(GG fd),4,4,ints .u8 ([87,72,82,76]),true⟩::(rc 27 4 cy [I 3,I so,I od,I sz])::(rc 25 2 aq [sl Au 0 cu,sl ar ws.length aw])::k9)) Z<|wN ?_;exact⟨rx,n1+((dZ od ws).length),sd,acc++(dZ od ws),⟨(by rw[ah,cm]),(by rw[Bg,lq,<-gq,<-bc];simp)⟩,λ_=>λ_ h=>h.selR (F:=[_,_,_,_,_,_,_,_,_,_,_,_,_,_]) (F':=[_,_,_,_,_,_,_,_,_,_,_,_,_]) [1,2,3,4,5,6,7,8,9,10,11,12,13] cC Z⟩
 intro Nh Wu A1 n1 c1 acc ⟨cm,bc⟩ Bx vb;refine XO ?_;refine aQf ?_;refine v_w ?_;refine aD<|bF mixed<|wD 0 Z (yL 7 af Z Z Z)<|wD 2 Z (aJ Z)<|wD 3 Z (aL af Z)<|wC 1 Z (aC xJ Z (Ct.fresh (λw hw=>gU cC))) ?_;rintro _ _⟨_,rfl,Nb,Ni,rfl,rfl⟩;refine⟨.inr hrZ,?_⟩;refine wC 4 Z (aC xJ Z (Ct.fresh (λw hw=>gU G))) ?_;rintro _ _⟨_,rfl,i7,i9,rfl,rfl⟩;refine⟨.inr hrZ,?_⟩;refine wC 5 Z (iQ [Value.slice A1 n1 c1,Value.slice Nb ((aW 0).length) Ni,Value.slice i7 ((aW ((((canon ws).flatten).length:Nat):Int)).length) i9] ay nS Z Z Z Z) ?_;rintro _ _⟨g_39,rfl,rfl⟩;refine⟨.inr hrZ,?_⟩;refine wC 6 Z (aC AB Z (Ct.fresh (λw hw=>rJ (u:=(xI so od sz ws)) ((rdr 0 Z) w hw) ((((gD _ _).snoc ((rdr 11 Z) w hw) (λx hx=>dR ((aFs bc hp.1 hp.2.1 zv cv hex hN G) x hx)) (by have:=aAv bc zv cv hex hN G G;omega)).snoc ((rdr 2 Z) w hw) (λx hx=>dR ((dB G) x hx)) cC).snoc ((rdr 1 Z) w hw) (λx hx=>dR ((dB G) x hx)) G) ⟨by rw[show([]++[acc]++[aW 0]++[aW (((canon ws).flatten.length:Nat):Int)]:AD).flatten=acc++(aW 0++aW (((canon ws).flatten.length:Nat):Int)) from by simp,ah,ah];have:=aAv bc zv cv hex hN G G;have h0:(aW 0).length=1:=rfl;omega,cD⟩ (aNy bc hp.1 hp.2.1 cv hN.1)))) ?_;rintro _ _⟨_,rfl,Wp,Xa,rfl,rfl⟩;refine⟨.inr hrZ,?_⟩;refine wD 7 Z (bB Z)<|wD 8 Z (bB Z)<|wN<|bU (R1:=[(ru 5 Wp (((xI so od sz ws)).length) Xa (xI so od sz ws))]) (λ_ h=>(h.selR (F:=[_,_,_,_,_,_,_,_,_,_,_,_,_,_,_,_,_]) (F':=[_]) [0] cC Z).left (X:=[_])) ?_;refine aNq Z vb ⟨_,_,Z,Z,?_⟩;exact⟨_,_,Z,Z⟩
variable {w:World} {ap:AF} {bl an:Nat} {u:AH}
theorem bFs {rp:AF} {vu rr:Nat} {a:AH} (ac:Rd w ap bl an 1 (ints .u8 u)) (md:Rd w rp vu rr 1 (ints .i64 a)) (hp:a.Perm (iota u.length)) (hN:u.length<=1000000):
  CF 143 #[sl ap bl an,sl rp vu rr] w (λv R'=> ∃A c,v= .tuple #[sl A (ofL u a).length c,I (zat a),bt]/\R'=[(ru 5 A ((ofL u a).length) c (ofL u a))]):=by
 obtain rfl:=ac.lenI;obtain rfl:=md.lenI;refine fn3 Tryz.func143 Z Z Z ?_;have kc:=ac.max;have Pj:=md.max;have Nu:a.length=u.length:=by rw[hp.length_eq,bD]
 have hnd:a.Nodup:=hp.symm.nodup (eT _);have vf:a.Perm (iota a.length):=by rw[Nu];exact hp
 refine wq<|bT (R1:=[(ru 5 none 0 0 ([]))]) (Sub.refl _) (λ_ h=>h.nil 5 1)<|wg Z<|wg Z<|wn Z<|aD<|wq<|wm Z<|wy (aL aa Z)<|wm Z<|wy (aL af Z)<|wy (Yl.f (jP Z Z)) ?_;refine wm Z<|aB Z Z<|wm Z<|aB Z Z<|wa (aC bLe Z (Ct.quiet (λw hw=>bBk ((md.c _) w hw) vf G))) ?_;rintro _ _⟨rfl,rfl⟩;refine aB Z Z<|wy (dW Z)<|wy (aO Z Z)<|aA<|aP Z<|aI<|aD<|wq<|wm Z<|wy (aL af Z)<|wy (fD Z Z)<|aA<|bA Z (λba=> ?_) (λba=> ?_)
 ·refine wq<|wg Z<|wg Z<|wn Z<|aT [0] 99 cC Z ?_;refine⟨_,_,_,Z,Z,Z,?_⟩;have e:=bAm (u:=u) (a:=a) G G;rw[e.1,e.2];exact⟨none,0,Z,Z⟩
 ·refine aI<|wq<|wm Z<|wm Z<|wy (aL af Z)<|wS Z Z<|wy (aF af sz5 Z Z (ac.c _))<|wy (aU bn Z Z (ac.c _))<|wa (bH .u8 [rd u ((u.length:Int)-1)] af zs5 Z Z Z) ?_;rintro _ _⟨cy,rfl,rfl⟩;refine wn Z<|wq<|wn Z<|aD<|wq<|wn Z<|aH ?_;refine mX (λ(i:Int) (A1:AF) (n1:Nat) (c1:Nat) (acc:AH) (m:Int)=>[(0,sl ap u.length an),(1,sl rp a.length rr),(7,sl A1 n1 c1),(8,I m),(9,I i)]) (λi A1 n1 c1 acc m=>[(ru 5 A1 n1 c1 acc),(ru 5 none 0 0 ([]))]) (λi A1 n1 c1 acc m=>(0<=i)/\(i<=a.length)/\(n1=acc.length)/\(acc=(if 0<u.length then [rd u (u.length-1)] else [])++ofT u (a.take i.toNat))/\(m=zat (a.take i.toNat))) (λi A1 n1 c1 acc m=>(a.length-i).toNat) ?_ ?_
  ·exact⟨0,GG cy,1,1,[rd u ((u.length:Int)-1)],0,⟨G,G,(by first|rfl|simp),(by first|(rw[di G];rfl)|(rw[df G];rfl)),(Z)⟩,KP⟩
  intro i A1 n1 c1 acc m ⟨bb,gd,cm,bc,hm⟩
  have qt:acc.length<=i.toNat+1:=by
   have h1:=VK u (a.take i.toNat);rw[ax] at h1;rw[bc,ah];split<;>simp only[dn,jb]<;>omega
  have u3:i<a.length->0<=rd a i/\rd a i<u.length:=λh=>aZ.1 (hp.subset (bI bb h));refine aD<|wq<|wm Z<|wm Z<|wy (aL aa Z)<|wL Z Z<|aA<|bA Z (λcj=> ?_) (λcj=> ?_)
  ·have Sj:=u3 G;refine aI<|aD<|aH<|aD<|wq<|wm Z<|wm Z<|wy (aF aa sz3 Z Z (md.c _))<|wy (aU au Z Z (md.c _))<|wy (fD Z Z)<|aA<|bA Z (λfh=> ?_) (λfh=> ?_)
   ·refine wq<|wm Z<|wA Z Z<|wn Z<|aR<|aK<|wm Z<|wA Z Z<|wn Z ?_;exact⟨i+1,A1,n1,c1,acc,i+1,⟨G,G,(cm),(VJ bb G bc cF),(UD hnd bb G cF)⟩,G,KP⟩
   ·refine aI<|aK<|wm Z<|wm Z<|wm Z<|wm Z<|wy (aF aa sz3 Z Z (md.c _))<|wy (aU au Z Z (md.c _))<|wS Z Z<|wy (aF af sz5 Z Z (ac.c _))<|wy (aU bn Z Z (ac.c _))<|wa (bH .u8 [rd u ((rd a i)-1)] af zs5 Z Z Z) ?_;rintro _ _⟨jt,rfl,rfl⟩;refine wa (aQ 1 Z af zb5 Z Z Z (rdr 0 Z)) ?_;rintro _ _⟨gn,mj,rfl,rfl⟩;refine bC (v:=sl gn (n1+1) mj) Z<|wn Z<|aK<|wm Z<|wA Z Z<|wn Z ?_;exact⟨i+1,gn,n1+1,mj,acc++([rd u ((rd a i)-1)]),m,⟨G,G,(by rw[ah,cm];rfl),(aEn bb G bc cF),(aCp hnd bb G hm cF)⟩,G,SA,λ_ h=>h.sel [1,2] cC Z⟩
  ·refine aR<|wq<|wm Z<|wm Z<|wg Z<|wg Z<|wn Z<|aT [0] 99 cC Z ?_;refine⟨_,_,_,Z,Z,Z,?_⟩;have Uj:a.take i.toNat=a:=bi G;rw[Uj] at bc hm;obtain rfl:acc=ofL u a:=bc;obtain rfl:=cm;subst hm;exact⟨_,_,Z,Z⟩
theorem aRe (ac:Rd w ap bl an 1 (ints .u8 u)) (am:aN u) (hN:u.length<=100000):
  CF 82 #[sl ap bl an] w (λv R'=> ∃(b:AH) (A:AF) (c:Nat),v= .tuple #[sl A (ofL u b).length c,I (zat b)]/\b.Perm (iota u.length)/\b.Pairwise (bY u)/\R'=[(ru 5 A ((ofL u b).length) c (ofL u b))]):=by
 obtain rfl:=ac.lenI;refine fn2 Tryz.func82 Z Z Z ?_;have kc:=ac.max;refine wq<|wg Z<|wn Z<|wq<|wm Z<|wm Z<|wa (aC bMf Z (Ct.fresh (λw hw=>aGm ((ac.c _) w hw) am G))) ?_;rintro _ _⟨_,rfl,b1,cg,ce,rfl,dq,fg,rfl⟩;refine wa (aC bMg Z (Ct.fresh (λw hw=>bFs ((ac.c _) w hw) ((rdr 0 Z) w hw) dq G))) ?_;rintro _ _⟨_,rfl,ns,pi,rfl,rfl⟩;refine wm Z<|wX Z Z<|wX Z Z<|wX Z Z<|wg Z<|wg Z<|wn Z<|wq<|wm Z<|wm Z<|wg Z<|wn Z ?_;refine aT [0] 99 cC Z ?_;refine⟨_,_,Z,Z,?_⟩;exact⟨b1,_,_,Z,dq,fg,Z⟩
variable {w:World} {o last:Int}
theorem wK {ew:Int}:
  CF 232 #[I ew] w (λv R'=>v=I (iP ew)):=by
 refine fn1 Tryz.func232 Z Z Z ?_;refine wq<|wn Z<|aD<|wq<|wm Z<|wL Z Z<|aA<|bA Z (λba=> ?_) (λba=> ?_)
 ·refine wq<|wn Z<|bQ ?_;refine⟨_,Z,?_⟩;exact bu (Value.int .i64) (by unfold iP;rw[di cF])
 ·refine aI<|aD<|wq<|wm Z<|wy (qP Z Z)<|aA<|bA Z (λcj=> ?_) (λcj=> ?_)
  ·refine wq<|wn Z<|bQ ?_;refine⟨_,Z,?_⟩;exact bu (Value.int .i64) (by unfold iP;rw[df cF,di G])
  ·refine aI<|wq<|wn Z<|bQ ?_;refine⟨_,Z,?_⟩;exact bu (Value.int .i64) (by unfold iP;rw[df cF,df G])
theorem PU (ho:o=0\/o=1) (hk:iP last*o=0):
  CF 166 #[I o,I last] w (λv R'=>v=I 0):=by
 refine fn1 Iw Z Z Z ?_;refine wq<|wn Z<|aD<|wq<|wm Z<|wy (fD Z Z)<|aA<|bA Z (λba=> ?_) (λba=> ?_)
 ·refine wq<|wn Z<|bQ ?_;refine⟨_,Z,?_⟩;exact bu (Value.int .i64) (by first|rfl|(rw[(by assumption:o=0)] at hk;omega))
 ·refine aI<|wq<|wm Z<|wa (aC aVz Z (Ct.quiet (λw hw=>wK))) ?_;rintro _ _⟨rfl,rfl⟩;refine wn Z<|bQ ?_;refine⟨_,Z,?_⟩;exact bu (Value.int .i64) (by rw[show o=1 by omega] at hk;omega)
theorem PT (ho:o=0\/o=1) (hk:iP last*o=1):
  CF 166 #[I o,I last] w (λv R'=>v=I 1):=by
 refine fn1 Iw Z Z Z ?_;refine wq<|wn Z<|aD<|wq<|wm Z<|wy (fD Z Z)<|aA<|bA Z (λba=> ?_) (λba=> ?_)
 ·refine wq<|wn Z<|bQ ?_;refine⟨_,Z,?_⟩;exact bu (Value.int .i64) (by first|rfl|(rw[(by assumption:o=0)] at hk;omega))
 ·refine aI<|wq<|wm Z<|wa (aC aVz Z (Ct.quiet (λw hw=>wK))) ?_;rintro _ _⟨rfl,rfl⟩;refine wn Z<|bQ ?_;refine⟨_,Z,?_⟩;exact bu (Value.int .i64) (by rw[show o=1 by omega] at hk;omega)
theorem PS (ho:o=0\/o=1) (hk:iP last*o=2):
  CF 166 #[I o,I last] w (λv R'=>v=I 2):=by
 refine fn1 Iw Z Z Z ?_;refine wq<|wn Z<|aD<|wq<|wm Z<|wy (fD Z Z)<|aA<|bA Z (λba=> ?_) (λba=> ?_)
 ·refine wq<|wn Z<|bQ ?_;refine⟨_,Z,?_⟩;exact bu (Value.int .i64) (by first|rfl|(rw[(by assumption:o=0)] at hk;omega))
 ·refine aI<|wq<|wm Z<|wa (aC aVz Z (Ct.quiet (λw hw=>wK))) ?_;rintro _ _⟨rfl,rfl⟩;refine wn Z<|bQ ?_;refine⟨_,Z,?_⟩;exact bu (Value.int .i64) (by rw[show o=1 by omega] at hk;omega)
theorem VA:
  CF 165 #[] w (λv R'=> ∃(g g0 g1 g2:Nat) (A0 A1 A2:AF) (c0 c1 c2:Nat),v=sl (GG g) 3 3/\R'=[⟨223,1,(GG g),3,3,[Value.pointer (GG g0),Value.pointer (GG g1),Value.pointer (GG g2)],false⟩,(rc 277 1 g0 [sl A0 258 c0]),(ri 3 A0 258 c0 uY),(rc 277 1 g1 [sl A1 258 c1]),(ri 3 A1 258 c1 uY),(rc 277 1 g2 [sl A2 258 c2]),(ri 3 A2 258 c2 uY)]):=by
 refine fn1 Tryz.func165 Z Z Z ?_;refine wq<|wn Z<|wq<|wa (aC aWa Z (Ct.fresh (λw hw=>uQ))) ?_;rintro _ _⟨_,rfl,aq,lz,mc,rfl,rfl⟩;refine wa (aC aWa Z (Ct.fresh (λw hw=>uQ))) ?_;rintro _ _⟨_,rfl,jt,gn,mj,rfl,rfl⟩;refine wa (aC aWa Z (Ct.fresh (λw hw=>uQ))) ?_;rintro _ _⟨_,rfl,ml,bw,bx,rfl,rfl⟩;refine wa (iQ [Value.pointer (GG aq),Value.pointer (GG jt),Value.pointer (GG ml)] Hz bIl Z Z Z Z) ?_;rintro _ _⟨jp,rfl,rfl⟩;refine wn Z<|aT [0,5,6,3,4,1,2] 99 cC Z ?_;exact⟨_,Z,_,_,_,_,_,_,_,_,_,_,Z,Z⟩
theorem aDr {ki:AF} {qe kj:Nat} {b:AH} (ie:Rd w ki qe kj 1 (ints .u8 b)) (cx:aN b) (ho:o=0\/o=1) (hN:b.length<=100000):
  CF 140 #[sl ki qe kj,I o] w (λv R'=> ∃A c,v= .tuple #[sl A (bR b o).length c,bt]/\R'=[(ru 5 A ((bR b o).length) c (bR b o))]):=by
 obtain rfl:=ie.lenI;refine fn2 Tryz.func140 Z Z Z ?_;have v7:=ie.max;have m5:=qU cx;have lf:=FH b;have Hj:=pI (bK aY b) 0;rw[iJ] at Hj;have vq:(bJ b).length=(bS 0 (bK aY b)).length+1:=by unfold bJ;rw[ah];rfl
 refine wq<|wg Z<|wn Z<|aD<|wq<|wm Z<|wy (Yl.f (eZ Z Z))<|wm Z<|aB Z Z<|wm Z<|aB Z Z<|wy (Yl.f (dA Z Z)) ?_;refine wy (aO Z Z)<|wm Z<|aB Z Z<|wm Z<|aB Z Z<|wy (aL af Z)<|aB Z Z<|wy (Yl.f (dA Z Z))<|wy (aO Z Z)<|aA<|aP Z<|aI<|wq<|wm Z ?_;refine wa (aC bMw Z (Ct.fresh (λw hw=>aDt ((ie.c _) w hw) cx G))) ?_;rintro _ _⟨_,rfl,cg,ce,rfl,rfl⟩;refine wa (aC bLh Z (Ct.fresh (λw hw=>aDq ((rdr 0 Z) w hw) (oN cx) (by rw[iJ];omega)))) ?_;rintro _ _⟨_,rfl,ns,pi,rfl,rfl⟩;refine wa (bH .i64 [257] aa zs3 Z Z Z) ?_;rintro _ _⟨xr,rfl,rfl⟩;refine wa (aQ 1 Z aa zb3 Z Z Z (rdr 0 Z)) ?_;rintro _ _⟨dv,br,rfl,rfl⟩;refine bC (v:=sl dv (((bS 0 (bK aY b)).length)+1) br) Z<|wn Z<|wq<|wa (aC bLx Z (Ct.fresh (λw hw=>VA))) ?_;rintro _ _⟨_,rfl,ia,iu,jn,jp,fb,fk,dj,dp,gh,gv,rfl,rfl⟩;refine wn Z<|wq<|wa (aC bLg Z (Ct.fresh (λw hw=>IZ))) ?_;rintro _ _⟨_,rfl,gi,gs,gw,rfl,rfl⟩;refine wn Z<|wq<|wn Z<|aD<|wq<|wn Z<|aH ?_;refine eH (λ(i:Int) (last:Int) (Aw:AF) (cw:Nat) (Sx:PpS)=>[(1,I o),(6,sl dv (((bS 0 (bK aY b)).length)+1) br),(7,sl (GG ia) 3 3),(8,PG gi),(9,I last),(10,I i)]) (λi last Aw cw Sx=>[(rc 262 2 gi [sl Aw (Sx.cd.k+4) cw, .int .u64 Sx.cd.R]),(ru 5 Aw (Sx.cd.k+4) cw (beL (Sx.cd.k+4) Sx.cd.N)),⟨223,1,(GG ia),3,3,[Value.pointer (GG iu),Value.pointer (GG jn),Value.pointer (GG jp)],false⟩,(rc 277 1 iu [sl fb 258 dp]),(ri 3 fb 258 dp Sx.c0),(rc 277 1 jn [sl fk 258 gh]),(ri 3 fk 258 gh Sx.c1),(rc 277 1 jp [sl dj 258 gv]),(ri 3 dj 258 gv Sx.c2),(ri 3 (GG xr) 1 1 ([257])),(ri 3 dv (((bS 0 (bK aY b)).length)+1) br (syb b)),(ru 5 cg ((b).length) ce (bK aY b))]) (λi last Aw cw Sx=>(0<=i)/\(i<=(bJ b).length)/\(Sx.cls=iP last)/\(Sx=encP o ((bJ b).take i.toNat))) (λi last Aw cw Sx=>((bJ b).length-i).toNat) ?_ ?_
 ·exact⟨0,0,gs,gw,pp0,⟨G,G,(Z),(Z)⟩,KP⟩
 intro i last Aw cw Sx ⟨bb,gd,kt,hS⟩;have de:=WE m5 hS;refine aD<|wq<|wm Z<|wm Z<|wy (aL aa Z)<|wL Z Z<|aA<|bA Z (λba=> ?_) (λba=> ?_)
 ·have hx:=m5 _ (bI (L:=bJ b) (k:=i) bb G);refine aI<|aD<|aH<|wq ?_;rcases OJ de.1 ho with hk|hk|hk
  ·refine wm Z<|wm Z<|wm Z<|wa (aC aWh Z (Ct.quiet (λw hw=>PU ho (by rw[<-kt];exact hk)))) ?_;rintro _ _⟨rfl,rfl⟩;refine wy (aF Hz aQs Z Z (rdr 2 Z))<|wy (lC underlying223 Z Z Z (rdr 2 Z) Z)<|wn Z<|wq<|wm Z<|wm Z<|wm Z<|wy (aF aa sz3 Z Z (rdr 10 Z))<|wy (aU au Z Z (rdr 10 Z))<|wa (aC aWg Z (Ct.sub (R1:=[(rc 277 1 iu [sl fb 258 dp]),(ri 3 fb 258 dp Sx.c0),(rc 262 2 gi [sl Aw (Sx.cd.k+4) cw, .int .u64 Sx.cd.R]),(ru 5 Aw (Sx.cd.k+4) cw (beL (Sx.cd.k+4) Sx.cd.N)),⟨223,1,(GG ia),3,3,[Value.pointer (GG iu),Value.pointer (GG jn),Value.pointer (GG jp)],false⟩,(rc 277 1 jn [sl fk 258 gh]),(ri 3 fk 258 gh Sx.c1),(rc 277 1 jp [sl dj 258 gv]),(ri 3 dj 258 gv Sx.c2),(ri 3 (GG xr) 1 1 ([257])),(ri 3 dv (((bS 0 (bK aY b)).length)+1) br (syb b)),(ru 5 cg ((b).length) ce (bK aY b))]) (λ_ h=>h.sel [3,4,0,1,2,5,6,7,8,9,10,11] cC Z) (sN (by rw[de.1.1.1.1]) (by rw[de.1.1.1.1];exact hx) de.1.1.1))) ?_;rintro _ _⟨rfl,rfl⟩;refine wm Z<|wX Z Z<|wX Z Z<|wX Z Z<|wg Z<|wg Z<|wn Z<|wq<|wm Z<|wm Z<|wm Z<|wm Z<|wa (aC aJi Z (Ct.sub (R1:=[(rc 277 1 iu [sl fb 258 dp]),(ri 3 fb 258 dp Sx.c0),(rc 262 2 gi [sl Aw (Sx.cd.k+4) cw, .int .u64 Sx.cd.R]),(ru 5 Aw (Sx.cd.k+4) cw (beL (Sx.cd.k+4) Sx.cd.N)),⟨223,1,(GG ia),3,3,[Value.pointer (GG iu),Value.pointer (GG jn),Value.pointer (GG jp)],false⟩,(rc 277 1 jn [sl fk 258 gh]),(ri 3 fk 258 gh Sx.c1),(rc 277 1 jp [sl dj 258 gv]),(ri 3 dj 258 gv Sx.c2),(ri 3 (GG xr) 1 1 ([257])),(ri 3 dv (((bS 0 (bK aY b)).length)+1) br (syb b)),(ru 5 cg ((b).length) ce (bK aY b))]) hiZ (nA (by rw[de.1.1.1.1]) de.1.1.1.le))) ?_;rintro _ _⟨rfl,rfl⟩;refine wa (aC aWb Z (Ct.sub (R1:=[(rc 262 2 gi [sl Aw (Sx.cd.k+4) cw, .int .u64 Sx.cd.R]),(ru 5 Aw (Sx.cd.k+4) cw (beL (Sx.cd.k+4) Sx.cd.N)),(rc 277 1 iu [sl fb 258 dp]),(ri 3 fb 258 dp Sx.c0),⟨223,1,(GG ia),3,3,[Value.pointer (GG iu),Value.pointer (GG jn),Value.pointer (GG jp)],false⟩,(rc 277 1 jn [sl fk 258 gh]),(ri 3 fk 258 gh Sx.c1),(rc 277 1 jp [sl dj 258 gv]),(ri 3 dj 258 gv Sx.c2),(ri 3 (GG xr) 1 1 ([257])),(ri 3 dv (((bS 0 (bK aY b)).length)+1) br (syb b)),(ru 5 cg ((b).length) ce (bK aY b))]) (λ_ h=>h.sel [2,3,0,1,4,5,6,7,8,9,10,11] cC Z) (FJ Z de.1.2.2 (kH de.1.1.1 hx.1 hx.2) G))) ?_;rintro _ _⟨jx,jz,rfl,rfl⟩;refine aA<|wq<|wm Z<|wm Z<|wm Z<|wy (aF aa sz3 Z Z (rdr 10 Z))<|wy (aU au Z Z (rdr 10 Z))<|wa (aC aWf Z (Ct.sub (R1:=[(rc 277 1 iu [sl fb 258 dp]),(ri 3 fb 258 dp Sx.c0),(rc 262 2 gi [sl jx ((fB Sx.cd (aV (Sx.c0.take (rd (syb b) i).toNat)) (rd Sx.c0 (rd (syb b) i)) (aV Sx.c0)).k+4) jz, .int .u64 ((fB Sx.cd (aV (Sx.c0.take (rd (syb b) i).toNat)) (rd Sx.c0 (rd (syb b) i)) (aV Sx.c0)).R)]),(ru 5 jx ((fB Sx.cd (aV (Sx.c0.take (rd (syb b) i).toNat)) (rd Sx.c0 (rd (syb b) i)) (aV Sx.c0)).k+4) jz (beL ((fB Sx.cd (aV (Sx.c0.take (rd (syb b) i).toNat)) (rd Sx.c0 (rd (syb b) i)) (aV Sx.c0)).k+4) (fB Sx.cd (aV (Sx.c0.take (rd (syb b) i).toNat)) (rd Sx.c0 (rd (syb b) i)) (aV Sx.c0)).N)),⟨223,1,(GG ia),3,3,[Value.pointer (GG iu),Value.pointer (GG jn),Value.pointer (GG jp)],false⟩,(rc 277 1 jn [sl fk 258 gh]),(ri 3 fk 258 gh Sx.c1),(rc 277 1 jp [sl dj 258 gv]),(ri 3 dj 258 gv Sx.c2),(ri 3 (GG xr) 1 1 ([257])),(ri 3 dv (((bS 0 (bK aY b)).length)+1) br (syb b)),(ru 5 cg ((b).length) ce (bK aY b))]) (λ_ h=>h.sel [2,3,0,1,4,5,6,7,8,9,10,11] cC Z) (uP (by rw[de.1.1.1.1]) (by rw[de.1.1.1.1];exact hx) de.1.1.1))) ?_;rintro _ _⟨rfl,rfl⟩;refine aA<|aK<|wm Z<|wm Z<|wy (aF aa sz3 Z Z (rdr 10 Z))<|wy (aU au Z Z (rdr 10 Z))<|wn Z<|aK<|wm Z<|wA Z Z<|wn Z ?_;exact⟨i+1,rd (syb b) i,jx,jz,(⟨kG Sx.c0 (rd (bJ b) i),Sx.c1,Sx.c2,iP (rd (bJ b) i),qV Sx.cd Sx.c0 (rd (bJ b) i)⟩:PpS),⟨G,G,(Z),(mZ hS bb G (UQ hk))⟩,G,SA,λ_ h=>h.sel [2,3,4,0,1,5,6,7,8,9,10,11] cC Z⟩
  ·refine wm Z<|wm Z<|wm Z<|wa (aC aWh Z (Ct.quiet (λw hw=>PT ho (by rw[<-kt];exact hk)))) ?_;rintro _ _⟨rfl,rfl⟩;refine wy (aF Hz aQs Z Z (rdr 2 Z))<|wy (lC underlying223 Z Z Z (rdr 2 Z) Z)<|wn Z<|wq<|wm Z<|wm Z<|wm Z<|wy (aF aa sz3 Z Z (rdr 10 Z))<|wy (aU au Z Z (rdr 10 Z))<|wa (aC aWg Z (Ct.sub (R1:=[(rc 277 1 jn [sl fk 258 gh]),(ri 3 fk 258 gh Sx.c1),(rc 262 2 gi [sl Aw (Sx.cd.k+4) cw, .int .u64 Sx.cd.R]),(ru 5 Aw (Sx.cd.k+4) cw (beL (Sx.cd.k+4) Sx.cd.N)),⟨223,1,(GG ia),3,3,[Value.pointer (GG iu),Value.pointer (GG jn),Value.pointer (GG jp)],false⟩,(rc 277 1 iu [sl fb 258 dp]),(ri 3 fb 258 dp Sx.c0),(rc 277 1 jp [sl dj 258 gv]),(ri 3 dj 258 gv Sx.c2),(ri 3 (GG xr) 1 1 ([257])),(ri 3 dv (((bS 0 (bK aY b)).length)+1) br (syb b)),(ru 5 cg ((b).length) ce (bK aY b))]) (λ_ h=>h.sel [5,6,0,1,2,3,4,7,8,9,10,11] cC Z) (sN (by rw[de.1.1.2.1.1]) (by rw[de.1.1.2.1.1];exact hx) de.1.1.2.1))) ?_;rintro _ _⟨rfl,rfl⟩;refine wm Z<|wX Z Z<|wX Z Z<|wX Z Z<|wg Z<|wg Z<|wn Z<|wq<|wm Z<|wm Z<|wm Z<|wm Z<|wa (aC aJi Z (Ct.sub (R1:=[(rc 277 1 jn [sl fk 258 gh]),(ri 3 fk 258 gh Sx.c1),(rc 262 2 gi [sl Aw (Sx.cd.k+4) cw, .int .u64 Sx.cd.R]),(ru 5 Aw (Sx.cd.k+4) cw (beL (Sx.cd.k+4) Sx.cd.N)),⟨223,1,(GG ia),3,3,[Value.pointer (GG iu),Value.pointer (GG jn),Value.pointer (GG jp)],false⟩,(rc 277 1 iu [sl fb 258 dp]),(ri 3 fb 258 dp Sx.c0),(rc 277 1 jp [sl dj 258 gv]),(ri 3 dj 258 gv Sx.c2),(ri 3 (GG xr) 1 1 ([257])),(ri 3 dv (((bS 0 (bK aY b)).length)+1) br (syb b)),(ru 5 cg ((b).length) ce (bK aY b))]) hiZ (nA (by rw[de.1.1.2.1.1]) de.1.1.2.1.le))) ?_;rintro _ _⟨rfl,rfl⟩;refine wa (aC aWb Z (Ct.sub (R1:=[(rc 262 2 gi [sl Aw (Sx.cd.k+4) cw, .int .u64 Sx.cd.R]),(ru 5 Aw (Sx.cd.k+4) cw (beL (Sx.cd.k+4) Sx.cd.N)),(rc 277 1 jn [sl fk 258 gh]),(ri 3 fk 258 gh Sx.c1),⟨223,1,(GG ia),3,3,[Value.pointer (GG iu),Value.pointer (GG jn),Value.pointer (GG jp)],false⟩,(rc 277 1 iu [sl fb 258 dp]),(ri 3 fb 258 dp Sx.c0),(rc 277 1 jp [sl dj 258 gv]),(ri 3 dj 258 gv Sx.c2),(ri 3 (GG xr) 1 1 ([257])),(ri 3 dv (((bS 0 (bK aY b)).length)+1) br (syb b)),(ru 5 cg ((b).length) ce (bK aY b))]) (λ_ h=>h.sel [2,3,0,1,4,5,6,7,8,9,10,11] cC Z) (FJ Z de.1.2.2 (kH de.1.1.2.1 hx.1 hx.2) G))) ?_;rintro _ _⟨nd,nh,rfl,rfl⟩;refine aA<|wq<|wm Z<|wm Z<|wm Z<|wy (aF aa sz3 Z Z (rdr 10 Z))<|wy (aU au Z Z (rdr 10 Z))<|wa (aC aWf Z (Ct.sub (R1:=[(rc 277 1 jn [sl fk 258 gh]),(ri 3 fk 258 gh Sx.c1),(rc 262 2 gi [sl nd ((fB Sx.cd (aV (Sx.c1.take (rd (syb b) i).toNat)) (rd Sx.c1 (rd (syb b) i)) (aV Sx.c1)).k+4) nh, .int .u64 ((fB Sx.cd (aV (Sx.c1.take (rd (syb b) i).toNat)) (rd Sx.c1 (rd (syb b) i)) (aV Sx.c1)).R)]),(ru 5 nd ((fB Sx.cd (aV (Sx.c1.take (rd (syb b) i).toNat)) (rd Sx.c1 (rd (syb b) i)) (aV Sx.c1)).k+4) nh (beL ((fB Sx.cd (aV (Sx.c1.take (rd (syb b) i).toNat)) (rd Sx.c1 (rd (syb b) i)) (aV Sx.c1)).k+4) (fB Sx.cd (aV (Sx.c1.take (rd (syb b) i).toNat)) (rd Sx.c1 (rd (syb b) i)) (aV Sx.c1)).N)),⟨223,1,(GG ia),3,3,[Value.pointer (GG iu),Value.pointer (GG jn),Value.pointer (GG jp)],false⟩,(rc 277 1 iu [sl fb 258 dp]),(ri 3 fb 258 dp Sx.c0),(rc 277 1 jp [sl dj 258 gv]),(ri 3 dj 258 gv Sx.c2),(ri 3 (GG xr) 1 1 ([257])),(ri 3 dv (((bS 0 (bK aY b)).length)+1) br (syb b)),(ru 5 cg ((b).length) ce (bK aY b))]) (λ_ h=>h.sel [2,3,0,1,4,5,6,7,8,9,10,11] cC Z) (uP (by rw[de.1.1.2.1.1]) (by rw[de.1.1.2.1.1];exact hx) de.1.1.2.1))) ?_;rintro _ _⟨rfl,rfl⟩;refine aA<|aK<|wm Z<|wm Z<|wy (aF aa sz3 Z Z (rdr 10 Z))<|wy (aU au Z Z (rdr 10 Z))<|wn Z<|aK<|wm Z<|wA Z Z<|wn Z ?_;exact⟨i+1,rd (syb b) i,nd,nh,(⟨Sx.c0,kG Sx.c1 (rd (bJ b) i),Sx.c2,iP (rd (bJ b) i),qV Sx.cd Sx.c1 (rd (bJ b) i)⟩:PpS),⟨G,G,(Z),(mZ hS bb G (UO hk))⟩,G,SA,λ_ h=>h.sel [2,3,4,5,6,0,1,7,8,9,10,11] cC Z⟩
  ·refine wm Z<|wm Z<|wm Z<|wa (aC aWh Z (Ct.quiet (λw hw=>PS ho (by rw[<-kt];exact hk)))) ?_;rintro _ _⟨rfl,rfl⟩;refine wy (aF Hz aQs Z Z (rdr 2 Z))<|wy (lC underlying223 Z Z Z (rdr 2 Z) Z)<|wn Z<|wq<|wm Z<|wm Z<|wm Z<|wy (aF aa sz3 Z Z (rdr 10 Z))<|wy (aU au Z Z (rdr 10 Z))<|wa (aC aWg Z (Ct.sub (R1:=[(rc 277 1 jp [sl dj 258 gv]),(ri 3 dj 258 gv Sx.c2),(rc 262 2 gi [sl Aw (Sx.cd.k+4) cw, .int .u64 Sx.cd.R]),(ru 5 Aw (Sx.cd.k+4) cw (beL (Sx.cd.k+4) Sx.cd.N)),⟨223,1,(GG ia),3,3,[Value.pointer (GG iu),Value.pointer (GG jn),Value.pointer (GG jp)],false⟩,(rc 277 1 iu [sl fb 258 dp]),(ri 3 fb 258 dp Sx.c0),(rc 277 1 jn [sl fk 258 gh]),(ri 3 fk 258 gh Sx.c1),(ri 3 (GG xr) 1 1 ([257])),(ri 3 dv (((bS 0 (bK aY b)).length)+1) br (syb b)),(ru 5 cg ((b).length) ce (bK aY b))]) (λ_ h=>h.sel [7,8,0,1,2,3,4,5,6,9,10,11] cC Z) (sN (by rw[de.1.1.2.2.1]) (by rw[de.1.1.2.2.1];exact hx) de.1.1.2.2))) ?_;rintro _ _⟨rfl,rfl⟩;refine wm Z<|wX Z Z<|wX Z Z<|wX Z Z<|wg Z<|wg Z<|wn Z<|wq<|wm Z<|wm Z<|wm Z<|wm Z<|wa (aC aJi Z (Ct.sub (R1:=[(rc 277 1 jp [sl dj 258 gv]),(ri 3 dj 258 gv Sx.c2),(rc 262 2 gi [sl Aw (Sx.cd.k+4) cw, .int .u64 Sx.cd.R]),(ru 5 Aw (Sx.cd.k+4) cw (beL (Sx.cd.k+4) Sx.cd.N)),⟨223,1,(GG ia),3,3,[Value.pointer (GG iu),Value.pointer (GG jn),Value.pointer (GG jp)],false⟩,(rc 277 1 iu [sl fb 258 dp]),(ri 3 fb 258 dp Sx.c0),(rc 277 1 jn [sl fk 258 gh]),(ri 3 fk 258 gh Sx.c1),(ri 3 (GG xr) 1 1 ([257])),(ri 3 dv (((bS 0 (bK aY b)).length)+1) br (syb b)),(ru 5 cg ((b).length) ce (bK aY b))]) hiZ (nA (by rw[de.1.1.2.2.1]) de.1.1.2.2.le))) ?_;rintro _ _⟨rfl,rfl⟩;refine wa (aC aWb Z (Ct.sub (R1:=[(rc 262 2 gi [sl Aw (Sx.cd.k+4) cw, .int .u64 Sx.cd.R]),(ru 5 Aw (Sx.cd.k+4) cw (beL (Sx.cd.k+4) Sx.cd.N)),(rc 277 1 jp [sl dj 258 gv]),(ri 3 dj 258 gv Sx.c2),⟨223,1,(GG ia),3,3,[Value.pointer (GG iu),Value.pointer (GG jn),Value.pointer (GG jp)],false⟩,(rc 277 1 iu [sl fb 258 dp]),(ri 3 fb 258 dp Sx.c0),(rc 277 1 jn [sl fk 258 gh]),(ri 3 fk 258 gh Sx.c1),(ri 3 (GG xr) 1 1 ([257])),(ri 3 dv (((bS 0 (bK aY b)).length)+1) br (syb b)),(ru 5 cg ((b).length) ce (bK aY b))]) (λ_ h=>h.sel [2,3,0,1,4,5,6,7,8,9,10,11] cC Z) (FJ Z de.1.2.2 (kH de.1.1.2.2 hx.1 hx.2) G))) ?_;rintro _ _⟨nf,nj,rfl,rfl⟩;refine aA<|wq<|wm Z<|wm Z<|wm Z<|wy (aF aa sz3 Z Z (rdr 10 Z))<|wy (aU au Z Z (rdr 10 Z))<|wa (aC aWf Z (Ct.sub (R1:=[(rc 277 1 jp [sl dj 258 gv]),(ri 3 dj 258 gv Sx.c2),(rc 262 2 gi [sl nf ((fB Sx.cd (aV (Sx.c2.take (rd (syb b) i).toNat)) (rd Sx.c2 (rd (syb b) i)) (aV Sx.c2)).k+4) nj, .int .u64 ((fB Sx.cd (aV (Sx.c2.take (rd (syb b) i).toNat)) (rd Sx.c2 (rd (syb b) i)) (aV Sx.c2)).R)]),(ru 5 nf ((fB Sx.cd (aV (Sx.c2.take (rd (syb b) i).toNat)) (rd Sx.c2 (rd (syb b) i)) (aV Sx.c2)).k+4) nj (beL ((fB Sx.cd (aV (Sx.c2.take (rd (syb b) i).toNat)) (rd Sx.c2 (rd (syb b) i)) (aV Sx.c2)).k+4) (fB Sx.cd (aV (Sx.c2.take (rd (syb b) i).toNat)) (rd Sx.c2 (rd (syb b) i)) (aV Sx.c2)).N)),⟨223,1,(GG ia),3,3,[Value.pointer (GG iu),Value.pointer (GG jn),Value.pointer (GG jp)],false⟩,(rc 277 1 iu [sl fb 258 dp]),(ri 3 fb 258 dp Sx.c0),(rc 277 1 jn [sl fk 258 gh]),(ri 3 fk 258 gh Sx.c1),(ri 3 (GG xr) 1 1 ([257])),(ri 3 dv (((bS 0 (bK aY b)).length)+1) br (syb b)),(ru 5 cg ((b).length) ce (bK aY b))]) (λ_ h=>h.sel [2,3,0,1,4,5,6,7,8,9,10,11] cC Z) (uP (by rw[de.1.1.2.2.1]) (by rw[de.1.1.2.2.1];exact hx) de.1.1.2.2))) ?_;rintro _ _⟨rfl,rfl⟩;refine aA<|aK<|wm Z<|wm Z<|wy (aF aa sz3 Z Z (rdr 10 Z))<|wy (aU au Z Z (rdr 10 Z))<|wn Z<|aK<|wm Z<|wA Z Z<|wn Z ?_;exact⟨i+1,rd (syb b) i,nf,nj,(⟨Sx.c0,Sx.c1,kG Sx.c2 (rd (bJ b) i),iP (rd (bJ b) i),qV Sx.cd Sx.c2 (rd (bJ b) i)⟩:PpS),⟨G,G,(Z),(mZ hS bb G (UN hk))⟩,G,SA,λ_ h=>h.sel [2,3,4,5,6,7,8,0,1,9,10,11] cC Z⟩
 ·refine aR<|wq<|wm Z<|wy (aG Z)<|wy (yF 0 0 xg dH Z)<|wy (yL 0 af Z Z Z)<|wg Z<|wn Z<|bU (R1:=[(ru 5 Aw (Sx.cd.k+4) cw (beL (Sx.cd.k+4) Sx.cd.N))]) (λ_ h=>h.sel [1] cC Z) ?_;refine⟨_,_,Z,Z,?_⟩;rw[bi G] at hS;have e:(bR b o).length=Sx.cd.k+4:=by unfold bR;rw[kE,<-hS]
  have e2:bR b o=beL (Sx.cd.k+4) Sx.cd.N:=by unfold bR;rw[<-hS]
  rw[e,e2];exact⟨_,_,Z,Z⟩
variable {w:World} {k so od sz:Int} {rp ap Aq:AF} {rr bl an cq m:Nat} {u l:AH}
theorem tJ:
  CF 24 #[.agg #[I k,I so,I od,I sz]] w (λv R'=>v= .bool (decide ((0<=k/\k<=3)/\(0<=so/\so<=2)/\(od=0\/od=1)/\(1<=sz/\sz<=16777216)))):=by
 refine fn1 Tryz.func24 Z Z Z ?_;refine wq<|wa (cB (sz:=4) Z Z) ?_;rintro _ _⟨aq,rfl,rfl⟩;refine wn Z<|wq<|wy (yF 0 0 bg sz3 Z)<|wy (yL 0 au Z Z Z)<|wy (iD Z Z)<|wm Z<|bV 4 [(1,PG aq),(10, .bool (decide ((0<=k)/\(k<=3))))] [(rc 27 4 aq [I k,I so,I od,I sz])] ?_ ?_
 ·refine bN 6 Z (λba=> ?_) (λba=> ?_)
  ·refine aB Z Z<|wy (yF 0 0 bg sz3 Z)<|aB Z Z<|wy (yL 0 au Z Z Z)<|aB Z Z<|wy (qP Z Z)<|wy (aS Z Z)<|aA ?_;exact KP
  ·refine aM Z Z Z Z<|aM Z Z Z Z<|aM Z Z Z Z<|wy (aO Z Z)<|aA ?_;exact KP
 refine wm Z<|bV 4 [(1,PG aq),(15, .bool (decide (((0<=k)/\(k<=3))/\(0<=so))))] [(rc 27 4 aq [I k,I so,I od,I sz])] ?_ ?_
 ·refine bN 11 Z (λcj=> ?_) (λcj=> ?_)
  ·refine aB Z Z<|wy (yF 1 1 bg sz3 Z)<|aB Z Z<|wy (yL 0 au Z Z Z)<|aB Z Z<|wy (iD Z Z)<|wy (aS Z Z)<|aA ?_;exact KP
  ·refine aM Z Z Z Z<|aM Z Z Z Z<|aM Z Z Z Z<|wy (aO Z Z)<|aA ?_;exact KP
 refine wm Z<|bV 4 [(1,PG aq),(20, .bool (decide ((((0<=k)/\(k<=3))/\(0<=so))/\(so<=2))))] [(rc 27 4 aq [I k,I so,I od,I sz])] ?_ ?_
 ·refine bN 16 Z (λfh=> ?_) (λfh=> ?_)
  ·refine aB Z Z<|wy (yF 1 1 bg sz3 Z)<|aB Z Z<|wy (yL 0 au Z Z Z)<|aB Z Z<|wy (qP Z Z)<|wy (aS Z Z)<|aA ?_;exact KP
  ·refine aM Z Z Z Z<|aM Z Z Z Z<|aM Z Z Z Z<|wy (aO Z Z)<|aA ?_;exact KP
 refine wm Z<|bV 9 [(1,PG aq),(30, .bool (decide (((((0<=k)/\(k<=3))/\(0<=so))/\(so<=2))/\((od=0)\/(od=1)))))] [(rc 27 4 aq [I k,I so,I od,I sz])] ?_ ?_
 ·refine bN 21 Z (λjj=> ?_) (λjj=> ?_)
  ·refine aB Z Z<|wy (yF 2 2 bg sz3 Z)<|aB Z Z<|wy (yL 0 au Z Z Z)<|aB Z Z<|wy (fD Z Z)<|aB Z Z<|wm Z<|bV 4 [(1,PG aq),(21,bt),(29, .bool (decide ((od=0)\/(od=1))))] [(rc 27 4 aq [I k,I so,I od,I sz])] ?_ ?_
   ·refine bN 25 Z (λkb=> ?_) (λkb=> ?_)
    ·refine aM Z Z Z Z<|aM Z Z Z Z<|aM Z Z Z Z<|aB Z Z<|wy (aS Z Z)<|aA ?_;exact KP
    ·refine aB Z Z<|wy (yF 2 2 bg sz3 Z)<|aB Z Z<|wy (yL 0 au Z Z Z)<|aB Z Z<|wy (fD Z Z)<|aB Z Z<|wy (aO Z Z)<|aA ?_;exact KP
   refine wy (aS Z Z)<|aA ?_;exact KP
  ·refine aM Z Z Z Z<|aM Z Z Z Z<|aM Z Z Z Z<|aM Z Z Z Z<|dQ Z Z Z<|dQ Z Z Z<|dQ Z Z Z<|aM Z Z Z Z<|wy (aO Z Z)<|aA ?_;exact KP
 refine wm Z<|bV 4 [(1,PG aq),(35, .bool (decide ((((((0<=k)/\(k<=3))/\(0<=so))/\(so<=2))/\((od=0)\/(od=1)))/\(1<=sz))))] [(rc 27 4 aq [I k,I so,I od,I sz])] ?_ ?_
 ·refine bN 31 Z (λwv=> ?_) (λwv=> ?_)
  ·refine aB Z Z<|wy (yF 3 3 bg sz3 Z)<|aB Z Z<|wy (yL 0 au Z Z Z)<|aB Z Z<|wy (iD Z Z)<|wy (aS Z Z)<|aA ?_;exact KP
  ·refine aM Z Z Z Z<|aM Z Z Z Z<|aM Z Z Z Z<|wy (aO Z Z)<|aA ?_;exact KP
 refine wm Z<|bV 4 [(40, .bool (decide (((((((0<=k)/\(k<=3))/\(0<=so))/\(so<=2))/\((od=0)\/(od=1)))/\(1<=sz))/\(sz<=16777216))))] [(rc 27 4 aq [I k,I so,I od,I sz])] ?_ ?_
 ·refine bN 36 Z (λCl=> ?_) (λCl=> ?_)
  ·refine aB Z Z<|wy (yF 3 3 bg sz3 Z)<|aB Z Z<|wy (yL 0 au Z Z Z)<|aB Z Z<|wy (qP Z Z)<|wy (aS Z Z)<|aA ?_;exact KP
  ·refine aM Z Z Z Z<|aM Z Z Z Z<|aM Z Z Z Z<|wy (aO Z Z)<|aA ?_;exact KP
 refine wn Z<|aT [] 99 cC Z ?_;refine⟨_,Z,?_⟩;exact bu Value.bool (sj.2 G)
theorem IC:
  CF 44 #[sl rp 0 rr] w (λv R'=>v=sl none 0 0):=by
 refine fn1 Tryz.func44 Z Z Z ?_;refine wq<|wn Z<|wq<|wn Z<|aD<|wq<|wn Z<|aH<|lT 1 ?_;refine eB<|aD<|wq<|wm Z<|wm Z<|wy (aL ay Z)<|wy (Yl.f (eZ Z Z) cC)<|aA<|aP Z<|aR<|wq<|wm Z<|wg Z ?_;refine aA<|bQ ?_;refine⟨_,Z,?_⟩;rfl
theorem aRx (ac:Rd w ap bl an 1 (ints .u8 u)) (hp:(0<=so/\so<=2)/\(od=0\/od=1)/\(1<=sz/\sz<=16777216)) (hk:k=0\/k=1\/k=2) (hN:u.length<=100000):
  CF 42 #[.agg #[sl ap u.length an,sl Aq 0 cq], .agg #[I k,I so,I od,I sz]] w (λv R'=>v=I 0):=by
 obtain rfl:=ac.lenI;refine fn1 Jp Z Z Z ?_;have kc:=ac.max;refine wq<|wa (cB (sz:=2) Z Z) ?_;rintro _ _⟨aq,rfl,rfl⟩;refine wa (cB (sz:=4) Z Z) ?_;rintro _ _⟨fi,rfl,rfl⟩;refine wn Z<|aD<|wq<|wy (bM (vs:=[I k,I so,I od,I sz]) (rdr 0 Z) bg Z eQ Z Z (ak Z) Z)<|wa (aC aOf Z (Ct.quiet (λw hw=>tJ))) ?_;rintro _ _⟨rfl,rfl⟩;refine mW 7 Z (⟨G,hp⟩)<|wy (dW rfl)<|wm rfl<|aB rfl rfl<|wy (yF 0 0 bg sz3 rfl)<|aB rfl rfl<|wy (yL 0 au rfl rfl rfl)<|aB rfl rfl<|wy (Yl.f (fD rfl rfl))<|aB rfl rfl<|wm rfl<|aM rfl rfl rfl rfl<|aM rfl rfl rfl rfl<|aM rfl rfl rfl rfl<|aM rfl rfl rfl rfl ?_;refine aB Z Z<|wy (aO Z Z)<|wy (aO Z Z)<|wm Z<|aB Z Z<|wy (yF 0 0 bg sz3 Z)<|aB Z Z<|wy (yL 0 au Z Z Z)<|aB Z Z<|wy (Yl.t (jP Z Z) G)<|aB Z Z<|wm Z<|aB Z Z<|wy (yF 1 1 dm jC Z)<|aB Z Z ?_;refine wy (yL 1 ay Z Z Z)<|aB Z Z<|wy (aL ay Z)<|aB Z Z<|wy (Yl.f (dA Z Z) cC)<|aB Z Z<|wy (aS Z Z)<|wy (aO Z Z)<|aA<|aP Z<|aI<|aD<|wq<|wg Z ?_;refine aA<|aH<|lT 1<|eB<|aD<|wq<|wm Z<|wy (yF 1 1 dm jC Z)<|wy (yL 1 ay Z Z Z)<|wy (aL ay Z)<|wy (Yl.f (eZ Z Z) cC)<|aA<|aP Z<|aR ?_;refine aD<|aD<|bF mixed<|wD 0 Z (yF 0 0 dm dH Z)<|wD 1 Z (yL 1 af Z Z Z)<|wD 2 Z (aL af Z)<|wD 3 Z (yF 1 1 dm jC Z)<|wD 4 Z (yL 1 ay Z Z Z)<|wC 5 Z (aC aOe Z (Ct.quiet (λw hw=>IC))) ?_;rintro _ _⟨rfl,rfl⟩;refine⟨.inr hiZ,?_⟩;refine wD 6 Z (aL af Z)<|wD 7 Z (cK Z Z)<|wD 8 Z (Yl.f (dA Z Z))<|wD 9 Z (aJ Z)<|wG 10 Z Z Z (yF 1 1 dm jC Z)<|wG 11 Z Z Z (yL 1 ay Z Z Z)<|wG 12 Z Z Z (aL ay Z)<|wG 13 Z Z Z (Yl.f (dA Z Z) cC)<|wD 14 Z (aO Z Z)<|wN<|aP Z<|aI<|wq<|wg Z ?_;refine aA<|aT [] 99 cC Z ?_;refine⟨_,Z,?_⟩;rfl
theorem rY {p0 p1 p2 p3:Int} {vu:Nat} {a:AH} {me:AF} {pk mn:Nat} (ac:Rd w ap bl an 1 (ints .u8 u)) (md:Rd w rp vu rr 1 (ints .u8 a)) (kp:Rd w me pk mn 1 (ints .u8 l)) (am:aN u) (b8:aN l) (ho:p2=0\/p2=1) (hN:u.length<=100000/\a.length<=10000/\l.length<=100000):
  CF 81 #[.agg #[I p0,I p1,I p2,I p3],sl ap bl an,sl rp vu rr,sl me pk mn] w (λv R'=> ∃A c,v=sl A (aW (u.length:Nat)++(a++(aW ((bR l p2).length:Nat)++(eG (bv (gQ u))++bR l p2)))).length c/\R'=[(ru 5 A ((aW (u.length:Nat)++(a++(aW ((bR l p2).length:Nat)++(eG (bv (gQ u))++bR l p2)))).length) c (aW (u.length:Nat)++(a++(aW ((bR l p2).length:Nat)++(eG (bv (gQ u))++bR l p2)))))]):=by
 obtain rfl:=ac.lenI;obtain rfl:=md.lenI;obtain rfl:=kp.lenI;refine fn1 Tryz.func81 Z Z Z ?_;have kc:=ac.max;have Pj:=md.max;have Pk:=kp.max;have Fl:=lG (b:=l) (o:=p2) b8;have xa:=bW 2 (u.length:Int) G;have Wf:=bW 2 ((bR l p2).length:Int) G;have Qm:(eG (bv (gQ u))).length=4:=rfl;refine wq<|wa (cB (sz:=4) Z Z) ?_;rintro _ _⟨aq,rfl,rfl⟩;refine wn Z<|wq<|wm Z<|wy (yF 2 2 bg sz3 Z)<|wy (yL 0 au Z Z Z)<|wa (aC bMj Z (Ct.fresh (λw hw=>aDr ((kp.c _) w hw) b8 ho G))) ?_;rintro _ _⟨_,rfl,en,es,rfl,rfl⟩;refine wm Z<|wX Z Z<|wX Z Z<|wg Z<|wn Z<|wq<|wm Z<|wy (aL af Z)<|wa (aC QA Z (Ct.fresh (λw hw=>gP G))) ?_;rintro _ _⟨_,rfl,gn,mj,rfl,rfl⟩;refine wm Z<|wa (aQ 0 Z af zb5 Z Z Z (md.c _)) ?_;rintro _ _⟨dv,br,rfl,rfl⟩;refine bC (v:=sl dv (((aW (u.length:Int)).length)+a.length) br) Z<|wn Z<|wq<|wm Z<|wm Z<|wy (aL af Z)<|wa (aC QA Z (Ct.fresh (λw hw=>gP G))) ?_;rintro _ _⟨_,rfl,fz,ci,rfl,rfl⟩;refine wa (aQ 1 Z af zb5 Z Z Z (rdr 0 Z)) ?_;rintro _ _⟨dy,ee,rfl,rfl⟩;refine bC (v:=sl dy ((((aW (u.length:Int)).length)+a.length)+((aW (((bR l p2).length:Nat):Int)).length)) ee) Z<|wm Z<|wa (aC bMh Z (Ct.quiet (λw hw=>aYr ((ac.c _) w hw) am))) ?_;rintro _ _⟨rfl,rfl⟩;refine wa (aC bMi Z (Ct.fresh (λw hw=>aLw ⟨by unfold bv;omega,by unfold bv;have:=(gQ u).isLt;omega⟩))) ?_;rintro _ _⟨_,rfl,fk,sp,rfl,rfl⟩;refine wa (aQ 2 Z af zb5 Z Z Z (rdr 0 Z)) ?_;rintro _ _⟨vx,gv,rfl,rfl⟩;refine bC (v:=sl vx (((((aW (u.length:Int)).length)+a.length)+((aW (((bR l p2).length:Nat):Int)).length))+4) gv) Z<|wn Z<|wq<|wm Z<|wm Z<|wa (aQ 2 Z af zb5 Z Z Z (rdr 3 Z)) ?_;rintro _ _⟨pf,ph,rfl,rfl⟩;refine bC (v:=sl pf ((((((aW (u.length:Int)).length)+a.length)+((aW (((bR l p2).length:Nat):Int)).length))+4)+((bR l p2).length)) ph) Z<|wn Z<|aT [2] 99 cC Z ?_;refine⟨_,Z,?_⟩;rw[show aW (u.length:Nat)++(a++(aW ((bR l p2).length:Nat)++(eG (bv (gQ u))++bR l p2)))=(aW (u.length:Nat)++a++aW ((bR l p2).length:Nat)++eG (bv (gQ u)))++bR l p2 by simp only[gq]];simp only[ah];exact⟨_,_,Z,Z⟩
theorem UX (ac:Rd w ap bl an 1 (ints .u8 u)) (am:aN u) (hN:u.length<=100000) (hp:(0<=so/\so<=2)/\(od=0\/od=1)/\(1<=sz/\sz<=16777216)):
  CF 46 #[.agg #[I 0,I so,I od,I sz],sl ap bl an] w (λv R'=> ∃A c,v=sl A (bZ 0 od u).length c/\R'=[(ru 5 A ((bZ 0 od u).length) c (bZ 0 od u))]):=by
 obtain rfl:=ac.lenI;refine fn1 Jq Z Z Z ?_;have kc:=ac.max;refine wq<|wa (cB (sz:=4) Z Z) ?_;rintro _ _⟨aq,rfl,rfl⟩;refine wn Z<|aD<|wq<|wy (yF 0 0 bg sz3 Z)<|wy (yL 0 au Z Z Z)<|aA<|aH<|wq<|wQ Z Z<|wn Z<|aP Z ?_;refine wq<|wQ Z Z<|wn Z<|aP Z<|aI<|wq<|wy (bM (vs:=[I 0,I so,I od,I sz]) (rdr 0 Z) bg Z eQ Z Z (ak Z) Z)<|wm Z<|wm Z<|wa (aC bCa Z (Ct.fresh (λw hw=>rY ((ac.c _) w hw) ((zR _) w hw) ((ac.c _) w hw) am am hp.2.1 ⟨hN,cC,hN⟩))) ?_;rintro _ _⟨_,rfl,en,es,rfl,rfl⟩;refine wn Z<|aT [0] 99 cC Z ?_;refine⟨_,Z,?_⟩
 have e:bZ 0 od u=aW (u.length:Nat)++([]++(aW ((bR u od).length:Nat)++(eG (bv (gQ u))++bR u od))):=by
  unfold bZ;rw[KT (t:=0) (u:=u) cC cC]
 rw[e];exact⟨_,_,Z,Z⟩
theorem UW (ac:Rd w ap bl an 1 (ints .u8 u)) (am:aN u) (hN:u.length<=100000) (hp:(0<=so/\so<=2)/\(od=0\/od=1)/\(1<=sz/\sz<=16777216)):
  CF 46 #[.agg #[I 1,I so,I od,I sz],sl ap bl an] w (λv R'=> ∃A c,v=sl A (bZ 1 od u).length c/\R'=[(ru 5 A ((bZ 1 od u).length) c (bZ 1 od u))]):=by
 obtain rfl:=ac.lenI;refine fn1 Jq Z Z Z ?_;have kc:=ac.max;refine wq<|wa (cB (sz:=4) Z Z) ?_;rintro _ _⟨aq,rfl,rfl⟩;refine wn Z<|aD<|wq<|wy (yF 0 0 bg sz3 Z)<|wy (yL 0 au Z Z Z)<|aA<|aH<|wq<|wR Z Z<|wn Z<|dS Z ?_;refine wq<|wm Z<|wa (aC bOd Z (Ct.fresh (λw hw=>aRe ((ac.c _) w hw) am hN))) ?_;rintro _ _⟨_,rfl,b1,en,es,rfl,dq,fg,rfl⟩;refine wm Z<|wX Z Z<|wX Z Z<|wg Z<|wn Z<|aD<|bF mixed<|wD 0 Z (bM (vs:=[I 1,I so,I od,I sz]) (rdr 1 Z) bg Z eQ Z Z (ak Z) Z)<|wD 1 Z (aJ Z)<|wD 2 Z (aJ Z)<|wD 4 Z (aJ Z)<|wC 3 Z (aC QA Z (Ct.fresh (λw hw=>gP (by have e1:=mR dq fg;have e2:=zO (s:=u) (k:=0) G;omega)))) ?_;rintro _ _⟨_,rfl,gn,mj,rfl,rfl⟩;refine⟨.inr hrZ,?_⟩;refine wC 5 Z (aC bCa Z (Ct.fresh (λw hw=>rY ((ac.c _) w hw) ((rdr 0 Z) w hw) ((rdr 1 Z) w hw) am (yJ am dq) hp.2.1 ⟨hN,by have e1:=mR dq fg;have e2:=zO (s:=u) (k:=0) G;have:=bW 2 (zat b1) G;omega,by rw[(CU dq fg).length_eq];exact hN⟩))) ?_;rintro _ _⟨_,rfl,dv,br,rfl,rfl⟩;refine⟨.inr hrZ,?_⟩;refine wD 6 Z (bB Z)<|wN<|aT [0] 99 cC Z ?_;refine⟨_,Z,?_⟩
 have e:bZ 1 od u=aW (u.length:Nat)++(aW (zat b1)++(aW ((bR (ofL u b1) od).length:Nat)++(eG (bv (gQ u))++bR (ofL u b1) od))):=by
  unfold bZ;rw[KU dq fg]
 rw[e];exact⟨_,_,Z,Z⟩
theorem UV (ac:Rd w ap bl an 1 (ints .u8 u)) (am:aN u) (hN:u.length<=100000) (hp:(0<=so/\so<=2)/\(od=0\/od=1)/\(1<=sz/\sz<=16777216)):
  CF 46 #[.agg #[I 2,I so,I od,I sz],sl ap bl an] w (λv R'=> ∃A c,v=sl A (bZ 2 od u).length c/\R'=[(ru 5 A ((bZ 2 od u).length) c (bZ 2 od u))]):=by
 obtain rfl:=ac.lenI;refine fn1 Jq Z Z Z ?_;have kc:=ac.max;refine wq<|wa (cB (sz:=4) Z Z) ?_;rintro _ _⟨aq,rfl,rfl⟩;refine wn Z<|aD<|wq<|wy (yF 0 0 bg sz3 Z)<|wy (yL 0 au Z Z Z)<|aA<|aH<|wq<|wQ Z Z<|wn Z<|aP Z ?_;refine wq<|wR Z Z<|wn Z<|dS Z<|aD<|bF mixed<|wD 0 Z (bM (vs:=[I 2,I so,I od,I sz]) (rdr 0 Z) bg Z eQ Z Z (ak Z) Z)<|wD 1 Z (aJ Z)<|wD 2 Z (aJ Z)<|wC 3 Z (aC bOc Z (Ct.fresh (λw hw=>aKt ((ac.c _) w hw) am hN))) ?_;rintro _ _⟨_,rfl,l2,en,es,rfl,pt,tj,rfl⟩;refine⟨.inr hrZ,?_⟩;refine wC 4 Z (aC bCa Z (Ct.fresh (λw hw=>rY ((ac.c _) w hw) ((zR _) w hw) ((rdr 0 Z) w hw) am (kW pt (by rw[nK];exact am)) hp.2.1 ⟨hN,cC,by rw[bq,EJ pt];exact hN⟩))) ?_;rintro _ _⟨_,rfl,gn,mj,rfl,rfl⟩;refine⟨.inr hrZ,?_⟩;refine wD 5 Z (bB Z)<|wN<|aT [0] 99 cC Z ?_;refine⟨_,Z,?_⟩
 have e:bZ 2 od u=aW (u.length:Nat)++([]++(aW ((bR (l2.map (lastB (bws u))) od).length:Nat)++(eG (bv (gQ u))++bR (l2.map (lastB (bws u))) od))):=by
  unfold bZ;rw[KV pt tj]
 rw[e];exact⟨_,_,Z,Z⟩
theorem aLo (ac:Rd w ap bl an 1 (ints .u8 u)) (am:aN u) (hN:u.length<=100000) (hp:(0<=so/\so<=2)/\(od=0\/od=1)/\(1<=sz/\sz<=16777216)) (hk:k=0\/k=1\/k=2):
  CF 46 #[.agg #[I k,I so,I od,I sz],sl ap bl an] w (λv R'=> ∃A c,v=sl A (bZ k od u).length c/\R'=[(ru 5 A ((bZ k od u).length) c (bZ k od u))]):=by
 rcases hk with rfl|rfl|rfl
 ·exact UX ac am hN hp
 ·exact UW ac am hN hp
 ·exact UV ac am hN hp
theorem aQq (hm:m=l.length) (h:0<=sz):l.take (min sz (m:Int)).toNat=l.take sz.toNat:=by
 subst hm;rcases bz sz l.length with h1|h1
 ·rw[Eu G]
 ·rw[Int.min_eq_right h1,bi G,bi G]
theorem aWt {kr:Nat} (hm:m=u.length-kr*sz.toNat) (h:0<=sz):(u.drop (kr*sz.toNat)).drop (min sz (m:Int)).toNat=u.drop ((kr+1)*sz.toNat):=by
 subst hm;have e:(kr+1)*sz.toNat=kr*sz.toNat+sz.toNat:=by rw[xz,Bi]
 rw[Fv,e];rcases bz sz (u.length-kr*sz.toNat:Nat) with h1|h1
 ·rw[Eu G]
 ·rw[Int.min_eq_right h1,qd G,qd G]
theorem aSe (ac:Rd w ap bl an 1 (ints .u8 u)) (am:aN u) (hS:u.length<=400) (hp:(0<=so/\so<=2)/\(od=0\/od=1)/\(1<=sz/\sz<=16777216)) (hk:k=0\/k=1\/k=2):
  CF 17 #[.agg #[sl ap u.length an,sl Aq 0 cq], .agg #[I k,I so,I od,I sz]] w (λv R'=> ∃A c,v= .tuple #[sl A (tZ k so od sz u).length c,I 0]/\R'=[(ru 5 A ((tZ k so od sz u).length) c (tZ k so od sz u))]):=by
 obtain rfl:=ac.lenI;refine fn2 Jo Z Z Z ?_;have kc:=ac.max;have hN:u.length<=100000:=G
 have Zs:=bW 4 sz G;have Zr:=bW 2 (u.length:Int) G;refine wq<|wa (cB (sz:=2) Z Z) ?_;rintro _ _⟨aq,rfl,rfl⟩;refine wa (cB (sz:=4) Z Z) ?_;rintro _ _⟨cy,rfl,rfl⟩;refine wg Z<|wn Z<|wq<|wy (bM (vs:=[sl ap u.length an,sl Aq 0 cq]) (rdr 1 Z) dm Z pJ Z Z (ak Z) Z)<|wy (bM (vs:=[I k,I so,I od,I sz]) (rdr 0 Z) bg Z eQ Z Z (ak Z) Z)<|wa (aC bHg Z (Ct.quiet (λw hw=>aRx ((ac.c _) w hw) hp hk G))) ?_;rintro _ _⟨rfl,rfl⟩;refine wn Z<|aD<|wq<|wm Z<|wy (Yl.f (jP Z Z) cC)<|aA<|aP Z<|aI<|wq<|wa (bH .u8 [87,72,82,76,1] af zs5 Z Z Z) ?_;rintro _ _⟨fd,rfl,rfl⟩;refine wa (WV 0 Z Z af bn Z Z) ?_;rintro _ _⟨rfl,rfl⟩;refine wy (yF 0 0 bg sz3 Z)<|wy (yL 1 au Z Z Z)<|wy (dU au bn Z)<|wy (yF 1 1 bg sz3 Z)<|wy (yL 1 au Z Z Z)<|wy (dU au bn Z)<|wy (yF 2 2 bg sz3 Z)<|wy (yL 1 au Z Z Z)<|wy (dU au bn Z)<|wa (bH .u8 [k%256,so%256,od%256] af zs5 Z Z Z) ?_;rintro _ _⟨io,rfl,rfl⟩;refine wa (sK af zb5 Z (rdr 1 Z) Z (rdr 0 Z) (by first|decide|(dsimp only;decide)) (by first|decide|(dsimp only;decide)) (by first|decide|(dsimp only;decide)) (by first|decide|(dsimp only;decide)) (by first|decide|(dsimp only;decide)) Z) ?_;rintro _ _⟨ir,ef,rfl,rfl⟩;refine bC (v:=sl (GG ir) 8 ef) Z<|wn Z<|wq<|wm Z<|wy (yF 3 3 bg sz3 Z)<|wy (yL 3 au Z Z Z)<|wa (aC QA Z (Ct.fresh (λw hw=>gP G))) ?_;rintro _ _⟨_,rfl,dv,br,rfl,rfl⟩;refine wa (aQ 1 Z af zb5 Z Z Z (rdr 0 Z) (by dsimp only;omega)) ?_;rintro _ _⟨na,db,rfl,rfl⟩;refine bC (v:=sl na (8+((aW sz).length)) db) Z<|wn Z<|aD<|bF mixed<|wD 0 Z (yF 0 0 dm dH Z)<|wD 1 Z (yL 5 af Z Z Z)<|wD 2 Z (aL af Z)<|wD 3 Z (yF 1 1 dm jC Z)<|wD 4 Z (yL 5 ay Z Z Z)<|wC 5 Z (aC aOe Z (Ct.quiet (λw hw=>IC))) ?_;rintro _ _⟨rfl,rfl⟩;refine⟨.inr hiZ,?_⟩;refine wD 6 Z (aL af Z)<|wD 7 Z (Yl.is (cK Z Z) (bu (Value.int .i64) (yj _)))<|wD 8 Z (bB Z)<|wN<|aD<|wq<|wy (yF 1 1 dm jC Z)<|wy (yL 5 ay Z Z Z)<|wy (aL ay Z)<|wy (Yl.f (dA Z Z) cC)<|aA<|aP Z<|aI<|aD ?_;refine wq<|wy (yF 0 0 dm dH Z)<|wy (yL 5 af Z Z Z)<|wn Z<|aH ?_;refine uL (λ(kr:Nat) (A0:AF) (n0:Nat) (c0:Nat) (A1:AF) (n1:Nat) (c1:Nat) (acc:AH)=>[(3,PG cy),(7,sl A1 n1 c1),(8,I (u.length:Int)),(9,sl A0 n0 c0)]) (λkr A0 n0 c0 A1 n1 c1 acc=>[(ru 5 dv ((aW sz).length) br (aW sz)),(ru 5 A1 n1 c1 acc),(ru 5 (GG io) 3 3 ([k%256,so%256,od%256])),⟨5,1,(GG fd),5,5,ints .u8 ([87,72,82,76,1]),true⟩,(rc 27 4 cy [I k,I so,I od,I sz]),(rc 25 2 aq [sl ap u.length an,sl Aq 0 cq])]) (λkr A0 n0 c0 A1 n1 c1 acc=>(kr<=chN u.length sz.toNat)/\(Rd w A0 n0 c0 1 (ints .u8 (u.drop (kr*sz.toNat))))/\(n1=acc.length)/\(acc=(([87,72,82,76,1]++[k%256,so%256,od%256])++aW sz)++lI k od sz.toNat u kr)) (λkr A0 n0 c0 A1 n1 c1 acc=>n0) ?_ ?_
 ·exact⟨0,ap,u.length,an,na,8+((aW sz).length),db,(([87,72,82,76,1])++([k%256,so%256,od%256]))++(aW sz),⟨(qg _),(by rw[Bq,Fx];exact ac),(by rw[ah];rfl),(by rw[vG,jh])⟩,KP⟩
 intro kr A0 n0 c0 A1 n1 c1 acc ⟨Lc,gr,cm,bc⟩;have Le:=gr.lenI;rw[az] at Le;have Px:kr<=400:=by have e2:chN u.length sz.toNat<=u.length:=aGi G;omega
 have qt:=bu List.length bc;rw[ah,ah,ah] at qt;have zr:=mQ (t:=k) (o:=od) (n:=sz.toNat) am hN kr;have Vr:(2*u.length+22)*kr<=822*400:=Bh G Px;have Cd:=AJ (t:=k) (o:=od) (b:=(u.drop (kr*sz.toNat)).take (min sz (n0:Int)).toNat) ((am.drop _).take _) (by rw[ax,az];omega);have Yf:((u.drop (kr*sz.toNat)).take (min sz (n0:Int)).toNat).length<=u.length:=by rw[ax,az];omega
 have h8:([87,72,82,76,1]:AH).length=5:=rfl;have h9:([k%256,so%256,od%256]:AH).length=3:=rfl;refine aD<|wq<|wm Z<|wy (aL af Z)<|wy (dA Z Z)<|aA<|bA Z (λba=> ?_) (λba=> ?_)
 ·have Lb:kr+1<=chN u.length sz.toNat:=(GU G).2 G;refine aI<|aH<|wq<|wy (yF 3 3 bg sz3 Z)<|wy (yL 4 au Z Z Z)<|wm Z<|wy (aL af Z)<|wy (sW Z Z)<|wn Z<|aD<|bF mixed<|wD 0 Z (aJ Z)<|wD 1 Z (bM (vs:=[I k,I so,I od,I sz]) (rdr 4 Z) bg Z eQ Z Z (ak Z) Z) ?_;refine wD 2 Z (aJ Z)<|wD 3 Z (aJ Z)<|wD 4 Z (dV af sz5 Z Z (gr.c _))<|wC 5 Z (aC bOq Z (Ct.fresh (λw hw=>aLo (u:=((u.drop (kr*sz.toNat))).take (min sz (n0:Int)).toNat) ((RdC.toI (h:=(min sz (n0:Int)).toNat) (gr.c _) G) w hw) ((am.drop _).take _) G hp hk))) ?_;rintro _ _⟨_,rfl,dy,ee,rfl,rfl⟩;refine⟨.inr hrZ,?_⟩;refine wC 6 Z (aQ 2 Z af zb5 Z Z Z (rdr 0 Z)) ?_;rintro _ _⟨fk,sp,rfl,rfl⟩;refine⟨.inl cA,?_⟩;refine fO (v:=sl fk (n1+((bZ k od (((u.drop (kr*sz.toNat))).take (min sz (n0:Int)).toNat)).length)) sp) Z<|wD 7 Z (bB Z)<|wN<|aK<|wm Z<|wm Z<|wy (dF af sz5 Z Z)<|wn Z ?_
  exact⟨(kr+1),jH A0 (min sz (n0:Int)).toNat c0 1,n0-(min sz (n0:Int)).toNat,c0-(min sz (n0:Int)).toNat,fk,n1+((bZ k od (((u.drop (kr*sz.toNat))).take (min sz (n0:Int)).toNat)).length),sp,acc++(bZ k od (((u.drop (kr*sz.toNat))).take (min sz (n0:Int)).toNat)),⟨(Lb),(by
    have h:=gr.fromI (l:=(min sz (n0:Int)).toNat) G;rw[aWt Le G] at h
    exact h),(by rw[ah,cm]),(by rw[vH,<-gq,<-bc,aQq (by rw[az];exact Le) G])⟩,G,SA,λ_ h=>h.sel [1,2,3,4,5,6] cC Z⟩
 ·refine aR<|wq<|wm Z<|wa (bH .u8 [0] af zs5 Z Z Z) ?_;rintro _ _⟨wj,rfl,rfl⟩;refine wa (aQ 2 Z af zb5 Z Z Z (rdr 0 Z)) ?_;rintro _ _⟨li,lj,rfl,rfl⟩;refine bC (v:=sl li (n1+1) lj) Z<|wm Z<|wa (aC QA Z (Ct.fresh (λw hw=>gP G))) ?_;rintro _ _⟨_,rfl,gs,gw,rfl,rfl⟩;refine wa (aQ 3 Z af zb5 Z Z Z (rdr 0 Z)) ?_;rintro _ _⟨wb,wi,rfl,rfl⟩;refine bC (v:=sl wb ((n1+1)+((aW (u.length:Int)).length)) wi) Z<|wg Z<|wn Z<|aT [3] 99 cC Z ?_;refine⟨_,_,Z,Z,?_⟩;have vt:n0=0:=G
  have Vw: ¬kr<chN u.length sz.toNat:=λh=>by have:=(GU G).1 h;omega
  obtain rfl:kr=chN u.length sz.toNat:=G
  have e:acc++[0]++aW (u.length:Int)=tZ k so od sz u:=by
   rw[bc,ky (a:=k) G G,ky (a:=so) G G,ky (a:=od) G G];unfold tZ;rw[show aW 0=[0] from rfl];simp[chN,chK]
  have e2:(n1+1)+(aW (u.length:Int)).length=(tZ k so od sz u).length:=by rw[<-e,ah,ah,cm];rfl
  rw[e,e2];exact⟨_,_,Z,Z⟩
theorem drop_flat {ws:AD} {k M:Nat} (h:ws.flatten.length<=M):(ws.drop k).flatten.length<=M:=by
 have:ws.flatten=(ws.take k).flatten++(ws.drop k).flatten:=by rw[<-lq,gy]
 rw[this,ah] at h;omega
variable {ws:AD}
theorem aFv {i:Int} (h0:0<=i) (h1:i<ws.length):(eO (ws.take i.toNat)\/((rdl ws i).length:Int)=0)↔eO (ws.take (i+1).toNat):=by
 rw[gT h0 h1];constructor
 ·rintro (⟨w,hw,e⟩|h)
  ·exact⟨w,dz.2 (.inl hw),e⟩
  ·exact⟨_,dz.2 (.inr (ic.2 rfl)),G⟩
 ·rintro ⟨w,hw,e⟩;rcases dz.1 hw with hw|hw
  ·exact .inl ⟨w,hw,e⟩
  ·obtain rfl:=ic.1 hw;exact .inr G
theorem aKs {w:World} {ar:AF} {bo aw:Nat} {al:AG} {ws:AD} (ao:Rd w ar bo aw 1 al) (bh:SlW .u8 w al ws) (hN:(∀w∈ws,w.length<=8000)/\ws.length<=100000):
  CF 80 #[sl ar bo aw] w (λv R'=> ∃(A A2:AF) (c c2:Nat) (L TS:AH) (e:Int),v= .tuple #[sl A L.length c,sl A2 TS.length c2,I e]/\ExtR ws L TS e/\R'=[(ru 5 A L.length c L),(ri 3 A2 TS.length c2 TS)]):=by
 obtain rfl:bo=ws.length:=by have:=ao.len;have:=bh.1;omega
 refine fn3 Tryz.func80 Z Z Z ?_;have kh:=ao.max;refine wq<|bT (R1:=((ru 5 none 0 0 ([]))::[])) (Sub.refl _) (λ_ h=>h.nil 5 1)<|wg Z<|bT (R1:=((ri 3 none 0 0 ([]))::(ru 5 none 0 0 ([]))::[])) (Sub.refl _) (λ_ h=>h.nil 3 1)<|wg Z<|wn Z<|wq<|wg Z<|wn Z<|aD<|aD ?_;refine aK<|wn Z<|aH ?_;refine dI (λ(i:Int) (z:Int)=>[(0,sl ar ws.length aw),(5,I z),(6, .bool (decide (eO (ws.take i.toNat)))),(7,I i)]) (λi z=>((ri 3 none 0 0 ([]))::(ru 5 none 0 0 ([]))::[])) (λi z=>(0<=i)/\(i<=ws.length)/\(z=((ws.take i.toNat).flatten.length:Int))/\(0<=z/\z<=i*8000)) (λi z=>(ws.length-i).toNat) ?_ ?_
 ·exact⟨0,0,⟨G,G,(Z),G⟩,KP⟩
 intro i z ⟨bb,gd,hz,s7⟩;have b5:0<=i->i<ws.length->(rdl ws i).length<=8000:=λh h'=>hN.1 _ (jD h h');refine aD<|wq<|wm Z<|wm Z<|wy (aL ay Z)<|wL Z Z<|aA<|bA Z (λba=> ?_) (λba=> ?_)
 ·have Pi:=b5 bb G;refine aI<|aD<|aH<|wq<|wm Z<|wm Z<|wm Z<|wy (aF ay dH Z Z (ao.c _)) ?_;refine bh.elim (i:=i) G G (λcg ce py ub xt tk=> ?_);refine wy (lC af Z Z Z (ao.c _) py)<|wy (aL af Z)<|wA Z Z<|wn Z<|aK<|wm Z<|wm Z<|bV 7 [(0,sl ar ws.length aw),(5,I (z+(((rdl ws i).length:Nat):Int))),(7,I i),(31, .bool (decide ((eO (ws.take i.toNat))\/((((rdl ws i).length:Nat):Int)=0))))] ((ri 3 none 0 0 ([]))::(ru 5 none 0 0 ([]))::[]) ?_ ?_
  ·refine bN 24 Z (λcj=> ?_) (λcj=> ?_)
   ·refine aM Z Z Z Z<|aM Z Z Z Z<|aM Z Z Z Z<|aM Z Z Z Z<|aM Z Z Z Z<|aM Z Z Z Z<|wy (aS Z Z)<|aA ?_;exact KP
   ·refine aB Z Z<|wm Z<|aB Z Z<|wm Z<|aB Z Z<|wy (aF ay dH Z Z (ao.c _))<|aB Z Z ?_;refine bh.elim (i:=i) G G (λgn mj Hv f9 Md My=> ?_);refine wy (lC af Z Z Z (ao.c _) Hv)<|aB Z Z<|wy (aL af Z)<|aB Z Z<|wy (fD Z Z)<|wy (aO Z Z)<|aA ?_;exact KP
  refine wy (Yl.is (bB Z) (show Value.bool (decide (eO (ws.take i.toNat)\/((rdl ws i).length:Int)=0))=Value.bool (decide (eO (ws.take (i+1).toNat))) from bu Value.bool (sj.2 (aFv bb G))))<|aA<|aK<|wm Z<|wA Z Z<|wn Z ?_;exact⟨i+1,z+(((rdl ws i).length:Nat):Int),⟨G,G,(by rw[fC bb G,ah,hz];omega),G⟩,G,KP⟩
 ·obtain rfl:i=ws.length:=G
  rw[cz,ow] at hz;have k8:ws.take (ws.length:Int).toNat=ws:=by rw[cz,ow]
  refine aR<|aD<|wq<|wm Z<|wy (aL ay Z)<|wy (dA Z Z)<|wm Z<|bV 3 [(0,sl ar ws.length aw),(6, .bool (decide (eO (ws.take (ws.length:Int).toNat)))),(38, .bool (decide ((1000<(ws.length:Int))\/(100000<z))))] ((ri 3 none 0 0 ([]))::(ru 5 none 0 0 ([]))::[]) ?_ ?_
  ·refine bN 35 Z (λfh=> ?_) (λfh=> ?_)
   ·refine aM Z Z Z Z<|aM Z Z Z Z<|wy (aS Z Z)<|aA ?_;exact KP
   ·refine aB Z Z<|wm Z<|aB Z Z<|wy (dA Z Z)<|wy (aO Z Z)<|aA ?_;exact KP
  refine aA<|bA Z (λjj=> ?_) (λjj=> ?_)
  ·refine wq<|wg Z<|wg Z<|wn Z<|bU (R1:=[(ru 5 none 0 0 ([])),(ri 3 none 0 0 ([]))]) (λ_ h=>(h.selR (F:=[_,_]) (F':=[_,_]) [1,0] cC Z).left (X:=[_,_])) ?_;refine⟨_,_,_,Z,Z,Z,?_⟩;exact⟨_,_,_,_,[],[],2,Z, .inl ⟨Z,G,rfl,rfl⟩,rfl⟩
  ·refine aI<|aD<|wq<|wm Z<|aA<|bA Z (λkb=> ?_) (λkb=> ?_)
   ·refine wq<|wg Z<|wg Z<|wn Z<|bU (R1:=[(ru 5 none 0 0 ([])),(ri 3 none 0 0 ([]))]) (λ_ h=>(h.selR (F:=[_,_]) (F':=[_,_]) [1,0] cC Z).left (X:=[_,_])) ?_;refine⟨_,_,_,Z,Z,Z,?_⟩;exact⟨_,_,_,_,[],[],1,Z, .inr (.inl ⟨G,rfl,by rw[k8] at kb;exact kb,rfl,rfl⟩),rfl⟩
   ·refine aI<|wq<|wm Z<|wa (aC bMk Z (Ct.fresh (λw hw=>aLs ((ao.c _) w hw) (bh.c hw) hN))) ?_;rintro _ _⟨_,rfl,fz,ci,fa,fc,m7,Rg,rfl,Pa,rfl⟩;have Qg:=Pa.1;refine bT (R1:=(⟨22,1,fz,m7.length,ci,m7,false⟩::(ri 3 fa (((fI ws).map Prod.snd).length) fc ((fI ws).map Prod.snd))::(ri 3 none 0 0 ([]))::(ru 5 none 0 0 ([]))::Rg)) (Sub.refl _) (λ_ h=>Hp.toTail0 (X:=[_,_]) (Y:=[_,_]) h)<|wm Z<|wX Z Z<|wX Z Z<|wg Z<|wn Z<|wq<|wm Z<|wa (aC bEt Z (Ct.fresh (λw hw=>SH ((ao.c _) w hw) (bh.c hw) ⟨G,G⟩))) ?_;rintro _ _⟨_,rfl,l2,li,lj,rfl,pt,tj,rfl⟩;refine wm Z<|wg Z<|wg Z<|wn Z<|bU (R1:=[(ru 5 li l2.length lj (l2.map (lastB ws))),(ri 3 fa (((fI ws).map Prod.snd).length) fc ((fI ws).map Prod.snd))]) (λ_ h=>(h.selR (F:=[_,_,_,_,_]) (F':=[_,_]) [0,2] cC Z).left (X:=[_,_])) ?_;refine⟨_,_,_,Z,Z,Z,?_⟩;rw[show l2.length=(l2.map (lastB ws)).length from(bq _).symm];exact⟨_,_,_,_,l2.map (lastB ws),_,0,Z, .inr (.inr ⟨G,rfl,λw hw=>Cr λe=>kb (by rw[k8];exact⟨w,hw,e⟩),⟨l2,pt,tj,rfl⟩,rfl⟩),rfl⟩
theorem _root_.Go.Pure.ExtR.len {L TS:AH} {e:Int} (h:ExtR ws L TS e):L.length<=ws.flatten.length:=by
 rcases h with⟨_,_,rfl,_⟩|⟨_,_,_,rfl,_⟩|⟨_,_,_,⟨T,hp,_,rfl⟩,_⟩
 ·exact qg _
 ·exact qg _
 ·rw[bq,EM hp];exact dx _
variable {w:World} {ar Au:AF} {bo aw cu:Nat} {al:AG} {ws:AD} {so od sz:Int}
theorem BZ {rp:AF} {vu rr:Nat} {If:AG} {a:AD} (md:Rd w rp vu rr 1 If) (s_a:SlW .u8 w If a) (hN:a.flatten.length<=100000):
  CF 44 #[sl rp vu rr] w (λv R'=> ∃A c,v=sl A (a.flatten.length) c/\R'=[(ru 5 A a.flatten.length c (a.flatten))]):=by
 obtain rfl:vu=a.length:=by have:=md.len;have:=s_a.1;omega
 refine fn1 Tryz.func44 Z Z Z ?_;have Pj:=md.max;refine wq<|wn Z<|wq<|bT (R1:=[(ru 5 none 0 0 ([]))]) (Sub.refl _) (λ_ h=>h.nil 5 1)<|wn Z<|aD<|wq<|wn Z<|aH ?_;refine eH (λ(i:Int) (A1:AF) (n1:Nat) (c1:Nat) (acc:AH)=>[(0,sl rp a.length rr),(3,sl A1 n1 c1),(4,I i)]) (λi A1 n1 c1 acc=>[(ru 5 A1 n1 c1 acc)]) (λi A1 n1 c1 acc=>(0<=i)/\(i<=a.length)/\(n1=acc.length)/\(acc=(a.take i.toNat).flatten)) (λi A1 n1 c1 acc=>(a.length-i).toNat) ?_ ?_
 ·exact⟨0,none,0,0,[],⟨G,G,(Z),(Z)⟩,KP⟩
 intro i A1 n1 c1 acc ⟨bb,gd,cm,bc⟩;have qt:acc.length<=a.flatten.length:=by rw[bc];have h:=bu (λl=>l.flatten.length) (gy i.toNat a);simp only[lq,ah] at h;omega
 refine aD<|wq<|wm Z<|wm Z<|wy (aL ay Z)<|wL Z Z<|aA<|bA Z (λba=> ?_) (λba=> ?_)
 ·have b5:=ve (rz (jD (ws:=a) bb G));refine aI<|aD<|aH<|aK<|wm Z<|wm Z<|wm Z<|wy (aF ay dH Z Z (md.c _)) ?_;refine s_a.elim (i:=i) G G (λcg ce py ub xt tk=> ?_);refine wy (lC af Z Z Z (md.c _) py)<|wa (aQ 0 Z af zb5 Z Z Z (ub.c _)) ?_;rintro _ _⟨gn,mj,rfl,rfl⟩;refine bC (v:=sl gn (n1+((rdl a i).length)) mj) Z<|wn Z<|aK<|wm Z<|wA Z Z<|wn Z ?_;exact⟨i+1,gn,n1+((rdl a i).length),mj,acc++(rdl a i),⟨G,G,(by rw[ah,cm]),(by rw[fC bb G,bc])⟩,G,KP⟩
 ·refine aR<|wq<|wm Z<|wn Z<|aT [0] 99 cC Z ?_;refine⟨_,Z,?_⟩;rw[bi G] at bc;subst bc;subst cm;exact⟨_,_,Z,Z⟩
theorem aRy (ao:Rd w ar bo aw 1 al) (bh:SlW .u8 w al ws) (hp:(0<=so/\so<=2)/\(od=0\/od=1)/\(1<=sz/\sz<=16777216)) (cv: ¬eO ws) (hN:ws.flatten.length<=400/\ws.length<=400):
  CF 42 #[.agg #[sl Au 0 cu,sl ar ws.length aw], .agg #[I 3,I so,I od,I sz]] w (λv R'=>v=I 0):=by
 obtain rfl:bo=ws.length:=by have:=ao.len;have:=bh.1;omega
 refine fn1 Jp Z Z Z ?_;have kh:=ao.max;refine wq<|wa (cB (sz:=2) Z Z) ?_;rintro _ _⟨aq,rfl,rfl⟩;refine wa (cB (sz:=4) Z Z) ?_;rintro _ _⟨fi,rfl,rfl⟩;refine wn Z<|aD<|wq<|wy (bM (vs:=[I 3,I so,I od,I sz]) (rdr 0 Z) bg Z eQ Z Z (ak Z) Z)<|wa (aC aOf Z (Ct.quiet (λw hw=>tJ))) ?_;rintro _ _⟨rfl,rfl⟩;refine mW 7 Z (⟨G,hp⟩)<|wy (dW rfl)<|wm rfl<|aB rfl rfl<|wy (yF 0 0 bg sz3 rfl)<|aB rfl rfl<|wy (yL 0 au rfl rfl rfl)<|aB rfl rfl<|wR rfl rfl<|aB rfl rfl<|wm rfl<|aB rfl rfl<|wy (yF 0 0 dm dH rfl)<|aB rfl rfl<|wy (yL 1 af rfl rfl rfl) ?_;refine aB Z Z<|wy (aL af Z)<|aB Z Z<|wy (Yl.f (dA Z Z) cC)<|aB Z Z<|wy (aS Z Z)<|wy (aO Z Z)<|wm Z<|aB Z Z<|wy (yF 0 0 bg sz3 Z)<|aB Z Z<|wy (yL 0 au Z Z Z)<|aB Z Z<|wy (Yl.f (jP Z Z) cC)<|aB Z Z ?_;refine wm Z<|aM Z Z Z Z<|aM Z Z Z Z<|aM Z Z Z Z<|aM Z Z Z Z<|aB Z Z<|wy (aO Z Z)<|wy (aO Z Z)<|aA<|aP Z<|aI<|aD<|wq<|wg Z ?_;refine aA<|aH ?_;refine gZ (λ(i:Int)=>[(2,PG aq),(5,I i)]) (λi=>[(rc 27 4 fi [I 3,I so,I od,I sz]),(rc 25 2 aq [sl Au 0 cu,sl ar ws.length aw])]) (λi=>(0<=i)/\(i<=ws.length)) (λi=>(ws.length-i).toNat) ?_ ?_
 ·exact⟨0,⟨G,G⟩,KP⟩
 intro i ⟨bb,gd⟩;refine aD<|wq<|wm Z<|wy (yF 1 1 dm jC Z)<|wy (yL 1 ay Z Z Z)<|wy (aL ay Z)<|wL Z Z<|aA<|bA Z (λba=> ?_) (λba=> ?_)
 ·refine aI<|aD<|aH<|wq<|wy (yF 1 1 dm jC Z)<|wy (yL 1 ay Z Z Z)<|wm Z<|wy (aF ay dH Z Z (ao.c _)) ?_;refine bh.elim (i:=i) G G (λfm kx Ph Ln Ye Uu=> ?_);refine wy (lC af Z Z Z (ao.c _) Ph)<|wy (aL af Z)<|wy (Yl.f (fD Z Z) (λh=>cv (GM bb G h)))<|aA<|aP Z<|aI<|aK<|wm Z<|wA Z Z<|wn Z ?_;exact⟨i+1,⟨G,G⟩,G,KP⟩
 ·refine aR<|aD<|aD<|bF mixed<|wD 0 Z (yF 0 0 dm dH Z)<|wD 1 Z (yL 1 af Z Z Z)<|wD 2 Z (aL af Z)<|wD 3 Z (yF 1 1 dm jC Z)<|wD 4 Z (yL 1 ay Z Z Z)<|wC 5 Z (aC aOe Z (Ct.fresh (λw hw=>BZ ((ao.c _) w hw) (bh.c hw) G))) ?_;rintro _ _⟨_,rfl,bw,bx,rfl,rfl⟩;refine⟨.inr hrZ,?_⟩;refine wD 6 Z (aL af Z)<|wD 7 Z (cK Z Z)<|wD 8 Z (Yl.f (dA Z Z))<|wD 9 Z (aJ Z)<|wG 10 Z Z Z (yF 1 1 dm jC Z)<|wG 11 Z Z Z (yL 2 ay Z Z Z)<|wG 12 Z Z Z (aL ay Z)<|wG 13 Z Z Z (Yl.f (dA Z Z))<|wD 14 Z (aO Z Z)<|wN<|aP Z<|aI<|wq<|wg Z ?_;refine aA<|aT [] 99 cC Z ?_;refine⟨_,Z,?_⟩;rfl
theorem YJ (ao:Rd w ar bo aw 1 al) (bh:SlW .u8 w al ws) (hp:(0<=so/\so<=2)/\(od=0\/od=1)/\(1<=sz/\sz<=16777216)) (cv: ¬eO ws) (hN:ws.flatten.length<=400/\ws.length<=400):
  CF 45 #[.agg #[I 3,I so,I od,I sz],sl ar bo aw] w (λv R'=> ∃A c,v=sl A (dZ od ws).length c/\R'=[(ru 5 A ((dZ od ws).length) c (dZ od ws))]):=by
 obtain rfl:bo=ws.length:=by have:=ao.len;have:=bh.1;omega
 refine fn1 Tryz.func45 Z Z Z ?_;have kh:=ao.max;have zv: ∀w∈ws,aN w:=λw hw=>((bh.okB) w hw).1;have kt:=fT ws;have Ki:aN (canon ws).flatten:=λx hx=>by obtain⟨l,hl,hx⟩:=ug.1 hx;exact(xO (bh.okB) l hl).1 x hx
 refine wq<|wa (cB (sz:=4) Z Z) ?_;rintro _ _⟨aq,rfl,rfl⟩;refine wn Z<|wq<|wm Z<|wa (aC bOe Z (Ct.fresh (λw hw=>aKs ((ao.c _) w hw) (bh.c hw) ⟨λw hw=>by have:=ve (rz hw);omega,G⟩))) ?_;rintro _ _⟨_,rfl,en,fm,es,kx,L1,oa,e1,rfl,xp,rfl⟩;obtain rfl:=aAp xp cv G G;have Hj:=xp.tlen;have yv:=tY xp;have ur:=DY xp;have a7:=bW 2 (oa.length:Int) G;refine wm Z<|wX Z Z<|wX Z Z<|wX Z Z<|wg Z<|wg Z<|wn Z<|wq<|wm Z<|wy (aL aa Z)<|wa (aC QA Z (Ct.fresh (λw hw=>gP G))) ?_;rintro _ _⟨_,rfl,dv,br,rfl,rfl⟩;refine wn Z<|aD<|wq<|wn Z<|aH ?_;refine eH (λ(i:Int) (A1:AF) (n1:Nat) (c1:Nat) (acc:AH)=>[(1,sl ar ws.length aw),(2,PG aq),(5,sl en L1.length es),(6,sl fm oa.length kx),(8,sl A1 n1 c1),(9,I i)]) (λi A1 n1 c1 acc=>((ru 5 A1 n1 c1 acc)::(ru 5 en L1.length es L1)::(ri 3 fm oa.length kx oa)::(rc 27 4 aq [I 3,I so,I od,I sz])::[])) (λi A1 n1 c1 acc=>(0<=i)/\(i<=oa.length)/\(n1=acc.length)/\(acc=aW (oa.length:Int)++((oa.take i.toNat).map aW).flatten)/\((acc.length:Int)<=3+i*3)) (λi A1 n1 c1 acc=>(oa.length-i).toNat) ?_ ?_
 ·exact⟨0,dv,(aW (oa.length:Int)).length,br,aW (oa.length:Int),⟨G,G,(Z),cD,G⟩,KP⟩
 intro i A1 n1 c1 acc ⟨bb,gd,cm,bc,qt⟩;refine aD<|wq<|wm Z<|wm Z<|wy (aL aa Z)<|wL Z Z<|aA<|bA Z (λba=> ?_) (λba=> ?_)
 ·have ht0:=yv _ (bI (L:=oa) (k:=i) bb G);have sk:=bW 2 (rd oa i) G;refine aI<|aD<|aH<|aK<|wm Z<|wm Z<|wm Z<|wy (aF aa sz3 Z Z (rdr 2 Z))<|wy (aU au Z Z (rdr 2 Z))<|wa (aC QA Z (Ct.fresh (λw hw=>gP G))) ?_;rintro _ _⟨_,rfl,fz,ci,rfl,rfl⟩;refine wa (aQ 1 Z af zb5 Z Z Z (rdr 0 Z)) ?_;rintro _ _⟨dy,ee,rfl,rfl⟩;refine bC (v:=sl dy (n1+((aW (rd oa i)).length)) ee) Z<|wn Z<|aK<|wm Z<|wA Z Z<|wn Z ?_;exact⟨i+1,dy,n1+((aW (rd oa i)).length),ee,acc++(aW (rd oa i)),⟨G,G,(by rw[ah,cm]),(by rw[KZ bb G,<-gq,<-bc]),(by rw[ah];omega)⟩,G,SA,λ_ h=>h.selR (F:=[_,_,_,_,_]) (F':=[_,_,_,_]) [1,2,3,4] cC Z⟩
 ·rw [bi G] at bc;refine aR<|aD<|bF mixed<|wD 0 Z (bM (vs:=[I 3,I so,I od,I sz]) (rdr 3 Z) bg Z eQ Z Z (ak Z) Z)<|wD 1 Z (aJ Z)<|wD 4 Z (aJ Z)<|wD 5 Z (aJ Z)<|wC 2 Z (aC bLj Z (Ct.fresh (λw hw=>TQ ((ao.c _) w hw) (bh.c hw) ⟨λw hw=>by have:=ve (rz hw);omega,G⟩))) ?_;rintro _ _⟨_,rfl,fk,sp,m8,Rh,rfl,Gk,rfl⟩;refine⟨.inr λ_ h=>h.right,?_⟩;have Qi:=Gk.1;refine aPz (R1:=(⟨22,1,fk,m8.length,sp,m8,false⟩::(ru 5 A1 n1 c1 acc)::(ru 5 en L1.length es L1)::(ri 3 fm oa.length kx oa)::(rc 27 4 aq [I 3,I so,I od,I sz])::Rh)) (λ_=>Hp.toTailI0 (X:=[_]) (Y:=[_,_,_,_]))<|wC 3 Z (aC aOe Z (Ct.fresh (λw hw=>BZ ((rdr 0 Z) w hw) (Gk.slw (xO bh.okB) (Hp.right (R':=[_,_,_,_,_]) hw)) G))) ?_;rintro _ _⟨_,rfl,pf,ph,rfl,rfl⟩;refine⟨.inr hrZ,?_⟩;refine wC 6 Z (aC bCa Z (Ct.fresh (λw hw=>rY ((rdr 0 Z) w hw) ((rdr 2 Z) w hw) ((rdr 3 Z) w hw) Ki (xp.bytes zv) hp.2.1 ⟨G,G,G⟩))) ?_;rintro _ _⟨_,rfl,re,rh,rfl,rfl⟩;refine⟨.inr hrZ,?_⟩;refine wD 7 Z (bB Z)<|wN<|bU (R1:=[(ru 5 re ((aW ((((canon ws)).flatten).length:Nat)++(acc++(aW ((bR L1 od).length:Nat)++(eG (bv (gQ (((canon ws)).flatten)))++bR L1 od)))).length) rh (aW ((((canon ws)).flatten).length:Nat)++(acc++(aW ((bR L1 od).length:Nat)++(eG (bv (gQ (((canon ws)).flatten)))++bR L1 od)))))]) (λ_ h=>(h.selR (F:=[_,_,_,_,_,_,_]) (F':=[_]) [0] cC Z).left (X:=[_])) ?_;refine⟨_,Z,?_⟩
  have e:dZ od ws=aW ((canon ws).flatten.length:Nat)++(acc++(aW ((bR L1 od).length:Nat)++(eG (bv (gQ (canon ws).flatten))++bR L1 od))):=by
   unfold dZ vX;rw[WB xp zv,bc]
  rw[e];exact⟨_,_,Z,Z⟩
theorem aSf (ao:Rd w ar bo aw 1 al) (bh:SlW .u8 w al ws) (hp:(0<=so/\so<=2)/\(od=0\/od=1)/\(1<=sz/\sz<=16777216)) (cv: ¬eO ws) (hN:ws.flatten.length<=400/\ws.length<=400) (hex: ∃L TS,ExtR ws L TS 0):
  CF 17 #[.agg #[sl Au 0 cu,sl ar ws.length aw], .agg #[I 3,I so,I od,I sz]] w (λv R'=> ∃A c,v= .tuple #[sl A (xI so od sz ws).length c,I 0]/\R'=[(ru 5 A ((xI so od sz ws).length) c (xI so od sz ws))]):=by
 obtain rfl:bo=ws.length:=by have:=ao.len;have:=bh.1;omega
 refine fn2 Jo Z Z Z ?_;have kh:=ao.max;have zv: ∀w∈ws,aN w:=λw hw=>((bh.okB) w hw).1;have Zs:=bW 4 sz G;have Zr:=bW 2 (ws.flatten.length:Int) G;have Sp:=(rO (od:=od) zv cv hex hN).1;refine wq<|wa (cB (sz:=2) Z Z) ?_;rintro _ _⟨aq,rfl,rfl⟩;refine wa (cB (sz:=4) Z Z) ?_;rintro _ _⟨cy,rfl,rfl⟩;refine wg Z<|wn Z<|wq<|wy (bM (vs:=[sl Au 0 cu,sl ar ws.length aw]) (rdr 1 Z) dm Z pJ Z Z (ak Z) Z)<|wy (bM (vs:=[I 3,I so,I od,I sz]) (rdr 0 Z) bg Z eQ Z Z (ak Z) Z)<|wa (aC bHg Z (Ct.quiet (λw hw=>aRy ((ao.c _) w hw) (bh.c hw) hp cv hN))) ?_;rintro _ _⟨rfl,rfl⟩;refine wn Z<|aD<|wq<|wm Z<|wy (Yl.f (jP Z Z) cC)<|aA<|aP Z<|aI<|wq<|wa (bH .u8 [87,72,82,76,1] af zs5 Z Z Z) ?_;rintro _ _⟨fd,rfl,rfl⟩;refine wa (WV 0 Z Z af bn Z Z) ?_;rintro _ _⟨rfl,rfl⟩;refine wy (yF 0 0 bg sz3 Z)<|wy (yL 1 au Z Z Z)<|wy (dU au bn Z)<|wy (yF 1 1 bg sz3 Z)<|wy (yL 1 au Z Z Z)<|wy (dU au bn Z)<|wy (yF 2 2 bg sz3 Z)<|wy (yL 1 au Z Z Z)<|wy (dU au bn Z)<|wa (bH .u8 [3%256,so%256,od%256] af zs5 Z Z Z) ?_;rintro _ _⟨io,rfl,rfl⟩;refine wa (sK af zb5 Z (rdr 1 Z) Z (rdr 0 Z) (by first|decide|(dsimp only;decide)) (by first|decide|(dsimp only;decide)) (by first|decide|(dsimp only;decide)) (by first|decide|(dsimp only;decide)) (by first|decide|(dsimp only;decide)) Z) ?_;rintro _ _⟨ir,ef,rfl,rfl⟩;refine bC (v:=sl (GG ir) 8 ef) Z<|wn Z<|wq<|wm Z<|wy (yF 3 3 bg sz3 Z)<|wy (yL 3 au Z Z Z)<|wa (aC QA Z (Ct.fresh (λw hw=>gP G))) ?_;rintro _ _⟨_,rfl,dv,br,rfl,rfl⟩;refine wa (aQ 1 Z af zb5 Z Z Z (rdr 0 Z) cG) ?_;rintro _ _⟨na,db,rfl,rfl⟩;refine bC (v:=sl na (8+((aW sz).length)) db) Z<|wn Z<|aD<|bF mixed<|wD 0 Z (yF 0 0 dm dH Z)<|wD 1 Z (yL 5 af Z Z Z)<|wD 2 Z (aL af Z)<|wD 3 Z (yF 1 1 dm jC Z)<|wD 4 Z (yL 5 ay Z Z Z)<|wC 5 Z (aC aOe Z (Ct.fresh (λw hw=>BZ ((ao.c _) w hw) (bh.c hw) G))) ?_;rintro _ _⟨_,rfl,dy,ee,rfl,rfl⟩;refine⟨.inr hrZ,?_⟩;refine wD 6 Z (aL af Z)<|wD 7 Z (Yl.is (cK Z Z) (bu (Value.int .i64) (Int.zero_add _)))<|wD 8 Z (bB Z)<|wN<|aD<|wq<|wy (yF 1 1 dm jC Z)<|wy (yL 6 ay Z Z Z)<|wy (aL ay Z)<|wy (dA Z Z)<|aA<|bA Z (λba=> ?_) (λba=> ?_)
 ·refine aK<|wm Z<|wy (bM (vs:=[I 3,I so,I od,I sz]) (rdr 5 Z) bg Z eQ Z Z (ak Z) Z)<|wy (yF 1 1 dm jC Z)<|wy (yL 6 ay Z Z Z)<|wa (aC bOr Z (Ct.fresh (λw hw=>YJ ((ao.c _) w hw) (bh.c hw) hp cv hN))) ?_;rintro _ _⟨_,rfl,dj,dp,rfl,rfl⟩;refine wa (aQ 3 Z af zb5 Z Z Z (rdr 0 Z) cG) ?_;rintro _ _⟨li,lj,rfl,rfl⟩;refine bC (v:=sl li ((8+((aW sz).length))+((dZ od ws).length)) lj) Z<|wn Z<|aD<|wq<|wy (yF 0 0 dm dH Z)<|wy (yL 7 af Z Z Z)<|wn Z<|aH<|lT 1<|eB<|aD<|aD ?_;refine aK<|wm Z<|wy (aL af Z)<|wy (Yl.f (dA Z Z) cC)<|aA<|aP Z<|aR<|wq<|wm Z<|wa (bH .u8 [0] af zs5 Z Z Z) ?_;rintro _ _⟨c5,rfl,rfl⟩;refine wa (aQ 4 Z af zb5 Z Z Z (rdr 0 Z) cG) ?_;rintro _ _⟨jx,jz,rfl,rfl⟩;refine bC (v:=sl jx (((8+((aW sz).length))+((dZ od ws).length))+1) jz) Z<|wm Z<|wa (aC QA Z (Ct.fresh (λw hw=>gP G))) ?_;rintro _ _⟨_,rfl,nd,nh,rfl,rfl⟩;refine wa (aQ 5 Z af zb5 Z Z Z (rdr 0 Z) cG) ?_;rintro _ _⟨i6,i8,rfl,rfl⟩;refine bC (v:=sl i6 ((((8+((aW sz).length))+((dZ od ws).length))+1)+((aW (ws.flatten.length:Int)).length)) i8) Z<|wg Z<|wn Z<|aT [5] 99 cC Z ?_;refine⟨_,_,Z,Z,?_⟩
  have e:(([87,72,82,76,1]++[3%256,so%256,od%256])++aW sz)++dZ od ws++[0]++aW (ws.flatten.length:Int)=xI so od sz ws:=by
   rw[ky (a:=so) G G,ky (a:=od) G G];unfold xI;rw[df (λe=>by subst e;exact absurd ba cC),fT,show aW 0=[0] from rfl];simp
  have e2:=bu List.length e;simp only[ah] at e2;simp only[<-e,ah];exact⟨_,_,Z,Z⟩
 ·refine aI<|aD<|wq<|wy (yF 0 0 dm dH Z)<|wy (yL 6 af Z Z Z)<|wn Z<|aH<|lT 1<|eB<|aD<|wq<|wm Z ?_;refine wy (aL af Z)<|wy (Yl.f (dA Z Z) cC)<|aA<|aP Z<|aR<|wq<|wm Z<|wa (bH .u8 [0] af zs5 Z Z Z) ?_;rintro _ _⟨g_32,rfl,rfl⟩;refine wa (aQ 3 Z af zb5 Z Z Z (rdr 0 Z) cG) ?_;rintro _ _⟨Nc,Nj,rfl,rfl⟩;refine bC (v:=sl Nc ((8+((aW sz).length))+1) Nj) Z<|wm Z<|wa (aC QA Z (Ct.fresh (λw hw=>gP G))) ?_;rintro _ _⟨_,rfl,i7,i9,rfl,rfl⟩;refine wa (aQ 4 Z af zb5 Z Z Z (rdr 0 Z) cG) ?_;rintro _ _⟨Qz,Rm,rfl,rfl⟩;refine bC (v:=sl Qz (((8+((aW sz).length))+1)+((aW (ws.flatten.length:Int)).length)) Rm) Z<|wg Z<|wn Z<|aT [4] 99 cC Z ?_;refine⟨_,_,Z,Z,?_⟩
  have e:(([87,72,82,76,1]++[3%256,so%256,od%256])++aW sz)++[0]++aW (ws.flatten.length:Int)=xI so od sz ws:=by
   rw[ky (a:=so) G G,ky (a:=od) G G];unfold xI;rw[di (dw G),fT,show aW 0=[0] from rfl];simp
  have e2:=bu List.length e;simp only[ah] at e2;simp only[<-e,ah];exact⟨_,_,Z,Z⟩
variable {w:World} {k so od sz:Int} {ap ar:AF} {bl an bo aw:Nat} {u:AH} {al:AG} {ws:AD}
theorem yU:
  CF 23 #[.agg #[I k,I so,I od,I sz]] w (λv R'=>v= .bool (decide ((0<=k/\k<=3)/\(0<=so/\so<=2)/\(od=0\/od=1)/\(1<=sz/\sz<=16777216)))):=by
 refine fn1 Tryz.func23 Z Z Z ?_;refine wq<|wa (cB (sz:=4) Z Z) ?_;rintro _ _⟨aq,rfl,rfl⟩;refine wn Z<|wq<|wy (yF 0 0 bg sz3 Z)<|wy (yL 0 au Z Z Z)<|wy (iD Z Z)<|wm Z<|bV 4 [(1,PG aq),(10, .bool (decide ((0<=k)/\(k<=3))))] [(rc 27 4 aq [I k,I so,I od,I sz])] ?_ ?_
 ·refine bN 6 Z (λba=> ?_) (λba=> ?_)
  ·refine aB Z Z<|wy (yF 0 0 bg sz3 Z)<|aB Z Z<|wy (yL 0 au Z Z Z)<|aB Z Z<|wy (qP Z Z)<|wy (aS Z Z)<|aA ?_;exact KP
  ·refine aM Z Z Z Z<|aM Z Z Z Z<|aM Z Z Z Z<|wy (aO Z Z)<|aA ?_;exact KP
 refine wm Z<|bV 4 [(1,PG aq),(15, .bool (decide (((0<=k)/\(k<=3))/\(0<=so))))] [(rc 27 4 aq [I k,I so,I od,I sz])] ?_ ?_
 ·refine bN 11 Z (λcj=> ?_) (λcj=> ?_)
  ·refine aB Z Z<|wy (yF 1 1 bg sz3 Z)<|aB Z Z<|wy (yL 0 au Z Z Z)<|aB Z Z<|wy (iD Z Z)<|wy (aS Z Z)<|aA ?_;exact KP
  ·refine aM Z Z Z Z<|aM Z Z Z Z<|aM Z Z Z Z<|wy (aO Z Z)<|aA ?_;exact KP
 refine wm Z<|bV 4 [(1,PG aq),(20, .bool (decide ((((0<=k)/\(k<=3))/\(0<=so))/\(so<3))))] [(rc 27 4 aq [I k,I so,I od,I sz])] ?_ ?_
 ·refine bN 16 Z (λfh=> ?_) (λfh=> ?_)
  ·refine aB Z Z<|wy (yF 1 1 bg sz3 Z)<|aB Z Z<|wy (yL 0 au Z Z Z)<|aB Z Z<|wL Z Z<|wy (aS Z Z)<|aA ?_;exact KP
  ·refine aM Z Z Z Z<|aM Z Z Z Z<|aM Z Z Z Z<|wy (aO Z Z)<|aA ?_;exact KP
 refine wm Z<|bV 9 [(1,PG aq),(30, .bool (decide (((((0<=k)/\(k<=3))/\(0<=so))/\(so<3))/\((od=0)\/(od=1)))))] [(rc 27 4 aq [I k,I so,I od,I sz])] ?_ ?_
 ·refine bN 21 Z (λjj=> ?_) (λjj=> ?_)
  ·refine aB Z Z<|wy (yF 2 2 bg sz3 Z)<|aB Z Z<|wy (yL 0 au Z Z Z)<|aB Z Z<|wy (fD Z Z)<|aB Z Z<|wm Z<|bV 4 [(1,PG aq),(21,bt),(29, .bool (decide ((od=0)\/(od=1))))] [(rc 27 4 aq [I k,I so,I od,I sz])] ?_ ?_
   ·refine bN 25 Z (λkb=> ?_) (λkb=> ?_)
    ·refine aM Z Z Z Z<|aM Z Z Z Z<|aM Z Z Z Z<|aB Z Z<|wy (aS Z Z)<|aA ?_;exact KP
    ·refine aB Z Z<|wy (yF 2 2 bg sz3 Z)<|aB Z Z<|wy (yL 0 au Z Z Z)<|aB Z Z<|wy (fD Z Z)<|aB Z Z<|wy (aO Z Z)<|aA ?_;exact KP
   refine wy (aS Z Z)<|aA ?_;exact KP
  ·refine aM Z Z Z Z<|aM Z Z Z Z<|aM Z Z Z Z<|aM Z Z Z Z<|dQ Z Z Z<|dQ Z Z Z<|dQ Z Z Z<|aM Z Z Z Z<|wy (aO Z Z)<|aA ?_;exact KP
 refine wm Z<|bV 4 [(1,PG aq),(35, .bool (decide ((((((0<=k)/\(k<=3))/\(0<=so))/\(so<3))/\((od=0)\/(od=1)))/\(1<=sz))))] [(rc 27 4 aq [I k,I so,I od,I sz])] ?_ ?_
 ·refine bN 31 Z (λwv=> ?_) (λwv=> ?_)
  ·refine aB Z Z<|wy (yF 3 3 bg sz3 Z)<|aB Z Z<|wy (yL 0 au Z Z Z)<|aB Z Z<|wy (iD Z Z)<|wy (aS Z Z)<|aA ?_;exact KP
  ·refine aM Z Z Z Z<|aM Z Z Z Z<|aM Z Z Z Z<|wy (aO Z Z)<|aA ?_;exact KP
 refine wm Z<|bV 4 [(40, .bool (decide (((((((0<=k)/\(k<=3))/\(0<=so))/\(so<3))/\((od=0)\/(od=1)))/\(1<=sz))/\(sz<=16777216))))] [(rc 27 4 aq [I k,I so,I od,I sz])] ?_ ?_
 ·refine bN 36 Z (λCl=> ?_) (λCl=> ?_)
  ·refine aB Z Z<|wy (yF 3 3 bg sz3 Z)<|aB Z Z<|wy (yL 0 au Z Z Z)<|aB Z Z<|wy (qP Z Z)<|wy (aS Z Z)<|aA ?_;exact KP
  ·refine aM Z Z Z Z<|aM Z Z Z Z<|aM Z Z Z Z<|wy (aO Z Z)<|aA ?_;exact KP
 refine wn Z<|aT [] 99 cC Z ?_;refine⟨_,Z,?_⟩;exact bu Value.bool (sj.2 G)
theorem bAu (ac:Rd w ap bl an 1 (ints .u8 u)) (ao:Rd w ar bo aw 1 al) (bh:SlW .u8 w al ws) (wt: ¬(((0<=k/\k<=3)/\(0<=so/\so<=2)/\(od=0\/od=1)/\(1<=sz/\sz<=16777216))/\(k≠3->ws.length=0)/\(k=3->u.length=0)/\ ¬eO ws)) (hN:ws.flatten.length<=400/\ws.length<=400/\u.length<=400):
  CF 36 #[.agg #[sl ap u.length an,sl ar ws.length aw], .agg #[I k,I so,I od,I sz]] w (λv R'=>v=I 1):=by
 obtain rfl:=ac.lenI;obtain rfl:bo=ws.length:=by have:=ao.len;have:=bh.1;omega
 refine fn1 Es Z Z Z ?_;have kc:=ac.max;have kh:=ao.max;refine wq<|wa (cB (sz:=2) Z Z) ?_;rintro _ _⟨aq,rfl,rfl⟩;refine wa (cB (sz:=4) Z Z) ?_;rintro _ _⟨fi,rfl,rfl⟩;refine wn Z<|wq<|wn Z<|wq<|wy (yF 0 0 bg sz3 Z)<|wy (yL 0 au Z Z Z)<|wy (fD Z Z)<|wn Z<|aD<|aD ?_;refine aK<|wy (bM (vs:=[I k,I so,I od,I sz]) (rdr 0 Z) bg Z eQ Z Z (ak Z) Z)<|wa (aC WF Z (Ct.quiet (λw hw=>yU))) ?_;rintro _ _⟨rfl,rfl⟩;refine wy (uH Z)<|wm Z<|bV 9 [(2,PG aq),(5, .func (.func 67) #[] #[]),(6, .bool (decide (k=3))),(22, .bool (decide ((¬((0<=k/\k<=3)/\(0<=so/\so<=2)/\(od=0\/od=1)/\(1<=sz/\sz<=16777216)))\/((¬(k=3))/\(0<(ws.length:Int))))))] [(rc 27 4 fi [I k,I so,I od,I sz]),(rc 25 2 aq [sl ap u.length an,sl ar ws.length aw])] ?_ ?_
 ·refine bN 13 Z (λba=> ?_) (λba=> ?_)
  ·refine aM Z Z Z Z<|aM Z Z Z Z<|aM Z Z Z Z<|dQ Z Z Z<|dQ Z Z Z<|dQ Z Z Z<|dQ Z Z Z<|aM Z Z Z Z<|wy (aS Z Z)<|aA ?_;exact KP
  ·refine aB Z Z<|wm Z<|aB Z Z<|wy (uH Z)<|aB Z Z<|wm Z<|bV 5 [(2,PG aq),(5, .func (.func 67) #[] #[]),(6, .bool (decide (k=3))),(13,bf),(21, .bool (decide ((¬(k=3))/\(0<(ws.length:Int)))))] [(rc 27 4 fi [I k,I so,I od,I sz]),(rc 25 2 aq [sl ap u.length an,sl ar ws.length aw])] ?_ ?_
   ·refine bN 16 Z (λcj=> ?_) (λcj=> ?_)
    ·refine aB Z Z<|wy (yF 1 1 dm jC Z)<|aB Z Z<|wy (yL 1 ay Z Z Z)<|aB Z Z<|wy (aL ay Z)<|aB Z Z<|wy (dA Z Z)<|aB Z Z<|wy (aS Z Z)<|aA ?_;exact KP
    ·refine aM Z Z Z Z<|aM Z Z Z Z<|aM Z Z Z Z<|aM Z Z Z Z<|aB Z Z<|wy (aO Z Z)<|aA ?_;exact KP
   refine wy (aO Z Z)<|aA ?_;exact KP
 refine wm Z<|bV 8 [(2,PG aq),(5, .func (.func 67) #[] #[]),(31, .bool (decide (((¬((0<=k/\k<=3)/\(0<=so/\so<=2)/\(od=0\/od=1)/\(1<=sz/\sz<=16777216)))\/((¬(k=3))/\(0<(ws.length:Int))))\/((k=3)/\(0<(u.length:Int))))))] [(rc 27 4 fi [I k,I so,I od,I sz]),(rc 25 2 aq [sl ap u.length an,sl ar ws.length aw])] ?_ ?_
 ·refine bN 23 Z (λfh=> ?_) (λfh=> ?_)
  ·refine aM Z Z Z Z<|aM Z Z Z Z<|dQ Z Z Z<|dQ Z Z Z<|dQ Z Z Z<|dQ Z Z Z<|aM Z Z Z Z<|wy (aS Z Z)<|aA ?_;exact KP
  ·refine aB Z Z<|wm Z<|aB Z Z<|wm Z<|bV 5 [(2,PG aq),(5, .func (.func 67) #[] #[]),(23,bf),(30, .bool (decide ((k=3)/\(0<(u.length:Int)))))] [(rc 27 4 fi [I k,I so,I od,I sz]),(rc 25 2 aq [sl ap u.length an,sl ar ws.length aw])] ?_ ?_
   ·refine bN 25 Z (λjj=> ?_) (λjj=> ?_)
    ·refine aB Z Z<|wy (yF 0 0 dm dH Z)<|aB Z Z<|wy (yL 1 af Z Z Z)<|aB Z Z<|wy (aL af Z)<|aB Z Z<|wy (dA Z Z)<|aB Z Z<|wy (aS Z Z)<|aA ?_;exact KP
    ·refine aM Z Z Z Z<|aM Z Z Z Z<|aM Z Z Z Z<|aM Z Z Z Z<|aB Z Z<|wy (aO Z Z)<|aA ?_;exact KP
   refine wy (aO Z Z)<|aA ?_;exact KP
 refine wm Z<|bV 5 [(2,PG aq),(37,bt)] [(rc 27 4 fi [I k,I so,I od,I sz]),(rc 25 2 aq [sl ap u.length an,sl ar ws.length aw])] ?_ ?_
 ·refine bN 32 Z (λkb=> ?_) (λkb=> ?_)
  ·refine aM Z Z Z Z<|aM Z Z Z Z<|aM Z Z Z Z<|aM Z Z Z Z<|wy (aS Z Z)<|aA ?_;exact KP
  ·refine aB Z Z<|wy (yF 1 1 dm jC Z)<|aB Z Z<|wy (yL 1 ay Z Z Z)<|aB Z Z<|wm Z<|aB Z Z<|wa (aC aOc Z (Ct.quiet (λw hw=>EC ((ao.c _) w hw) (bh.c hw)))) ?_;rintro _ _⟨rfl,rfl⟩;refine mW 36 Z (Decidable.byContradiction λhe=>wt ⟨G,G,G,he⟩)<|wy (aO rfl rfl)<|aA ?_;exact KP
 refine aA<|dS Z<|wq<|wn Z<|aT [] 99 cC Z ?_;refine⟨_,Z,?_⟩;rfl
theorem bBy (ac:Rd w ap bl an 1 (ints .u8 u)) (ao:Rd w ar bo aw 1 al) (bh:SlW .u8 w al ws) (wt: ¬(((0<=k/\k<=3)/\(0<=so/\so<=2)/\(od=0\/od=1)/\(1<=sz/\sz<=16777216))/\(k≠3->ws.length=0)/\(k=3->u.length=0)/\ ¬eO ws)) (hN:ws.flatten.length<=400/\ws.length<=400/\u.length<=400):
  CF 16 #[.agg #[sl ap u.length an,sl ar ws.length aw], .agg #[I k,I so,I od,I sz]] w (λv R'=>v= .tuple #[sl none 0 0,I 1]):=by
 obtain rfl:=ac.lenI;obtain rfl:bo=ws.length:=by have:=ao.len;have:=bh.1;omega
 refine fnV Jn Z Z ?_;have kc:=ac.max;have kh:=ao.max;refine eP ?_;refine aK<|wa (cB (sz:=2) Z Z) ?_;rintro _ _⟨aq,rfl,rfl⟩;refine wa (cB (sz:=4) Z Z) ?_;rintro _ _⟨fi,rfl,rfl⟩;refine wg Z<|wn Z ?_;refine eP ?_;refine wq<|wy (bM (vs:=[sl ap u.length an,sl ar ws.length aw]) (rdr 1 Z) dm Z pJ Z Z (ak Z) Z)<|wy (bM (vs:=[I k,I so,I od,I sz]) (rdr 0 Z) bg Z eQ Z Z (ak Z) Z)<|wa (aC bHh Z (Ct.quiet (λw hw=>bAu ((ac.c _) w hw) ((ao.c _) w hw) (bh.c hw) wt hN))) ?_;rintro _ _⟨rfl,rfl⟩;refine wn Z<|wq<|wm Z<|wy (Yl.t (jP Z Z) cC)<|aA<|dS Z<|wq<|wm Z<|wg Z<|wn Z<|aT [] 99 cC Z ?_;refine aNq Z Gd.refl ⟨_,_,Z,Z,?_⟩;rfl
theorem aRz (ac:Rd w ap bl an 1 (ints .u8 u)) (ao:Rd w ar bo aw 1 al) (bh:SlW .u8 w al ws) (wt: ¬(((0<=k/\k<=3)/\(0<=so/\so<=2)/\(od=0\/od=1)/\(1<=sz/\sz<=16777216))/\(k≠3->ws.length=0)/\(k=3->u.length=0)/\ ¬eO ws)) (hN:ws.flatten.length<=400/\ws.length<=400/\u.length<=400):
  CF 42 #[.agg #[sl ap u.length an,sl ar ws.length aw], .agg #[I k,I so,I od,I sz]] w (λv R'=>v=I 1):=by
 obtain rfl:=ac.lenI;obtain rfl:bo=ws.length:=by have:=ao.len;have:=bh.1;omega
 refine fn1 Jp Z Z Z ?_;have kc:=ac.max;have kh:=ao.max;refine wq<|wa (cB (sz:=2) Z Z) ?_;rintro _ _⟨aq,rfl,rfl⟩;refine wa (cB (sz:=4) Z Z) ?_;rintro _ _⟨fi,rfl,rfl⟩;refine wn Z<|aD<|wq<|wy (bM (vs:=[I k,I so,I od,I sz]) (rdr 0 Z) bg Z eQ Z Z (ak Z) Z)<|wa (aC aOf Z (Ct.quiet (λw hw=>tJ))) ?_;rintro _ _⟨rfl,rfl⟩;refine wy (uH Z)<|wm Z<|bV 10 [(2,PG aq),(3,PG fi),(19, .bool (decide ((¬((0<=k/\k<=3)/\(0<=so/\so<=2)/\(od=0\/od=1)/\(1<=sz/\sz<=16777216)))\/((k=3)/\(0<(u.length:Int))))))] [(rc 27 4 fi [I k,I so,I od,I sz]),(rc 25 2 aq [sl ap u.length an,sl ar ws.length aw])] ?_ ?_
 ·refine bN 9 Z (λba=> ?_) (λba=> ?_)
  ·refine aM Z Z Z Z<|aM Z Z Z Z<|aM Z Z Z Z<|aM Z Z Z Z<|dQ Z Z Z<|dQ Z Z Z<|dQ Z Z Z<|dQ Z Z Z<|aM Z Z Z Z<|wy (aS Z Z)<|aA ?_;exact KP
  ·refine aB Z Z<|wy (yF 0 0 bg sz3 Z)<|aB Z Z<|wy (yL 0 au Z Z Z)<|aB Z Z<|wy (fD Z Z)<|aB Z Z<|wm Z<|bV 5 [(2,PG aq),(3,PG fi),(9,bf),(18, .bool (decide ((k=3)/\(0<(u.length:Int)))))] [(rc 27 4 fi [I k,I so,I od,I sz]),(rc 25 2 aq [sl ap u.length an,sl ar ws.length aw])] ?_ ?_
   ·refine bN 13 Z (λcj=> ?_) (λcj=> ?_)
    ·refine aB Z Z<|wy (yF 0 0 dm dH Z)<|aB Z Z<|wy (yL 1 af Z Z Z)<|aB Z Z<|wy (aL af Z)<|aB Z Z<|wy (dA Z Z)<|aB Z Z<|wy (aS Z Z)<|aA ?_;exact KP
    ·refine aM Z Z Z Z<|aM Z Z Z Z<|aM Z Z Z Z<|aM Z Z Z Z<|aB Z Z<|wy (aO Z Z)<|aA ?_;exact KP
   refine wy (aO Z Z)<|aA ?_;exact KP
 refine wm Z<|bV 10 [(2,PG aq),(30, .bool (decide (((¬((0<=k/\k<=3)/\(0<=so/\so<=2)/\(od=0\/od=1)/\(1<=sz/\sz<=16777216)))\/((k=3)/\(0<(u.length:Int))))\/((k≠3)/\(0<(ws.length:Int))))))] [(rc 27 4 fi [I k,I so,I od,I sz]),(rc 25 2 aq [sl ap u.length an,sl ar ws.length aw])] ?_ ?_
 ·refine bN 20 Z (λfh=> ?_) (λfh=> ?_)
  ·refine aM Z Z Z Z<|aM Z Z Z Z<|aM Z Z Z Z<|aM Z Z Z Z<|dQ Z Z Z<|dQ Z Z Z<|dQ Z Z Z<|dQ Z Z Z<|aM Z Z Z Z<|wy (aS Z Z)<|aA ?_;exact KP
  ·refine aB Z Z<|wy (yF 0 0 bg sz3 Z)<|aB Z Z<|wy (yL 0 au Z Z Z)<|aB Z Z<|wy (jP Z Z)<|aB Z Z<|wm Z<|bV 5 [(2,PG aq),(20,bf),(29, .bool (decide ((k≠3)/\(0<(ws.length:Int)))))] [(rc 27 4 fi [I k,I so,I od,I sz]),(rc 25 2 aq [sl ap u.length an,sl ar ws.length aw])] ?_ ?_
   ·refine bN 24 Z (λjj=> ?_) (λjj=> ?_)
    ·refine aB Z Z<|wy (yF 1 1 dm jC Z)<|aB Z Z<|wy (yL 1 ay Z Z Z)<|aB Z Z<|wy (aL ay Z)<|aB Z Z<|wy (dA Z Z)<|aB Z Z<|wy (aS Z Z)<|aA ?_;exact KP
    ·refine aM Z Z Z Z<|aM Z Z Z Z<|aM Z Z Z Z<|aM Z Z Z Z<|aB Z Z<|wy (aO Z Z)<|aA ?_;exact KP
   refine wy (aO Z Z)<|aA ?_;exact KP
 refine aA<|bA Z (λkb=> ?_) (λkb=> ?_)
 ·refine wq<|wn Z<|aT [] 99 cC Z ?_;refine⟨_,Z,?_⟩;rfl
 ·refine aI<|aD<|wq<|wn Z<|aH ?_;refine gZ (λ(i:Int)=>[(2,PG aq),(5,I i)]) (λi=>[(rc 27 4 fi [I k,I so,I od,I sz]),(rc 25 2 aq [sl ap u.length an,sl ar ws.length aw])]) (λi=>(0<=i)/\(i<=ws.length)/\(∀j:Int,0<=j->j<i->j<ws.length->0<(rdl ws j).length)) (λi=>(ws.length-i).toNat) ?_ ?_
  ·exact⟨0,⟨G,G,(λj h1 h2=>G)⟩,KP⟩
  intro i ⟨bb,gd,cv⟩;refine aD<|wq<|wm Z<|wy (yF 1 1 dm jC Z)<|wy (yL 1 ay Z Z Z)<|wy (aL ay Z)<|wL Z Z<|aA<|bA Z (λwv=> ?_) (λwv=> ?_)
  ·refine aI<|aD<|aH<|wq<|wy (yF 1 1 dm jC Z)<|wy (yL 1 ay Z Z Z)<|wm Z<|wy (aF ay dH Z Z (ao.c _)) ?_;refine bh.elim (i:=i) G G (λfm kx Ph Ln Ye Uu=> ?_);refine wy (lC af Z Z Z (ao.c _) Ph)<|wy (aL af Z)<|wy (fD Z Z)<|aA<|bA Z (λCl=> ?_) (λCl=> ?_)
   ·refine wq<|wn Z<|aT [] 99 cC Z ?_;refine⟨_,Z,?_⟩;rfl
   ·refine aI<|aK<|wm Z<|wA Z Z<|wn Z ?_
    exact⟨i+1,⟨G,G,(λj h1 h2 h3=>by
      rcases bz j i with g|g
      ·exact cv j h1 g h3
      ·obtain rfl:j=i:=G
       omega)⟩,G,KP⟩
  ·refine aR<|aD<|aD<|bF mixed<|wD 0 Z (yF 0 0 dm dH Z)<|wD 1 Z (yL 1 af Z Z Z)<|wD 2 Z (aL af Z)<|wD 3 Z (yF 1 1 dm jC Z)<|wD 4 Z (yL 1 ay Z Z Z)<|wC 5 Z (aC aOe Z (Ct.fresh (λw hw=>BZ ((ao.c _) w hw) (bh.c hw) G))) ?_;rintro _ _⟨_,rfl,bw,bx,rfl,rfl⟩;refine⟨.inr hrZ,?_⟩;refine wD 6 Z (aL af Z)<|wD 7 Z (cK Z Z)<|wD 8 Z (Yl.f (dA Z Z))<|wD 9 Z (aJ Z)<|wG 10 Z Z Z (yF 1 1 dm jC Z)<|wG 11 Z Z Z (yL 2 ay Z Z Z)<|wG 12 Z Z Z (aL ay Z)<|wG 13 Z Z Z (Yl.f (dA Z Z))<|wD 14 Z (aO Z Z)<|wN<|aP Z<|aI<|wq<|wg Z ?_;refine aA<|aT [] 99 cC Z ?_;refine⟨_,Z,?_⟩;exact absurd ⟨G,G,G,GL (i:=i) G cv⟩ wt
theorem aSg (ac:Rd w ap bl an 1 (ints .u8 u)) (ao:Rd w ar bo aw 1 al) (bh:SlW .u8 w al ws) (wt: ¬(((0<=k/\k<=3)/\(0<=so/\so<=2)/\(od=0\/od=1)/\(1<=sz/\sz<=16777216))/\(k≠3->ws.length=0)/\(k=3->u.length=0)/\ ¬eO ws)) (hN:ws.flatten.length<=400/\ws.length<=400/\u.length<=400):
  CF 17 #[.agg #[sl ap u.length an,sl ar ws.length aw], .agg #[I k,I so,I od,I sz]] w (λv R'=>v= .tuple #[sl none 0 0,I 1]):=by
 obtain rfl:=ac.lenI;obtain rfl:bo=ws.length:=by have:=ao.len;have:=bh.1;omega
 refine fn2 Jo Z Z Z ?_;have kc:=ac.max;have kh:=ao.max;refine wq<|wa (cB (sz:=2) Z Z) ?_;rintro _ _⟨aq,rfl,rfl⟩;refine wa (cB (sz:=4) Z Z) ?_;rintro _ _⟨fi,rfl,rfl⟩;refine wg Z<|wn Z<|wq<|wy (bM (vs:=[sl ap u.length an,sl ar ws.length aw]) (rdr 1 Z) dm Z pJ Z Z (ak Z) Z)<|wy (bM (vs:=[I k,I so,I od,I sz]) (rdr 0 Z) bg Z eQ Z Z (ak Z) Z)<|wa (aC bHg Z (Ct.quiet (λw hw=>aRz ((ac.c _) w hw) ((ao.c _) w hw) (bh.c hw) wt hN))) ?_;rintro _ _⟨rfl,rfl⟩;refine wn Z<|aD<|wq<|wm Z<|wy (Yl.t (jP Z Z) cC)<|aA<|dS Z<|wq<|wm Z<|wg Z<|wn Z ?_;refine aT [] 99 cC Z ?_;refine⟨_,_,Z,Z,?_⟩;rfl
variable {w:World} {ap ar:AF} {bl an bo aw:Nat} {u:AH} {al:AG} {ws:AD} {k so od sz:Int}
theorem FZ (ac:Rd w ap bl an 1 (ints .u8 u)) (ao:Rd w ar bo aw 1 al) (bh:SlW .u8 w al ws) (Pf:u.length<=140737488355327):
  CF 22 #[.agg #[sl ap u.length an,sl ar ws.length aw]] w (λv R'=> ∃b:Bool,v= .bool (decide (b=true))/\(b=false->u.length<=60/\ws.flatten.length<=60/\ws.length<=30)):=by
 obtain rfl:=ac.lenI;obtain rfl:bo=ws.length:=by have:=ao.len;have:=bh.1;omega
 refine fn1 Tryz.func22 Z Z Z ?_;have kc:=ac.max;have kh:=ao.max;refine wq<|wa (cB (sz:=2) Z Z) ?_;rintro _ _⟨aq,rfl,rfl⟩;refine wn Z<|wq<|wy (yF 0 0 dm dH Z)<|wy (yL 0 af Z Z Z)<|wy (aL af Z)<|wn Z<|aD<|wq<|wn Z<|aH ?_;refine dI (λ(i:Int) (n:Int)=>[(1,PG aq),(3,I n),(4,I i)]) (λi n=>[(rc 25 2 aq [sl ap u.length an,sl ar ws.length aw])]) (λi n=>(0<=i)/\(i<=ws.length)/\(i<=40)/\(n=u.length+((ws.take i.toNat).flatten.length:Int))/\(n<=140737488355328*(i+1))) (λi n=>(40-i).toNat) ?_ ?_
 ·exact⟨0,(u.length:Int),⟨G,G,G,cD,G⟩,KP⟩
 intro i n ⟨bb,gd,Oi,hn,pj⟩;have Ji:=bh.okB;have b5:i<ws.length->(rdl ws i).length<=140737488355327:=λh=>(Ji _ (jD bb h)).2;refine aD<|wq<|wm Z<|wy (yF 1 1 dm jC Z)<|wy (yL 0 ay Z Z Z)<|wy (aL ay Z)<|wL Z Z<|wm Z<|bV 3 [(1,PG aq),(3,I n),(4,I i),(16, .bool (decide ((i<(ws.length:Int))/\(i<40))))] [(rc 25 2 aq [sl ap u.length an,sl ar ws.length aw])] ?_ ?_
 ·refine bN 13 Z (λba=> ?_) (λba=> ?_)
  ·refine aB Z Z<|wm Z<|aB Z Z<|wL Z Z<|wy (aS Z Z)<|aA ?_;exact KP
  ·refine aM Z Z Z Z<|aM Z Z Z Z<|wy (aO Z Z)<|aA ?_;exact KP
 refine aA<|bA Z (λcj=> ?_) (λcj=> ?_)
 ·refine aI<|aD<|aH<|aK<|wm Z<|wy (yF 1 1 dm jC Z)<|wy (yL 0 ay Z Z Z)<|wm Z<|wy (aF ay dH Z Z (ao.c _)) ?_;refine bh.elim (i:=i) G G (λen es Pg Fr Yd Ut=> ?_);refine wy (lC af Z Z Z (ao.c _) Pg)<|wy (aL af Z)<|wA Z Z<|wn Z<|aK<|wm Z<|wA Z Z<|wn Z ?_;exact⟨i+1,n+(((rdl ws i).length:Nat):Int),⟨G,G,G,(by rw[fC bb G,ah,hn];omega),G⟩,G,KP⟩
 ·refine aR<|wq<|wm Z<|wy (dA Z Z)<|wm Z<|bV 5 [(34, .bool (decide ((60<n)\/(30<(ws.length:Int)))))] [(rc 25 2 aq [sl ap u.length an,sl ar ws.length aw])] ?_ ?_
  ·refine bN 29 Z (λfh=> ?_) (λfh=> ?_)
   ·refine aM Z Z Z Z<|aM Z Z Z Z<|aM Z Z Z Z<|aM Z Z Z Z<|wy (aS Z Z)<|aA ?_;exact KP
   ·refine aB Z Z<|wy (yF 1 1 dm jC Z)<|aB Z Z<|wy (yL 0 ay Z Z Z)<|aB Z Z<|wy (aL ay Z)<|aB Z Z<|wy (dA Z Z)<|wy (aO Z Z)<|aA ?_;exact KP
  refine wn Z<|aT [] 99 cC Z ?_;refine⟨_,Z,?_⟩;refine⟨decide (60<n\/30<(ws.length:Int)),cD,λh=> ?_⟩;have h': ¬(60<n\/30<(ws.length:Int)):=by simpa using h
  have ka:ws.take i.toNat=ws:=bi G;rw[ka] at hn;exact⟨G,G,G⟩
theorem OU {Vc:AF} {Vf:Nat} (ac:Rd w ap bl an 1 (ints .u8 u)) (am:aN u) (Pf:u.length<=140737488355327) (hp:(0<=so/\so<=2)/\(od=0\/od=1)/\(1<=sz/\sz<=16777216)) (hk:k=0\/k=1\/k=2):
  CF 4 #[.agg #[sl ap u.length an,sl Vc 0 Vf], .agg #[I k,I so,I od,I sz]] w (λv R'=>v=bt):=by
 obtain rfl:=ac.lenI;refine fn1 Tryz.func4 Z Z Z ?_;have kc:=ac.max;refine wq<|wa (cB (sz:=2) Z Z) ?_;rintro _ _⟨aq,rfl,rfl⟩;refine wa (cB (sz:=4) Z Z) ?_;rintro _ _⟨cy,rfl,rfl⟩;refine wn Z<|aD<|wq<|wy (bM (vs:=[sl ap u.length an,sl Vc 0 Vf]) (rdr 1 Z) dm Z pJ Z Z (ak Z) Z)<|wa (aC bHj Z (Ct.quiet (λw hw=>FZ (u:=u) (ws:=[]) ((ac.c _) w hw) (zS w hw) (gD _ _) Pf))) ?_;rintro _ _⟨rfl,b1,rfl,vl⟩;refine aA<|bA Z (λba=> ?_) (λba=> ?_)
 ·refine wq<|wn Z<|aT [] 99 cC Z ?_;refine⟨_,Z,?_⟩;rfl
 ·have Jz:=vl (by cases b1 with|false=>rfl|true=>exact absurd rfl ba);have hS:u.length<=60:=Jz.1;refine aI<|wq<|wy (bM (vs:=[sl ap u.length an,sl Vc 0 Vf]) (rdr 1 Z) dm Z pJ Z Z (ak Z) Z)<|wy (bM (vs:=[I k,I so,I od,I sz]) (rdr 0 Z) bg Z eQ Z Z (ak Z) Z)<|wa (aC bCd Z (Ct.fresh (λw hw=>aJf (u:=u) ((ac.c _) w hw) am G hp hk))) ?_;rintro _ _⟨_,rfl,en,es,rfl,rfl⟩;refine wm Z<|wX Z Z<|wX Z Z<|wg Z<|wn Z<|wq<|wy (bM (vs:=[sl ap u.length an,sl Vc 0 Vf]) (rdr 2 Z) dm Z pJ Z Z (ak Z) Z)<|wy (bM (vs:=[I k,I so,I od,I sz]) (rdr 1 Z) bg Z eQ Z Z (ak Z) Z)<|wa (aC bHk Z (Ct.fresh (λw hw=>aSe (u:=u) ((ac.c _) w hw) am G hp hk))) ?_;rintro _ _⟨_,rfl,fm,kx,rfl,rfl⟩;refine wm Z<|wX Z Z<|wX Z Z<|wg Z<|wn Z<|aD<|bF mixed<|wD 0 Z (aJ Z)<|wD 1 Z (lX af bn ym Z (rdr 1 Z))<|wD 2 Z (aJ Z)<|wD 3 Z (lX af bn ym Z (rdr 0 Z))<|wD 4 Z (Yl.t (QI Z Z (oP am G G G G G).1 (oP am G G G G G).1) (Z))<|wD 5 Z (aJ Z)<|wG 6 Z Z Z (aJ Z) ?_;refine wG 7 Z Z Z (aJ Z)<|wG 8 Z Z Z (Yl.t (fD Z Z) cC)<|wD 9 Z (aS Z Z)<|wD 10 Z (aJ Z)<|wG 11 Z Z Z (bM (vs:=[I k,I so,I od,I sz]) (rdr 2 Z) bg Z eQ Z Z (ak Z) Z)<|wG 13 Z Z Z (bM (vs:=[I k,I so,I od,I sz]) (rdr 2 Z) bg Z eQ Z Z (ak Z) Z)<|rU 12 Z cA Z Z Z (aC WF Z (Ct.quiet (λw hw=>yU))) ?_;rintro _ _⟨rfl,rfl⟩;refine⟨.inr hiZ,?_⟩;refine rU 14 Z cA Z Z Z (aC aOf Z (Ct.quiet (λw hw=>tJ))) ?_;rintro _ _⟨rfl,rfl⟩;refine⟨.inr hiZ,?_⟩;refine wG 15 Z Z Z (Yl.t (aPv za Z Z) (Z))<|wD 16 Z (aS Z Z)<|wD 17 Z (aJ Z)<|rU 18 Z cA Z Z Z (aC bHi Z (Ct.quiet (λw hw=>zX))) ?_;rintro _ _⟨rfl,rfl⟩;refine⟨.inr hiZ,?_⟩;refine wD 19 Z (aS Z Z)<|wD 20 Z (bB Z)<|wN<|aT [] 99 cC Z ?_;refine⟨_,Z,?_⟩;rfl
theorem NU {ws:AD} (hs:0<=so/\so<=2) (ho:od=0\/od=1) (hb: ∀w∈ws,aN w) (cv: ¬eO ws) (hx: ∃L TS,ExtR ws L TS 0) (hN:ws.flatten.length<=400/\ws.length<=400) (hz:0<=sz):aN (xI so od sz ws):=by
 have Sp:=(rO (od:=od) hb cv hx hN).2;unfold xI;intro x h;simp only[dz] at h;rcases h with(((h|h)|h)|h)|h|h
 ·simp only[jc,vk,Gm] at h;omega
 ·simp only[jc,vk,Gm] at h;omega
 ·exact dB hz x h
 ·split at h
  ·cases h
  ·exact Sp x h
 ·exact dB cC x h
 ·exact dB G x h
theorem bHe (cv: ¬eO ws) (h1:ws.length<=1000) (h2:ws.flatten.length<=100000): ∃L TS,ExtR ws L TS 0:=aFp (λw hw=>Cr λe=>cv ⟨w,hw,e⟩) h1 h2
theorem OT {Au:AF} {cu:Nat} (ao:Rd w ar bo aw 1 al) (bh:SlW .u8 w al ws) (hp:(0<=so/\so<=2)/\(od=0\/od=1)/\(1<=sz/\sz<=16777216)) (cv: ¬eO ws):
  CF 4 #[.agg #[sl Au 0 cu,sl ar ws.length aw], .agg #[I 3,I so,I od,I sz]] w (λv R'=>v=bt):=by
 obtain rfl:bo=ws.length:=by have:=ao.len;have:=bh.1;omega
 refine fn1 Tryz.func4 Z Z Z ?_;have kh:=ao.max;refine wq<|wa (cB (sz:=2) Z Z) ?_;rintro _ _⟨aq,rfl,rfl⟩;refine wa (cB (sz:=4) Z Z) ?_;rintro _ _⟨cy,rfl,rfl⟩;refine wn Z<|aD<|wq<|wy (bM (vs:=[sl Au 0 cu,sl ar ws.length aw]) (rdr 1 Z) dm Z pJ Z Z (ak Z) Z)<|wa (aC bHj Z (Ct.quiet (λw hw=>FZ (u:=[]) (ws:=ws) (zS w hw) ((ao.c _) w hw) (bh.c hw) cC))) ?_;rintro _ _⟨rfl,b1,rfl,vl⟩;refine aA<|bA Z (λba=> ?_) (λba=> ?_)
 ·refine wq<|wn Z<|aT [] 99 cC Z ?_;refine⟨_,Z,?_⟩;rfl
 ·have Jz:=vl (by cases b1 with|false=>rfl|true=>exact absurd rfl ba);have hN:ws.flatten.length<=400/\ws.length<=400:=⟨G,G⟩;have hex:=bHe cv G G;refine aI<|wq<|wy (bM (vs:=[sl Au 0 cu,sl ar ws.length aw]) (rdr 1 Z) dm Z pJ Z Z (ak Z) Z)<|wy (bM (vs:=[I 3,I so,I od,I sz]) (rdr 0 Z) bg Z eQ Z Z (ak Z) Z)<|wa (aC bCd Z (Ct.fresh (λw hw=>bBx ((ao.c _) w hw) (bh.c hw) hp cv hN hex))) ?_;rintro _ _⟨_,rfl,en,es,rfl,rfl⟩;refine wm Z<|wX Z Z<|wX Z Z<|wg Z<|wn Z<|wq<|wy (bM (vs:=[sl Au 0 cu,sl ar ws.length aw]) (rdr 2 Z) dm Z pJ Z Z (ak Z) Z)<|wy (bM (vs:=[I 3,I so,I od,I sz]) (rdr 1 Z) bg Z eQ Z Z (ak Z) Z)<|wa (aC bHk Z (Ct.fresh (λw hw=>aSf ((ao.c _) w hw) (bh.c hw) hp cv hN hex))) ?_;rintro _ _⟨_,rfl,fm,kx,rfl,rfl⟩;refine wm Z<|wX Z Z<|wX Z Z<|wg Z<|wn Z<|aD<|bF mixed<|wD 0 Z (aJ Z)<|wD 1 Z (lX af bn ym Z (rdr 1 Z))<|wD 2 Z (aJ Z)<|wD 3 Z (lX af bn ym Z (rdr 0 Z))<|wD 4 Z (Yl.t (QI Z Z (NU hp.1 hp.2.1 (λw hw=>((bh.okB) w hw).1) cv hex hN G) (NU hp.1 hp.2.1 (λw hw=>((bh.okB) w hw).1) cv hex hN G)) (Z))<|wD 5 Z (aJ Z)<|wG 6 Z Z Z (aJ Z) ?_;refine wG 7 Z Z Z (aJ Z)<|wG 8 Z Z Z (Yl.t (fD Z Z) cC)<|wD 9 Z (aS Z Z)<|wD 10 Z (aJ Z)<|wG 11 Z Z Z (bM (vs:=[I 3,I so,I od,I sz]) (rdr 2 Z) bg Z eQ Z Z (ak Z) Z)<|wG 13 Z Z Z (bM (vs:=[I 3,I so,I od,I sz]) (rdr 2 Z) bg Z eQ Z Z (ak Z) Z)<|rU 12 Z cA Z Z Z (aC WF Z (Ct.quiet (λw hw=>yU))) ?_;rintro _ _⟨rfl,rfl⟩;refine⟨.inr hiZ,?_⟩;refine rU 14 Z cA Z Z Z (aC aOf Z (Ct.quiet (λw hw=>tJ))) ?_;rintro _ _⟨rfl,rfl⟩;refine⟨.inr hiZ,?_⟩;refine wG 15 Z Z Z (Yl.t (aPv za Z Z) (Z))<|wD 16 Z (aS Z Z)<|wD 17 Z (aJ Z)<|rU 18 Z cA Z Z Z (aC bHi Z (Ct.quiet (λw hw=>zX))) ?_;rintro _ _⟨rfl,rfl⟩;refine⟨.inr hiZ,?_⟩;refine wD 19 Z (aS Z Z)<|wD 20 Z (bB Z)<|wN<|aT [] 99 cC Z ?_;refine⟨_,Z,?_⟩;rfl
theorem OV (ac:Rd w ap bl an 1 (ints .u8 u)) (ao:Rd w ar bo aw 1 al) (bh:SlW .u8 w al ws) (Pf:u.length<=140737488355327) (wt: ¬(((0<=k/\k<=3)/\(0<=so/\so<=2)/\(od=0\/od=1)/\(1<=sz/\sz<=16777216))/\(k≠3->ws.length=0)/\(k=3->u.length=0)/\ ¬eO ws)):
  CF 4 #[.agg #[sl ap u.length an,sl ar ws.length aw], .agg #[I k,I so,I od,I sz]] w (λv R'=>v=bt):=by
 obtain rfl:=ac.lenI;obtain rfl:bo=ws.length:=by have:=ao.len;have:=bh.1;omega
 refine fn1 Tryz.func4 Z Z Z ?_;have kc:=ac.max;have kh:=ao.max;refine wq<|wa (cB (sz:=2) Z Z) ?_;rintro _ _⟨aq,rfl,rfl⟩;refine wa (cB (sz:=4) Z Z) ?_;rintro _ _⟨cy,rfl,rfl⟩;refine wn Z<|aD<|wq<|wy (bM (vs:=[sl ap u.length an,sl ar ws.length aw]) (rdr 1 Z) dm Z pJ Z Z (ak Z) Z)<|wa (aC bHj Z (Ct.quiet (λw hw=>FZ (u:=u) (ws:=ws) ((ac.c _) w hw) ((ao.c _) w hw) (bh.c hw) Pf))) ?_;rintro _ _⟨rfl,b1,rfl,vl⟩;refine aA<|bA Z (λba=> ?_) (λba=> ?_)
 ·refine wq<|wn Z<|aT [] 99 cC Z ?_;refine⟨_,Z,?_⟩;rfl
 ·have Jz:=vl (by cases b1 with|false=>rfl|true=>exact absurd rfl ba);have hN:ws.flatten.length<=400/\ws.length<=400/\u.length<=400:=⟨G,G,G⟩;refine aI<|wq<|wy (bM (vs:=[sl ap u.length an,sl ar ws.length aw]) (rdr 1 Z) dm Z pJ Z Z (ak Z) Z)<|wy (bM (vs:=[I k,I so,I od,I sz]) (rdr 0 Z) bg Z eQ Z Z (ak Z) Z)<|wa (aC bCd Z (Ct.quiet (λw hw=>bBy ((ac.c _) w hw) ((ao.c _) w hw) (bh.c hw) wt hN))) ?_;rintro _ _⟨rfl,rfl⟩;refine wm Z<|wX Z Z<|wX Z Z<|wg Z<|wn Z<|wq<|wy (bM (vs:=[sl ap u.length an,sl ar ws.length aw]) (rdr 1 Z) dm Z pJ Z Z (ak Z) Z)<|wy (bM (vs:=[I k,I so,I od,I sz]) (rdr 0 Z) bg Z eQ Z Z (ak Z) Z)<|wa (aC bHk Z (Ct.quiet (λw hw=>aSg ((ac.c _) w hw) ((ao.c _) w hw) (bh.c hw) wt hN))) ?_;rintro _ _⟨rfl,rfl⟩;refine wm Z<|wX Z Z<|wX Z Z<|wg Z<|wn Z<|aD<|bF mixed<|wD 0 Z (aJ Z)<|wD 1 Z (lX af bn ym Z (zR _))<|wD 2 Z (aJ Z)<|wD 3 Z (lX af bn ym Z (zR _))<|wD 4 Z (Yl.t (QI Z Z aN.nil aN.nil) (Z))<|wD 5 Z (aJ Z)<|wG 6 Z Z Z (aJ Z) ?_;refine wG 7 Z Z Z (aJ Z)<|wG 8 Z Z Z (Yl.t (fD Z Z) cC)<|wD 9 Z (aS Z Z)<|wD 10 Z (aJ Z)<|wG 11 Z Z Z (bM (vs:=[I k,I so,I od,I sz]) (rdr 0 Z) bg Z eQ Z Z (ak Z) Z)<|wG 13 Z Z Z (bM (vs:=[I k,I so,I od,I sz]) (rdr 0 Z) bg Z eQ Z Z (ak Z) Z)<|rU 12 Z cA Z Z Z (aC WF Z (Ct.quiet (λw hw=>yU))) ?_;rintro _ _⟨rfl,rfl⟩;refine⟨.inr hiZ,?_⟩;refine rU 14 Z cA Z Z Z (aC aOf Z (Ct.quiet (λw hw=>tJ))) ?_;rintro _ _⟨rfl,rfl⟩;refine⟨.inr hiZ,?_⟩;refine wG 15 Z Z Z (Yl.t (aPv za Z Z) (Z))<|wD 16 Z (aS Z Z)<|wD 17 Z (aJ Z)<|rU 18 Z cA Z Z Z (aC bHi Z (Ct.quiet (λw hw=>zX))) ?_;rintro _ _⟨rfl,rfl⟩;refine⟨.inr hiZ,?_⟩;refine wD 19 Z (aS Z Z)<|wD 20 Z (bB Z)<|wN<|aT [] 99 cC Z ?_;refine⟨_,Z,?_⟩;rfl
theorem boxEncodes_ct (ac:Rd w ap bl an 1 (ints .u8 u)) (am:aN u) (Pf:u.length<=140737488355327) (ao:Rd w ar bo aw 1 al) (bh:SlW .u8 w al ws):
  CF 4 #[.agg #[sl ap bl an,sl ar bo aw], .agg #[I k,I so,I od,I sz]] w (λv R'=>v=bt):=by
 obtain rfl:=ac.lenI;obtain rfl:bo=ws.length:=by have:=ao.len;have:=bh.1;omega
 by_cases hg:(((0<=k/\k<=3)/\(0<=so/\so<=2)/\(od=0\/od=1)/\(1<=sz/\sz<=16777216))/\(k≠3->ws.length=0)/\(k=3->u.length=0)/\ ¬eO ws)
 ·obtain ⟨h1,h2,h3,h4⟩:=hg;by_cases hk:k=3
  ·subst hk;obtain rfl:u=[]:=dw (h3 rfl);exact OT ao bh h1.2 h4
  ·obtain rfl:ws=[]:=dw (h2 hk);exact OU ac am Pf h1.2 G
 ·exact OV ac ao bh Pf hg
end Go.Proofs.YtdbebmmhdefgdaaGreat
namespace Go.Eng
open Go Go.ChangeShapes Go.WideShapes Go.RowKit
section
variable {H:Type} {enc:TypeId × Value->H} {P:Program} {w:World} {base:Nat} {held:Bool}
theorem aLf {t:TypeId} {f0 f1:Field} {ts:List TypeId} {ds:List (DataW H)} {y0 y1:DataW H} (h:(DataW.weightsEach P (t::ts) (.agg [y0,y1]::ds)).all (· <=reachBytes)=true) (hu:P.underlying t=some (.struct #[f0,f1])):(DataW.weightsEach P [f0.type,f1.type] [y0,y1]).all (· <=reachBytes)=true:=by
 simp only[DataW.weightsEach,DataW.weights,hu,List.all_append,qi] at h;exact h.1
theorem aDo {e t0 t1:TypeId} {k:IntKind} {zs rs:AH} {y1:DataW H} (h:(DataW.weightsEach P [t0,t1] [.slice (lits k zs) (lits k rs),y1]).all (· <=reachBytes)=true) (hu:P.underlying t0=some (.slice e)) (hb:Nat.ble 1 (P.bytesOf e)=true):zs.length<=140737488355327:=by
 simp only[DataW.weightsEach,DataW.weights,hu,List.all_append,qi,Ec] at h;have hw:=yu h.1.1;have u4:=ak hb;have Zu:=reachBytes_lt;have hl:((lits k zs:List (DataW H)).length)=zs.length:=by simp[lits]
 rw[hl] at hw;have:zs.length*1<=(zs.length+(lits k rs:List (DataW H)).length)*P.bytesOf e:=Bh G u4;omega
theorem pay_open {t e0 e1:TypeId} {f0 f1:Field} {v:Value} {d:DataW H} {p:List MemPlace} {ts:List TypeId} {ds:List (DataW H)} {r:Reach} {b0:Nat} (hs:P.underlying t=some (.struct #[f0,f1])) (Zk:Go.Deep.oneCellFields P #[f0,f1]=true) (hC:P.cellsOf t=2) (hv:Value.okWide P w r b0 t v) (h:DataW.Trod enc P w base (λ_=>true) held t v d p) (hsz:(DataW.weightsEach P (t::ts) (d::ds)).all (· <=reachBytes)=true)
  (t0:P.underlying f0.type=some (.slice e0)) (h8:P.underlying e0=some (.int .u8)) (t1:P.underlying f1.type=some (.slice e1)) (te:P.underlying e1=some (.slice e0)) (c0:P.cellsOf e0=1) (c1:P.cellsOf e1=1) (hb:Nat.ble 1 (P.bytesOf e0)=true):
  ∃(A A':AF) (c c':Nat) (u:AH) (vals:AG) (ws:AD),v= .agg #[.slice A u.length c, .slice A' ws.length c']/\Rd w A u.length c 1 (ints .u8 u)/\(∀x∈u,(Lit.int .u8 x).wf=true)/\u.length<=140737488355327/\Rd w A' ws.length c' 1 vals/\SlW .u8 w vals ws:=by
 obtain⟨v0,v1,y0,y1,n,rfl,rfl,_,h0,h1⟩:=Go.Joins.open_agg2 hs Zk hC hv h;have hz:=aLf hsz hs
 obtain⟨A,c,u,rfl,k1,k2,k3⟩: ∃(A:AF) (c:Nat) (u:AH),v0= .slice A u.length c/\Rd w A u.length c 1 (ints .u8 u)/\(∀x∈u,(Lit.int .u8 x).wf=true)/\u.length<=140737488355327:=by
  rcases open_ints t0 h8 c0 h0 with⟨ke,_⟩|⟨x,l,cp,zs,ke,_,hl,hm,hq,hx,vd,hwz⟩
  ·simp only[Ew,Aj] at ke;subst ke;exact⟨none,0,[],rfl,aZu _,(λ_ h=>by cases h),cC⟩
  ·simp only[Ew,Aj] at ke;subst ke;subst hx;obtain⟨u,e,g1,g2⟩:=aZt hl hm (by simpa using hq) vd hwz;have Ft:=aDo hz t0 hb;rw[ax] at Ft;have Ql:zs.length=cp:=by simpa using hq
   subst e;exact⟨_,_,u,rfl,g1,g2,G⟩
 obtain⟨A',c',vals,ws,rfl,k4,k5⟩: ∃(A:AF) (c:Nat) (vals:AG) (ws:AD),v1= .slice A ws.length c/\Rd w A ws.length c 1 vals/\SlW .u8 w vals ws:=by
  rcases Go.Deep.open_int_rows t1 te h8 c1 c0 h1 with⟨ke,_⟩|⟨x,l,c,A,L,C,Z,ke,_,hl,hm,hx,hr⟩
  ·simp only[Ew,Aj] at ke;subst ke;exact⟨none,0,[],[],rfl,⟨cD,cD,cD,λj v hv=>by simp at hv⟩,gD _ _⟩
  ·simp only[Ew,Aj] at ke;subst ke;subst hx;obtain⟨vals,ws,e,g1,g2⟩:=aQx hl hm hr λr Zu=>aLe hz (j:=1) (t:=f1.type) (e:=e1) (q:=e0) rfl rfl t1 te hb Zu (by have:=hr r G;rw[this.2.2.2.1];exact this.2.1) (λhA=>by have:=hr r G;rw[this.2.2.2.1];exact this.2.2.2.2.2.1 hA);subst e;exact⟨_,_,vals,ws,rfl,g1,g2⟩
 exact⟨A,A',c,c',u,vals,ws,rfl,k1,k2,k3,k4,k5⟩
end
end Go.Eng
