/- Own work. -/
import Derived.Tactics
import Derived.Tactics2
import Derived.Defers
import Derived.Laws.Pointers
import Derived.Laws.LoneSync
import Derived.RegionTactic
import Derived.RegionCalls
import Derived.ChangeAlike
import Derived.Ground.SlsfProg
import Derived.Shelf.SlSortCmp.WholeK
import Derived.Test.YtkfngcfpmilfiaaGreatProg
import Derived.Shelf.Bits.Mul64
import Derived.Shelf.SlSortCmp.NoneTotal
import Derived.Shelf.Small.Bits
import Derived.Ground.NamesProg
import Derived.Ground.Names2Prog
import Derived.Shelf.Sort.Plain
import Derived.Shelf.Slices.SearchI
import Derived.Shelf.Slices.In.SortNone
import Derived.Shelf.Slices.Empties
import Derived.Test.YtkfngcfpmilfiaaGreatZe4
set_option linter.unusedVariables false
set_option linter.unusedSimpArgs false
set_option maxHeartbeats 8000000
namespace Go.Proofs.YtkfngcfpmilfiaaGreat
open Go Go.Eng Go.Pure
open Tryz
set_option maxRecDepth 100000
section
variable {w:World} {n i j k:Int} {dt:AF} {ju dq:Nat} {s:AH}
theorem oQ {r:Int} (m:0<=r/\r<=2) (hn:0<=n/\n<=1000000):
  CF 254 #[I n,I r] w (λv R'=> ∃A c,v=sl A (plc n.toNat r.toNat).length c/\R'=[(ri 3 A ((plc n.toNat r.toNat).length) c (plc n.toNat r.toNat))]):=by
 refine fn1 func254 Z Z Z<|aD Z<|wq<|dX (ri 3 none 0 0 ([]))<|aB Z<|aA<|aD Z<|aF<|nX (λ(A1:AF) (a:Nat) (c1:Nat) (a1:AH) (i:Int) (k:Nat)=>[(0,I n),(5,sl A1 a c1),(6,I i)]) (λA1 a c1 a1 i k=>[(ri 3 A1 a c1 a1)]) (λA1 a c1 a1 i k=>(a=a1.length)/\(i=r+3*k)/\(a1=XX r.toNat k)/\(r+3*(k:Int)<n+3)) (λA1 a c1 a1 i k=>(n-i).toNat) ?_ ?_
 ·exact⟨none,0,0,[],r,0,⟨(Z),G,(Z),G⟩,KP⟩
 intro A1 a c1 a1 i k ⟨d,hi,b,hk⟩;have j:=bi List.length b;rw[aGu] at j;refine aA<|aD Z<|aR Z ?_ ?_<;>intro ap
 ·exact aG<|aA<|aF<|aT 2 Z<|aX (bG .i64 [i] ak zs3 Z Z Z) λl=>dG (aO 1 Z ak zb3 Z Z Z (rdr 0 Z)) λe g=>bC (v:=sl e (a+1) g) Z<|aB Z<|aT 1 Z<|wA Z Z<|aB Z<|⟨e,a+1,g,a1++([i]),i+3,(k+1),⟨(by simp only[aa,d];try rfl),G,(by rw[aVk,<-b,show(r.toNat:Int)+3*(k:Int)=i by omega]),G⟩,G,SA,λ_ h=>h.sel [1] cC Z⟩
 refine aP<|aD Z<|aL [0] 99<|⟨_,Z,?_⟩;obtain rfl:k=(n.toNat+2-r.toNat)/3:=G
 subst b;obtain rfl:=d;exact⟨_,_,Z,Z⟩
theorem aGa (hn:0<=n/\n<=100000):
  CF 286 #[I n] w (λv R'=> ∃A c,v=sl A (smp n.toNat).length c/\R'=[(ri 3 A ((smp n.toNat).length) c (smp n.toNat))]):=by
 refine fn1 func286 Z Z Z<|aD Z<|aA<|aK 3 Z<|bD 3 [0] 8 (.bool (decide ((n<0)\/(100000<n)))) Z ?_ ?_
 ·refine bB 5 Z ?_ ?_<;>intro ap
  ·exact aB Z<|KP
  exact aB Z<|KP
 refine pW 8 Z G<|aJ<|aM Z<|aG<|aK 1 Z<|bZ aBd Z (λw j=>oQ cE G) λb a=>gW (R1:=[(ri 3 b ((plc n.toNat 1).length) a (plc n.toNat 1))]) Z<|bC (v:=sl b ((plc n.toNat 1).length) a) Z<|wm Z<|bZ aBd Z (λw j=>oQ cE G) λd g=>gW (R1:=[(ri 3 d ((plc n.toNat 2).length) g (plc n.toNat 2)),(ri 3 b ((plc n.toNat 1).length) a (plc n.toNat 1))]) Z<|bC (v:=sl d ((plc n.toNat 2).length) g) Z<|dG (aO 1 Z ak zb3 Z Z Z (rdr 0 Z) (by have:=lX n.toNat 1;have:=lX n.toNat 2;omega)) λi h=> ?_;refine gW (R1:=[(ri 3 d ((plc n.toNat 2).length) g (plc n.toNat 2)),(ri 3 i (((plc n.toNat 1).length)+((plc n.toNat 2).length)) h ((plc n.toNat 1)++(plc n.toNat 2)))]) Z<|bC (v:=sl i (((plc n.toNat 1).length)+((plc n.toNat 2).length)) h) Z<|aB Z<|aL [1] 99<|⟨_,Z,?_⟩;have e:(plc n.toNat 1).length+(plc n.toNat 2).length=(smp n.toNat).length:=(aa ..).symm;rw[e];exact⟨_,_,Z,Z⟩
theorem BN {s:AH} (a:R5 w dt ju dq s) (hi:0<=i) (hs: ∀x∈s,0<=x/\x<=1000000):
  CF 288 #[sl dt ju dq,I i] w (λv R'=>v=I (kC s i)):=by
 obtain rfl:=a.lenI;refine fn1 func288 Z Z Z<|aD Z<|aA<|aD Z<|aR Z ?_ ?_<;>intro ap
 ·refine aD Z<|aS<|⟨_,Z,?_⟩;exact bi (Value.int .i64) (by unfold kC;rw[cz G])
 have b:=hs _ (bM (L:=s) hi G);refine aG<|aK 2 Z<|wy (aC ak sz3 Z Z (a.c _))<|wy (aQ av Z Z (a.c _))<|wA Z Z<|aB Z<|aS<|⟨_,Z,?_⟩;exact bi (Value.int .i64) (by unfold kC;rw[bq G])
theorem aAq {s:AH} {b:Int} (d:R5 w dt ju dq s) (hb:0<=b/\b<=2) (hs: ∀x∈s,0<=x/\x<=1000000) (o:s.length<=1000000):
  CF 256 #[sl dt ju dq,I b] w (λv R'=> ∃A c,v=sl A (s.length) c/\R'=[(ri 3 A s.length c (jC s b))]):=by
 obtain rfl:=d.lenI;refine fn1 func256 Z Z Z<|aD Z<|aK 2 Z<|aX (dU ak zb3 Z Z) λa=>bC (v:=sl (GG a) s.length s.length) Z<|aB Z<|aA<|aD Z<|aF<|dF (λ(i:Int) (V:AH)=>[(0,sl dt s.length dq),(1,I b),(5,sl (GG a) s.length s.length),(11,I (s.length:Int)),(12,I i)]) (λi V=>[(ri 3 (GG a) s.length s.length V)]) (λi V=>(0<=i)/\(i<=s.length)/\(V.length=s.length)/\(∀j:Int,0<=j->j<i->rd V j=kC s (j+b))) (λi V=>(s.length-i).toNat) ?_ ?_
 ·exact⟨0,List.replicate s.length (0:Int),⟨G,G,(by rw[df]),(λj h1 k=>G)⟩,KP⟩
 intro i V ⟨h,m,g,e⟩;refine aD Z<|aA<|aR Z ?_ ?_<;>intro ap
 ·exact aG<|aA<|aF<|aD Z<|aT 5 Z<|wA Z Z<|dZ aJa Z (λw l=>BN ((d.c _) w l) G cE)<|wy (aC ak sz3 Z Z (rdr 0 Z))<|bN (bJ 0 Z sz3 Z Z)<|aJ<|bK<|wA Z Z<|aB Z<|⟨i+1,upd V i (kC s (i+b)),⟨G,G,(by rw[aW];exact g),(gG (f:=λj=>kC s (j+b)) h G e Z)⟩,G,KP⟩
 refine aP<|aD Z<|aL [0] 99<|⟨_,Z,?_⟩;obtain rfl:V=jC s b:=bEj g (λj h1 k=>e j h1 G);exact⟨_,_,Z,Z⟩
theorem aPl {s:AH} (a:R5 w dt ju dq s) (hi:0<=i/\i<=1000000) (m:0<=j/\j<=1000000) (hs: ∀x∈s,0<=x/\x<=1000000):
  CF 287 #[sl dt ju dq,I i,I j] w (λv R'=>v= .bool (decide (YG s i j))):=by
 obtain rfl:=a.lenI;refine fn1 func287 Z Z Z<|aD Z<|aA<|aD Z<|aF<|iK (λ(b:Int)=>[(0,sl dt s.length dq),(1,I i),(2,I j),(8,I b)]) (λb=>[]) (λb=>(0<=b)/\(b<=3)/\(∀c:Int,0<=c->c<b->kC s (i+c)=kC s (j+c))) (λb=>(3-b).toNat) ?_ ?_
 ·exact⟨0,⟨G,G,(λc h1 h=>G)⟩,KP⟩
 intro b ⟨k,l,hk⟩;refine aD Z<|aA<|aR Z ?_ ?_<;>intro ap
 ·refine aG<|aA<|aF<|aD Z<|aK 3 Z<|wA Z Z<|dZ aJa Z (λw d=>BN ((a.c _) w d) G cE)<|bH 3 Z<|wA Z Z<|dZ aJa Z (λw d=>BN ((a.c _) w d) G cE)<|aB Z<|aR Z ?_ ?_<;>intro e
  ·refine aD Z<|aS<|⟨_,Z,?_⟩;exact bi Value.bool (mo (bIk k G e)).symm
  exact aG<|bK<|wA Z Z<|aB Z<|⟨b+1,⟨G,G,(λc h1 h=>(bz c b).elim (hk c h1) λg=>by rw[show c=b by omega];exact pg.1 e)⟩,G,KP⟩
 refine aP<|aD Z<|aS<|⟨_,Z,?_⟩;exact bi Value.bool (nz (bOa λc h1 h=>hk c h1 G)).symm
theorem aVx {s:AH} {h:AF} {a k:Nat} {rk:AH} {o:AH} (l:R5 w dt ju dq s) (b:R5 w h a k rk) (hR:RkO s o rk) (hi:(0<=i/\i<s.length)/\i%3≠0) (m:(0<=j/\j<s.length)/\j%3=0) (hs: ∀x∈s,0<=x/\x<=1000000) (F:s.length<=1000000):
  CF 257 #[sl dt ju dq,sl h a k,I i,I j] w (λv R'=>v= .bool (decide (cmpL (s.drop i.toNat) (s.drop j.toNat)<0))):=by
 obtain rfl:=l.lenI;obtain rfl:=b.lenI;refine fn1 func257 Z Z Z ?_;have nn:Nn s:=λx B=>(hs x B).1;refine aD Z<|aF<|gX (λ(p:Int) (q:Int) (c:Nat)=>[(0,sl dt s.length dq),(1,sl h rk.length k),(2,I p),(3,I q)]) (λp q c=>[]) (λp q c=>(p=i+c)/\(q=j+c)/\(EqH c (eu s i.toNat) (eu s j.toNat))/\(c=0\/c=1/\i%3=2)) (λp q c=>2-c) ?_ ?_
 ·exact⟨i,j,0,⟨G,G,(λd H=>G),(.inl rfl)⟩,KP⟩
 intro p q c ⟨hp,y,u,hc⟩;have A:c<=1:=G
 have J:=hR.len;refine aF<|aA<|aK 2 Z<|dZ aJa Z (λw r=>BN ((l.c _) w r) G cE)<|bH 2 Z<|dZ aJa Z (λw r=>BN ((l.c _) w r) G cE)<|aB Z<|aD Z<|aR Z ?_ ?_<;>intro ap
 ·refine aD Z<|aS<|⟨_,Z,?_⟩;exact bi Value.bool (sw.2 (by subst hp y;rw[jK];exact bEb nn hi.1.1 m.1.1 u ap))
 have e:=bMc nn hi.1.1 m.1.1 u (by rw[<-hp,<-y];exact pg.1 ap);refine aG<|aK 1 Z<|wA Z Z<|wm Z<|wA Z Z<|aB Z<|aK 1 Z<|wy (uF Z Z)<|bH 2 Z<|bD 4 [0,1,2,3] 34 (.bool (decide ((((p+1)%3)≠0)/\(((q+1)%3)≠0)))) Z ?_ ?_
 ·refine bB 30 Z ?_ ?_<;>intro C
  ·exact bH 1 Z<|aN Z Z<|wy (uF Z Z)<|aB Z<|KP
  exact aB Z<|KP
 refine aJ<|aR Z ?_ ?_<;>intro D
 ·have g:=aVw hR hi.1 m.1 G e G G;rw[show i+((c+1:Nat):Int)=p+1 by omega,show j+((c+1:Nat):Int)=q+1 by omega] at g;refine aA<|bE mixed<|bF 0 4 Z<|wD 4 Z (pQ Z Z)<|wD 5 Z (aC ak sz3 Z Z (b.c _))<|wD 6 Z (aQ av Z Z (b.c _))<|bF 7 4 Z<|wD 11 Z (pQ Z Z)<|wD 12 Z (aC ak sz3 Z Z (b.c _))<|wD 13 Z (aQ av Z Z (b.c _))<|bF 14 2 Z<|wN<|aS<|⟨_,Z,?_⟩;exact bi Value.bool (sw.2 (by rw[jK,Gq g.1.1,Gq g.1.2];exact g.2))
 exact aG<|⟨p+1,q+1,(c+1),⟨G,G,(e),G⟩,G,KP⟩
theorem XW {w:World} {s:AH} (da:R5 w dt ju dq s) (IH: ∀ {w:World} {tk:AF} {wk tz:Nat} {t:AH} {j:Int},R5 w tk wk tz t->t.length<s.length->((0<=j/\j<=1000000)/\ ∀x∈t,0<=x/\x<j)->t.length<=100000->CF 236 #[sl tk wk tz,I j] w (λv R'=> ∃(b:AH) (A:AF) (c:Nat),v=sl A t.length c/\b.Perm (iota t.length)/\b.Pairwise (dA t)/\R'=[(ri 3 A t.length c b)])) (T:(0<=k/\k<=1000000)/\ ∀x∈s,0<=x/\x<k) (hN:s.length<=100000) (h2:2<=s.length):
  CF 255 #[sl dt ju dq,I k] w (λv R'=> ∃(o V:AH) (A A':AF) (c c' m:Nat),v= .tuple #[sl A o.length c,sl A' m c']/\m=V.length/\RkO s o V/\(∀(B:Nat) (w0 w:World),Hp B w0 w R'->Rd w A o.length c 1 (ints .i64 o))/\ ∀(B:Nat) (w0 w:World),Hp B w0 w R'->Rd w A' V.length c' 1 (ints .i64 V)):=by
 obtain rfl:=da.lenI;refine fn2 func255 Z Z Z ?_;have nn:Nn s:=λx hx=>(T.2 x hx).1;have j5: ∀x∈s,0<=x/\x<=1000000:=λx hx=>by have:=T.2 x hx;omega
 have lp1:=lX s.length 1;have lp2:=lX s.length 2;have lsm:=JE s.length;refine wq<|dX (ri 3 none 0 0 ([]))<|aB Z<|aK 2 Z<|bZ bWk Z (λw P=>aGa G) λcv cr=>bC (v:=sl cv ((smp s.length).length) cr) Z<|aB Z<|aD Z<|aA<|aD Z<|aF<|zU (λ(b:Int) (A1:AF) (Y:Nat) (c1:Nat) (O:AH) (J:AF) (n6:Nat) (N:Nat) (j:Nat) (Rs:List Row)=>[(0,sl dt s.length dq),(1,I k),(4,sl A1 Y c1),(6,sl J n6 N),(7,I b)]) (λb A1 Y c1 O J n6 N j Rs=>((ri 3 none 0 0 ([]))::Rs)) (λb A1 Y c1 O J n6 N j Rs=>(b=2-j)/\(j<=3)/\(O=bRj s k j)/\(Y=O.length)/\(n6=(smp s.length).length)/\(∀(B:Nat) (w0 w:World),Hp B w0 w Rs->R5 w A1 Y c1 O)/\(∀(B:Nat) (w0 w:World),Hp B w0 w Rs->Rd w J n6 N 1 (ints .i64 (smp s.length)))) (λb A1 Y c1 O J n6 N j Rs=>(b+1).toNat) ?_ ?_
 ·exact⟨2,cv,(smp s.length).length,cr,(smp s.length),cv,(smp s.length).length,cr,0,((ri 3 cv ((smp s.length).length) cr (smp s.length))::[]),⟨G,G,(Z),(Z),(Z),(λB w0 w h=>rdr 0 Z w h),(λB w0 w h=>rdr 0 Z w h)⟩,SA,λ_ h=>h.selR (F:=[_,_]) (F':=[_,_]) [1,0] cC Z⟩
 intro b A1 Y c1 O J n6 N j Rs ⟨hj,hj3,hO,bx,Zw,h4,h6⟩;have C:=ME T.2 T.1.1 j hj3;rw[<-hO] at C;have hOl:=C.length_eq;rw[JE] at hOl;refine aA<|aD Z<|aR Z ?_ ?_<;>intro ap
 ·have xt:0<=b/\b<=2:=G
  have yp:O.length=(dN O (jC s b) (k+1).toNat).length:=((tO T.2 T.1.1 xt.1 (λx hx=>qR (C.subset hx))).length_eq).symm;refine aG<|aA<|aF<|aT 3 Z<|bZ bPk Z (λw P=>aAq ((da.c _) w P) G j5 G) λdr du=>wm Z<|wA Z Z<|bZ WF Z (λw P=>yR ((λ_ h=>h4 _ _ _ (h.right (R':=[_,_]))) w P) ((rdr 0 Z) w P) G (aIa T.2 T.1.1 G) (λx hx=>by have:=qR (C.subset hx);rw[MV];omega) G) λkm nj=> ?_;exact aB Z<|aT 1 Z<|wS Z Z<|aB Z<|⟨b-1,km,(O).length,nj,(dN O (jC s b) (k+1).toNat),J,n6,N,(j+1),((ri 3 km ((O).length) nj (dN O (jC s b) ((k+1)).toNat))::Rs),⟨G,G,(by rw[hO,hj];rfl),(yp),(Zw),(λB w0 w h=>rdr 0 Z w h),(λB w0 w h=>h6 B w0 w h.tail)⟩,G,SA,λ_ h=>h.selR (F:=[_,_,_]) (F':=[_,_]) [2,0] cC Z⟩
 have hO3:O=bRk s k:=by rw[hO,show j=3 by omega];rfl
 have hOs:=aLk T.2 T.1.1;rw[<-hO3] at hOs;refine aP<|aK 2 Z<|wA Z Z<|aX (dU ak zb3 Z Z) λD=>bC (v:=sl (GG D) (((s.length:Int)+3).toNat) (((s.length:Int)+3).toNat)) Z<|aB Z<|aD Z<|aA<|aD Z<|aF<|gX (λ(q:Int) (n:Int) (V:AH)=>[(0,sl dt s.length dq),(4,sl A1 Y c1),(5,sl (GG D) (((s.length:Int)+3).toNat) (((s.length:Int)+3).toNat)),(6,sl J n6 N),(8,I n),(43,sl A1 Y c1),(44,I (Y:Int)),(45,I q)]) (λq n V=>((ri 3 (GG D) (((s.length:Int)+3).toNat) (((s.length:Int)+3).toNat) V)::(ri 3 none 0 0 ([]))::Rs)) (λq n V=>(0<=q)/\(q<=O.length)/\(RkI s O V q n)) (λq n V=>(O.length-q).toNat) ?_ ?_
 ·exact⟨0,0,List.replicate (((s.length:Int)+3).toNat) (0:Int),⟨G,G,(by rw[show((s.length:Int)+3).toNat=s.length+3 by omega];exact bBh)⟩,KP⟩
 intro q n V ⟨l,o6,hI⟩;have oc:=hI.len;have hnq:=hI.nq;have Rb:=hI.n0;refine aD Z<|aA<|aR Z ?_ ?_<;>intro bp
 ·have S:0<=q-> ∀p:Int,0<=p->p<O.length->0<=rd O p/\rd O p<s.length:=λ_ p a b=>qR (C.subset (bM a b));refine aG<|aA<|aF<|aK 1 Z<|wy (aC ak sz3 Z Z (λ_ h=>h4 _ _ _ (h.right (R':=[_,_]))))<|wy (aQ av Z Z (λ_ h=>h4 _ _ _ (h.right (R':=[_,_]))))<|aB Z<|aA<|aK 3 Z<|bD 10 [0,4,5,6,8,10,43,44,45] 62 (.bool (decide ((q=0)\/(¬(YG s (rd O (q-1)) (rd O q)))))) Z ?_ ?_
  ·refine bB 52 Z ?_ ?_<;>intro db
   ·exact aB Z<|KP
   refine bH 3 Z<|aN Z Z<|wS Z Z<|aN Z Z<|wy (aC ak sz3 Z Z (λ_ h=>h4 _ _ _ (h.right (R':=[_,_]))))<|aN Z Z<|wy (aQ av Z Z (λ_ h=>h4 _ _ _ (h.right (R':=[_,_]))))<|bH 1 Z<|aN Z Z<|dZ bWj Z (λw P=>aPl ((da.c _) w P) (by have:=S l (q-1) G G;omega) (by have:=S l q G G;omega) j5) ?_;exact aN Z Z<|wy (pO Z)<|aB Z<|KP
  refine aJ<|aR Z ?_ ?_<;>intro dj
  ·refine aT 1 Z<|wA Z Z<|aB Z<|aT 3 Z<|wy (aC ak sz3 Z Z (rdr 0 Z) (by have:=S l q G G;omega) (by have:=S l q G G;omega)) ?_;refine bN (bJ 0 Z sz3 Z Z (by have:=S l q G G;omega) (by have:=S l q G G;omega)) ?_;exact aJ<|bK<|wA Z Z<|aB Z<|⟨q+1,n+1,upd V (rd O q) (n+1),⟨G,G,(hI.step C l G (.inl ⟨Z,bSq nn C hOs l G dj⟩))⟩,G,KP⟩
  refine aG<|aT 3 Z<|wy (aC ak sz3 Z Z (rdr 0 Z) (by have:=S l q G G;omega) (by have:=S l q G G;omega)) ?_;refine bN (bJ 0 Z sz3 Z Z (by have:=S l q G G;omega) (by have:=S l q G G;omega)) ?_;exact aJ<|bK<|wA Z Z<|aB Z<|⟨q+1,n,upd V (rd O q) n,⟨G,G,(hI.step C l G (.inr ⟨Z,bSn nn C l G dj⟩))⟩,G,KP⟩
 have hIe:RkI s O V O.length n:=by have e:q=O.length:=G;rw[<-e];exact hI
 refine aP<|aA<|aD Z<|aR Z ?_ ?_<;>intro ff
 ·refine aD Z<|aL [0] 2<|⟨_,_,Z,Z,?_⟩;obtain rfl:=bx;have Ym:((s.length:Int)+3).toNat=V.length:=by have:=hIe.len;omega
  exact⟨O,V,_,_,_,_,_,Z,Ym,hIe.all C G,λB w0 w h=>h4 B w0 w h.tail,λB w0 w h=>by rw[<-Ym];exact rdr 0 rfl w h⟩
 have hF:=hIe.done C;have h4l:4<=s.length:=Hq.1 λg=>ff (by have:=hIe.short C h2 G;omega);refine aG<|aK 2 Z<|bZ aBd Z (λw P=>oQ cE G) λfk fc=>bC (v:=sl fk ((plc s.length 1).length) fc) Z<|aB Z<|wq<|dX (ri 3 none 0 0 ([]))<|aB Z<|aA<|aD Z<|aF<|eT (λ(A2:AF) (Q:Nat) (c2:Nat) (a2:AH) (i:Int)=>[(0,sl dt s.length dq),(5,sl (GG D) (((s.length:Int)+3).toNat) (((s.length:Int)+3).toNat)),(6,sl J n6 N),(8,I n),(11,sl fk ((plc s.length 1).length) fc),(12,sl A2 Q c2),(79,sl fk ((plc s.length 1).length) fc),(80,I (((plc s.length 1).length:Nat):Int)),(81,I i)]) (λA2 Q c2 a2 i=>((ri 3 A2 Q c2 a2)::(ri 3 fk ((plc s.length 1).length) fc (plc s.length 1))::(ri 3 (GG D) (((s.length:Int)+3).toNat) (((s.length:Int)+3).toNat) V)::(ri 3 none 0 0 ([]))::Rs)) (λA2 Q c2 a2 i=>(Q=a2.length)/\(0<=i)/\(i<=(plc s.length 1).length)/\(a2=((plc s.length 1).take i.toNat).map (rd V))) (λA2 Q c2 a2 i=>((plc s.length 1).length-i).toNat) ?_ ?_
 ·exact⟨none,0,0,[],0,⟨(Z),G,G,(Z)⟩,KP⟩
 intro A2 Q c2 a2 i ⟨ov,bb,gn,Uf⟩;have Qr:=bi List.length Uf;rw[bn,ax] at Qr;refine aD Z<|aA<|aR Z ?_ ?_<;>intro pi
 ·have Wu:=(mP (n:=s.length) (r:=1) G).1 (bM (L:=plc s.length 1) bb G);exact aG<|aA<|aF<|wq<|wy (aC ak sz3 Z Z (rdr 1 Z))<|wy (aQ av Z Z (rdr 1 Z))<|aB Z<|aT 3 Z<|wy (aC ak sz3 Z Z (rdr 2 Z))<|wy (aQ av Z Z (rdr 2 Z))<|aX (bG .i64 [rd V (rd (plc s.length 1) i)] ak zs3 Z Z Z) λxf=>dG (aO 1 Z ak zb3 Z Z Z (rdr 0 Z)) λgg gi=>bC (v:=sl gg (Q+1) gi) Z<|aB Z<|bK<|wA Z Z<|aB Z<|⟨gg,Q+1,gi,a2++([rd V (rd (plc s.length 1) i)]),i+1,⟨(by simp only[aa,ov];try rfl),G,G,(by rw[dP bb G,jc,Uf];rfl)⟩,G,SA,λ_ h=>h.selR (F:=[_,_,_,_,_]) (F':=[_,_,_,_]) [1,2,3,4] cC Z⟩
 refine aP<|aK 1 Z<|aX (bG .i64 [0] ak zs3 Z Z Z) λFk=>dG (aO 1 Z ak zb3 Z Z Z (rdr 0 Z)) λi5 py=>bC (v:=sl i5 (Q+1) py) Z<|aB Z<|aA<|aK 2 Z<|bZ aBd Z (λw P=>oQ cE G) λka kd=>bC (v:=sl ka ((plc s.length 2).length) kd) Z<|aB Z<|aF<|eT (λ(A3:AF) (R:Nat) (c3:Nat) (a3:AH) (u:Int)=>[(5,sl (GG D) (((s.length:Int)+3).toNat) (((s.length:Int)+3).toNat)),(6,sl J n6 N),(8,I n),(11,sl fk ((plc s.length 1).length) fc),(12,sl A3 R c3),(98,sl ka ((plc s.length 2).length) kd),(99,I (((plc s.length 2).length:Nat):Int)),(100,I u)]) (λA3 R c3 a3 u=>((ri 3 ka ((plc s.length 2).length) kd (plc s.length 2))::(ri 3 (GG Fk) 1 1 ([0]))::(ri 3 A3 R c3 a3)::(ri 3 fk ((plc s.length 1).length) fc (plc s.length 1))::(ri 3 (GG D) (((s.length:Int)+3).toNat) (((s.length:Int)+3).toNat) V)::(ri 3 none 0 0 ([]))::Rs)) (λA3 R c3 a3 u=>(R=a3.length)/\(0<=u)/\(u<=(plc s.length 2).length)/\(a3=((plc s.length 1).map (rd V)++[0])++((plc s.length 2).take u.toNat).map (rd V))) (λA3 R c3 a3 u=>((plc s.length 2).length-u).toNat) ?_ ?_
 ·exact⟨i5,Q+1,py,a2++([0]),0,⟨(by simp only[aa,ov];try rfl),G,G,(by rw[Uf,bg G];simp)⟩,KP⟩
 intro A3 R c3 a3 u ⟨hn3,fh,mu,Ug⟩;have hal3:=bi List.length Ug;rw[aa,aa,bn,bn,ax,dw] at hal3;refine aD Z<|aA<|aR Z ?_ ?_<;>intro b9
 ·have Wu:=(mP (n:=s.length) (r:=2) G).1 (bM (L:=plc s.length 2) fh G);exact aG<|aA<|aF<|wq<|wy (aC ak sz3 Z Z (rdr 0 Z))<|wy (aQ av Z Z (rdr 0 Z))<|aB Z<|aT 3 Z<|wy (aC ak sz3 Z Z (rdr 4 Z))<|wy (aQ av Z Z (rdr 4 Z))<|aX (bG .i64 [rd V (rd (plc s.length 2) u)] ak zs3 Z Z Z) λFl=>dG (aO 3 Z ak zb3 Z Z Z (rdr 0 Z)) λnd nh=>bC (v:=sl nd (R+1) nh) Z<|aB Z<|bK<|wA Z Z<|aB Z<|⟨nd,R+1,nh,a3++([rd V (rd (plc s.length 2) u)]),u+1,⟨(by simp only[aa,hn3];try rfl),G,G,(by rw[dP fh G,jc,Ug,dx];rfl)⟩,G,SA,λ_ h=>h.selR (F:=[_,_,_,_,_,_,_]) (F':=[_,_,_,_,_,_]) [1,2,3,4,5,6] cC Z⟩
 have r7:a3=blw s V:=by rw[Ug,bg G];rfl
 refine aP<|aD Z<|aA<|aK 2 Z<|wA Z Z<|wa (aH bPn Z (Ct.fresh (λw P=>IH ((rdr 2 Z) w P) (by rw[r7,zG];omega) ⟨G,by rw[r7];exact bHu hF hI.n0⟩ (by rw[r7,zG];omega)))) ?_;rintro _ _⟨_,rfl,y,tc,tg,rfl,dd,es,rfl⟩;refine aB Z<|aF<|eT (λ(H:AF) (d:Nat) (M:Nat) (a4:AH) (m:Int)=>[(4,sl H d M),(5,sl (GG D) (((s.length:Int)+3).toNat) (((s.length:Int)+3).toNat)),(6,sl J n6 N),(11,sl fk ((plc s.length 1).length) fc),(115,sl tc a3.length tg),(116,I (a3.length:Int)),(117,I m)]) (λH d M a4 m=>((ri 3 tc a3.length tg y)::(ri 3 ka ((plc s.length 2).length) kd (plc s.length 2))::(ri 3 (GG Fk) 1 1 ([0]))::(ri 3 A3 R c3 a3)::(ri 3 fk ((plc s.length 1).length) fc (plc s.length 1))::(ri 3 (GG D) (((s.length:Int)+3).toNat) (((s.length:Int)+3).toNat) V)::(ri 3 H d M a4)::Rs)) (λH d M a4 m=>(d=a4.length)/\(0<=m)/\(m<=y.length)/\(a4=ofB s (y.take m.toNat))) (λH d M a4 m=>(y.length-m).toNat) ?_ ?_
 ·exact⟨none,0,0,[],0,⟨(Z),G,G,(Z)⟩,KP⟩
 intro H d M a4 m ⟨hn4,sp,kj,Nu⟩;have hbl1:y.length=a3.length:=by rw[dd.length_eq,bI]
 have hal4:=bi List.length Nu;have hal5:=bLn (s:=s) (y.take m.toNat);rw[ax] at hal5;refine aD Z<|aA<|aR Z ?_ ?_<;>intro u5
 ·have hbm:=aY.1 (dd.subset (bM (L:=y) sp G));rw[r7,zG] at hbm;refine aG<|aA<|aF<|wq<|wy (aC ak sz3 Z Z (rdr 0 Z))<|wy (aQ av Z Z (rdr 0 Z))<|aB Z<|aF<|aD Z<|aR Z ?_ ?_<;>intro Qt
  ·exact aT 3 Z<|wy (aC ak sz3 Z Z (rdr 4 Z))<|wy (aQ av Z Z (rdr 4 Z))<|aX (bG .i64 [rd (plc s.length 1) (rd y m)] ak zs3 Z Z Z) λg_30=>dG (aO 7 Z ak zb3 Z Z Z (rdr 0 Z)) λLy Jx=>bC (v:=sl Ly (d+1) Jx) Z<|aB Z<|bK<|wA Z Z<|aB Z<|⟨Ly,d+1,Jx,a4++([rd (plc s.length 1) (rd y m)]),m+1,⟨(by simp only[aa,hn4];try rfl),G,G,(by rw[dP sp G,aHl G,Nu,bTx hbm.1 G])⟩,G,SA,λ_ h=>h.selR (F:=[_,_,_,_,_,_,_,_]) (F':=[_,_,_,_,_,_,_]) [1,2,3,4,5,6,7] cC Z⟩
  refine aD Z<|aR Z ?_ ?_<;>intro Nx
  ·exact aT 3 Z<|wS Z Z<|wy (aC ak sz3 Z Z (λ_ h=>h6 _ _ _ (h.right (R':=[_,_,_,_,_,_,_]))))<|wy (aQ av Z Z (λ_ h=>h6 _ _ _ (h.right (R':=[_,_,_,_,_,_,_]))))<|aX (bG .i64 [rd (smp s.length) ((rd y m)-1)] ak zs3 Z Z Z) λg_34=>dG (aO 7 Z ak zb3 Z Z Z (rdr 0 Z)) λCp Fd=>bC (v:=sl Cp (d+1) Fd) Z<|aB Z<|bK<|wA Z Z<|aB Z<|⟨Cp,d+1,Fd,a4++([rd (smp s.length) ((rd y m)-1)]),m+1,⟨(by simp only[aa,hn4];try rfl),G,G,(by rw[dP sp G,aHl G,Nu,bTw G G])⟩,G,SA,λ_ h=>h.selR (F:=[_,_,_,_,_,_,_,_]) (F':=[_,_,_,_,_,_,_]) [1,2,3,4,5,6,7] cC Z⟩
  exact aG<|bK<|wA Z Z<|aB Z<|⟨H,d,M,a4,m+1,⟨(by simp only[aa,hn4];try rfl),G,G,(by rw[dP sp G,aHk G,Nu])⟩,G,KP⟩
 rw [r7] at dd es;have hof:a4=ofB s y:=by rw[Nu,bg G]
 have Vb:a4.Perm (smp s.length):=by rw[hof];exact bDg dd
 have hos4:a4.Pairwise (dA s):=by rw[hof];exact aNe hF hI.n0 dd es
 refine aP<|aA<|aD Z<|aF<|dF (λ(z:Int) (K:AH)=>[(4,sl H d M),(5,sl (GG D) (((s.length:Int)+3).toNat) (((s.length:Int)+3).toNat)),(147,sl H d M),(148,I (d:Int)),(149,I z)]) (λz K=>((ri 3 tc a3.length tg y)::(ri 3 ka ((plc s.length 2).length) kd (plc s.length 2))::(ri 3 (GG Fk) 1 1 ([0]))::(ri 3 A3 R c3 a3)::(ri 3 fk ((plc s.length 1).length) fc (plc s.length 1))::(ri 3 (GG D) (((s.length:Int)+3).toNat) (((s.length:Int)+3).toNat) K)::(ri 3 H d M a4)::Rs)) (λz K=>(0<=z)/\(z<=a4.length)/\(RkN s a4 K z)) (λz K=>(a4.length-z).toNat) ?_ ?_
 ·exact⟨0,V,⟨G,G,(hF.zero _)⟩,KP⟩
 intro z K ⟨n8,o8,hN5⟩;have hV5:=hN5.len;refine aD Z<|aA<|aR Z ?_ ?_<;>intro Ny
 ·have hzi:=qR (Vb.subset (bM (L:=a4) n8 G));exact aG<|aA<|aF<|aK 1 Z<|wy (aC ak sz3 Z Z (rdr 6 Z))<|wy (aQ av Z Z (rdr 6 Z))<|aB Z<|aT 3 Z<|wA Z Z<|wy (aC ak sz3 Z Z (rdr 5 Z))<|bN (bJ 5 Z sz3 Z Z)<|aJ<|bK<|wA Z Z<|aB Z<|⟨z+1,upd K (rd a4 z) (z+1),⟨G,G,(hN5.step Vb n8 G)⟩,G,KP⟩
 refine aP<|aD Z<|gN (R1:=[(ri 3 H d M a4),(ri 3 (GG D) (((s.length:Int)+3).toNat) (((s.length:Int)+3).toNat) K)]) (λ_ h=>(h.selR (F:=[_,_,_,_,_,_,_]) (F':=[_,_]) [6,5] cC Z).left (X:=[_,_]))<|⟨_,_,Z,Z,?_⟩;obtain rfl:=hn4;have Ym:((s.length:Int)+3).toNat=K.length:=by have:=hN5.len;omega
 have hNe:RkN s a4 K a4.length:=by have e:z=a4.length:=G;rw[<-e];exact hN5
 exact⟨a4,K,_,_,_,_,_,Z,Ym,hNe.done Vb hos4,λB w0 w h=>rdr 0 Z w h,λB w0 w h=>by rw[<-Ym];exact rdr 1 rfl w h⟩
theorem bCe {l:AH} {a:Int} (h0:0<=a):rd (l.drop a.toNat) 0=rd l a:=by
 unfold rd;rw[af,af,ui];rfl
theorem PE {w:World} {s:AH} (da:R5 w dt ju dq s) (IH: ∀ {w:World} {tk:AF} {wk tz:Nat} {t:AH} {j:Int},R5 w tk wk tz t->t.length<s.length->((0<=j/\j<=1000000)/\ ∀x∈t,0<=x/\x<j)->t.length<=100000->CF 236 #[sl tk wk tz,I j] w (λv R'=> ∃(b:AH) (A:AF) (c:Nat),v=sl A t.length c/\b.Perm (iota t.length)/\b.Pairwise (dA t)/\R'=[(ri 3 A t.length c b)])) (N:(0<=k/\k<=1000000)/\ ∀x∈s,0<=x/\x<k) (hN:s.length<=100000):
  CF 236 #[sl dt ju dq,I k] w (λv R'=> ∃(b:AH) (A:AF) (c:Nat),v=sl A s.length c/\b.Perm (iota s.length)/\b.Pairwise (dA s)/\R'=[(ri 3 A s.length c b)]):=by
 obtain rfl:=da.lenI;refine fn1 func236 Z Z Z ?_;have j5: ∀x∈s,0<=x/\x<=1000000:=λx hx=>by have:=N.2 x hx;omega
 have lp0:=lX s.length 0;have lsm:=JE s.length;refine aD Z<|aA<|aD Z<|aR Z ?_ ?_<;>intro ap
 ·refine aK 2 Z<|bZ aBd Z (λw d=>oQ cE G) λcv cr=>bC (v:=sl cv ((plc s.length 0).length) cr) Z<|bH 2 Z<|wy (dV ak sz3 Z Z (rdr 0 Z))<|aB Z<|gN (R1:=[(ri 3 cv ((plc s.length 0).length) cr (plc s.length 0))]) (λ_ h=>(h.selR (F:=[_]) (F':=[_]) [0] cC Z).left (X:=[_]))<|⟨_,Z,?_⟩;rw[aVj (show s.length<2 by omega),bI];exact⟨_,_,_,Z, .refl _,bSc G,Z⟩
 refine aG<|aK 2 Z<|wa (aH bWt Z (Ct.fresh (λw d=>XW ((da.c _) w d) IH N hN G))) ?_;rintro _ _⟨Rn,rfl,a,M,dr,km,du,nj,_,rfl,rfl,m,Py,w6⟩;refine gZ (R1:=(Rn)) (Sub.refl _) (λ_ h=>Hp.toTail0 (X:=[]) (Y:=[]) h)<|aB Z<|aK 2 Z<|bZ aBd Z (λw d=>oQ cE G) λjj gh=>bC (v:=sl jj ((plc s.length 0).length) gh) Z<|aB Z<|aK 2 Z<|aX (dU ak zb3 Z Z) λqk=>bC (v:=sl (GG qk) s.length s.length) Z<|aB Z<|aA<|aD Z<|aF<|dF (λ(i:Int) (V:AH)=>[(0,sl dt s.length dq),(1,I k),(5,sl dr a.length du),(6,sl km M.length nj),(7,sl jj ((plc s.length 0).length) gh),(8,sl (GG qk) s.length s.length),(35,I (s.length:Int)),(36,I i)]) (λi V=>((ri 3 (GG qk) s.length s.length V)::(ri 3 jj ((plc s.length 0).length) gh (plc s.length 0))::Rn)) (λi V=>(0<=i)/\(i<=s.length)/\(V.length=s.length)/\(∀j:Int,0<=j->j<i->rd V j=rd M (j+1))) (λi V=>(s.length-i).toNat) ?_ ?_
 ·exact⟨0,List.replicate s.length (0:Int),⟨G,G,(by rw[df]),(λj h1 h2=>G)⟩,KP⟩
 intro i V ⟨bb,gn,oc,hV⟩;refine aD Z<|aA<|aR Z ?_ ?_<;>intro bp
 ·have hV1:=m.len;exact aG<|aA<|aF<|aD Z<|aT 4 Z<|wA Z Z<|wy (aC ak sz3 Z Z (λ_ h=>w6 _ _ _ (h.right (R':=[_,_]))))<|wy (aQ av Z Z (λ_ h=>w6 _ _ _ (h.right (R':=[_,_]))))<|wy (aC ak sz3 Z Z (rdr 0 Z))<|bN (bJ 0 Z sz3 Z Z)<|aJ<|bK<|wA Z Z<|aB Z<|⟨i+1,upd V i (rd M (i+1)),⟨G,G,(by rw[aW];exact oc),(gG (f:=λj=>rd M (j+1)) bb G hV Z)⟩,G,KP⟩
 have hB:V=bhd s M:=bTy oc (λj h1 h2=>hV j h1 G);have S:=bCv m;have H:=UM m N.2 N.1.1;have Vc:=aMy m N.2 N.1.1;have Zy:=m.perm.length_eq;refine aP<|aK 4 Z<|wA Z Z<|bZ WF Z (λw d=>yR ((rdr 1 Z) w d) ((rdr 0 Z) w d) G (by rw[hB];exact bIb m) (λx hx=>by rw[mP G] at hx;omega) G) λfk fc=> ?_;generalize u7:dN (plc s.length 0) V (((s.length:Int)+1)).toNat=ot1;refine aB Z<|aK 2 Z<|bZ bPk Z (λw d=>aAq ((da.c _) w d) G j5 G) λsv px=>wm Z<|wA Z Z<|bZ WF Z (λw d=>yR ((rdr 1 Z) w d) ((rdr 0 Z) w d) G (aIa N.2 N.1.1 G) (λx hx=>by rw[<-u7,hB] at hx;have:=S.subset hx;rw[mP G] at this;rw[MV];omega) (by rw[<-u7,hB,S.length_eq];omega)) λgg gi=> ?_;generalize Uq:dN ot1 (jC s 0) ((k+1)).toNat=ot2;have Vd:oth s M k=ot2:=by unfold oth;rw[<-hB,u7,Uq]
 rw[Vd] at H Vc;have yk:=H.length_eq;have r9:ot1.length=ot2.length:=by rw[yk,<-u7,hB,S.length_eq]
 refine aB Z<|wq<|dX (ri 3 none 0 0 ([]))<|aB Z<|aA<|aD Z<|aF<|PV (λ(q:Int) (x:Int) (O:AF) (p:Nat) (Q:Nat) (acc:AH) (P:AF) (u:Nat) (R:Nat)=>[(0,sl dt s.length dq),(5,sl P u R),(6,sl km M.length nj),(10,sl O p Q),(66,sl gg ((ot1).length) gi),(67,I (((ot1).length:Nat):Int)),(68,I q)]) (λq x O p Q acc P u R=>((ri 3 O p Q acc)::(ri 3 gg ((ot1).length) gi ot2)::(ri 3 sv ((s).length) px (jC s 0))::(ri 3 fk (((plc s.length 0)).length) fc ot1)::(ri 3 (GG qk) s.length s.length V)::(ri 3 jj ((plc s.length 0).length) gh (plc s.length 0))::Rn)) (λq x O p Q acc P u R=>(0<=q)/\(q<=ot2.length)/\(0<=x)/\(x<=a.length)/\(MgI s a ot2 acc x q)/\(p=acc.length)/\(u=(a.drop x.toNat).length)/\(∀(B:Nat) (w0 w:World),Hp B w0 w Rn->Rd w P u R 1 (ints .i64 (a.drop x.toNat)))) (λq x O p Q acc P u R=>(ot2.length-q).toNat) ?_ ?_
 ·exact⟨0,0,none,0,0,[],dr,a.length,du,⟨G,G,G,G,(bDp),(Z),(Z),(Py)⟩,KP⟩
 intro q x O p Q acc P u R ⟨kt,o6,Ru,o7,hM,hnL,hnO,h5⟩;have ph:=hM.len Ru o7 kt o6;refine aD Z<|aA<|aR Z ?_ ?_<;>intro db
 ·have hqq:q<ot2.length:=G
  have hqm:=(mP G).1 (H.subset (bM (L:=ot2) kt hqq));have hqj:(0<=rd ot2 q/\rd ot2 q<s.length)/\rd ot2 q%3=0:=G
  refine aG<|aA<|aF<|wq<|wy (aC ak sz3 Z Z (rdr 1 Z))<|wy (aQ av Z Z (rdr 1 Z))<|aB Z<|aA<|aF<|sS (λ(y:Int) (AM:AF) (r:Nat) (cM:Nat) (J:AH) (K:AF) (C:Nat) (D:Nat)=>[(0,sl dt s.length dq),(5,sl K C D),(6,sl km M.length nj),(10,sl AM r cM),(12,I (rd ot2 q)),(66,sl gg ((ot1).length) gi),(67,I (((ot1).length:Nat):Int)),(68,I q)]) (λy AM r cM J K C D=>((ri 3 AM r cM J)::(ri 3 gg ((ot1).length) gi ot2)::(ri 3 sv ((s).length) px (jC s 0))::(ri 3 fk (((plc s.length 0)).length) fc ot1)::(ri 3 (GG qk) s.length s.length V)::(ri 3 jj ((plc s.length 0).length) gh (plc s.length 0))::Rn)) (λy AM r cM J K C D=>(0<=y)/\(y<=a.length)/\(MgI s a ot2 J y q)/\(r=J.length)/\(C=(a.drop y.toNat).length)/\(∀(B:Nat) (w0 w:World),Hp B w0 w Rn->Rd w K C D 1 (ints .i64 (a.drop y.toNat)))) (λy AM r cM J K C D=>(a.length-y).toNat) ?_ ?_
  ·exact⟨x,O,p,Q,acc,P,u,R,⟨G,G,(hM),(hnL),(hnO),(h5)⟩,KP⟩
  intro y AM r cM J K C D ⟨o,hy1,Yg,hnM,T,h6⟩;have Qr:=Yg.len o hy1 kt G;have hnP2:=T;rw[az] at hnP2;have e0:=bCe (l:=a) o
  have hoi:y<a.length->(0<=rd (a.drop y.toNat) 0/\rd (a.drop y.toNat) 0<s.length)/\rd (a.drop y.toNat) 0%3≠0:=λh=>by
   have:=oD.1 (m.perm.subset (bM o h));rw[e0];omega
  refine aA<|aK 4 Z<|bD 8 [0,5,6,10,12,66,67,68] 83 (.bool (decide ((0<(C:Int))/\(cmpL ((s).drop ((rd (a.drop y.toNat) 0)).toNat) ((s).drop ((rd ot2 q)).toNat)<0)))) Z ?_ ?_
  ·refine bB 75 Z ?_ ?_<;>intro dj
   ·exact bH 3 Z<|aN Z Z<|wy (aC ak sz3 Z Z (λ_ h=>h6 _ _ _ (h.right (R':=[_,_,_,_,_,_]))))<|aN Z Z<|wy (aQ av Z Z (λ_ h=>h6 _ _ _ (h.right (R':=[_,_,_,_,_,_]))))<|bH 1 Z<|aN Z Z<|dZ bWs Z (λw d=>aVx ((da.c _) w d) ((λ_ h=>w6 _ _ _ (h.right (R':=[_,_,_,_,_,_]))) w d) m (hoi G) hqj j5 G)<|aB Z<|KP
   exact aB Z<|KP
  refine aJ<|aR Z ?_ ?_<;>intro ff
  ·have hyl:y<a.length:=G
   have d5:=jK.1 ff.2;rw[e0] at d5;refine aG<|aF<|bE mixed<|bF 0 2 Z<|wD 2 Z (aC ak sz3 Z Z (λ_ h=>h6 _ _ _ (h.right (R':=[_,_,_,_,_,_]))))<|wD 3 Z (aQ av Z Z (λ_ h=>h6 _ _ _ (h.right (R':=[_,_,_,_,_,_]))))<|wD 6 Z (dI Z)<|wD 7 Z (dE ak sz3 Z Z)<|wC 4 Z (bG .i64 [rd (a.drop y.toNat) 0] ak zs3 Z Z Z) ?_;rintro _ _⟨Fk,rfl,rfl⟩;refine⟨.inr hrZ,?_⟩;refine wC 5 Z (aO 1 Z ak zb3 Z Z Z (rdr 0 Z)) ?_;rintro _ _⟨i5,py,rfl,rfl⟩;refine⟨.inl cA,?_⟩;refine iA (v:=sl i5 (r+1) py) Z<|bF 8 2 Z<|wN ?_
   exact⟨(y+1),i5,r+1,py,J++([rd (a.drop y.toNat) 0]),lL K (1:Int).toNat D 1,C-(1:Int).toNat,D-(1:Int).toNat,⟨G,G,(by rw[e0];exact Yg.left m.sorted Vc o G kt hqq d5),(by rw[aa,hnM];rfl),(by rw[az] at T ⊢;omega),(λB w0 w h=>by
      have g:=RdC.fromI (l:=(1:Int).toNat) (h6 B w0) G w h;rw[xu,show y.toNat+(1:Int).toNat=(y+1).toNat by omega] at g
      exact g)⟩,G,SA,λ_ h=>h.selR (F:=[_,_,_,_,_,_,_]) (F':=[_,_,_,_,_,_]) [1,2,3,4,5,6] cC Z⟩
  have Mq:y<a.length->dA s (rd ot2 q) (rd a y):=λh=>by
   have h1:=hoi h;rw[e0] at h1 ff;rcases BC h1.1 hqj.1 G with g|g
   ·exact absurd ⟨G,jK.2 g⟩ ff
   exact g
  exact aP<|aT 2 Z<|aX (bG .i64 [rd ot2 q] ak zs3 Z Z Z) λth=>dG (aO 1 Z ak zb3 Z Z Z (rdr 0 Z)) λoa ob=>bC (v:=sl oa (r+1) ob) Z<|aB Z<|bK<|wA Z Z<|aB Z<|⟨q+1,y,oa,r+1,ob,J++([rd ot2 q]),K,C,D,⟨G,G,G,G,(Yg.right m.sorted Vc o kt G Mq),(by rw[aa,hnM];rfl),(T),(h6)⟩,G,SA,λ_ h=>h.selR (F:=[_,_,_,_,_,_,_]) (F':=[_,_,_,_,_,_]) [1,2,3,4,5,6] cC Z⟩
 refine aP<|aK 2 Z<|dG (aO 0 Z ak zb3 Z Z Z (λ_ h=>h5 _ _ _ (h.right (R':=[_,_,_,_,_,_]))) (by have:=hnO;rw[az] at this;omega)) λnd nh=> ?_;refine bC (v:=sl nd (p+u) nh) Z<|aB Z<|gN (R1:=[(ri 3 nd (p+u) nh (acc++(a.drop x.toNat)))]) (λ_ h=>(h.selR (F:=[_,_,_,_,_,_]) (F':=[_]) [0] cC Z).left (X:=[_]))<|⟨_,Z,?_⟩;have hd:=hM.done m.sorted G m.perm H;have e:p+u=s.length:=by have:=hd.1.length_eq;rw[bI,aa] at this;omega
 rw[e];exact⟨_,_,_,Z,hd.1,hd.2,Z⟩
theorem aFv (m:Nat): ∀ {w:World} {dt:AF} {ju dq:Nat} {s:AH} {k:Int},R5 w dt ju dq s->s.length<m->((0<=k/\k<=1000000)/\ ∀x∈s,0<=x/\x<k)->s.length<=100000->
  CF 236 #[sl dt ju dq,I k] w (λv R'=> ∃(b:AH) (A:AF) (c:Nat),v=sl A s.length c/\b.Perm (iota s.length)/\b.Pairwise (dA s)/\R'=[(ri 3 A s.length c b)]):=by
 induction m with
 |zero=>intro w A n c s k _ h;omega
 |succ m ih=>
  intro w A n c s k da hm bw hN;exact PE da (λh1 h2 h3 h4=>ih h1 G h3 h4) bw hN
theorem XQ {s:AH} (da:R5 w dt ju dq s) (bw:(0<=k/\k<=1000000)/\ ∀x∈s,0<=x/\x<k) (hN:s.length<=100000):
  CF 236 #[sl dt ju dq,I k] w (λv R'=> ∃(b:AH) (A:AF) (c:Nat),v=sl A s.length c/\b.Perm (iota s.length)/\b.Pairwise (dA s)/\R'=[(ri 3 A s.length c b)]):=aFv (s.length+1) da G bw hN
theorem XO {s:AH} (b:R5 w dt ju dq s) (hs: ∀x∈s,0<=x/\x<1048576) (M:s.length<=100000):
  CF 237 #[sl dt ju dq] w (λv R'=> ∃(m:Int) (A:AF) (c:Nat),v=sl A s.length c/\(∀x∈s,0<=x/\x<=m)/\R'=[(ri 3 A s.length c (sqz s m))]):=by
 obtain rfl:=b.lenI;refine fn1 func237 Z Z Z<|aD Z<|aD Z<|aA<|aD Z<|aF<|dF (λ(i:Int) (m:Int)=>[(0,sl dt s.length dq),(3,I m),(13,sl dt s.length dq),(14,I (s.length:Int)),(15,I i)]) (λi m=>[]) (λi m=>(0<=i)/\(i<=s.length)/\(0<=m)/\(m<=1048575)/\(∀x∈s.take i.toNat,x<=m)) (λi m=>(s.length-i).toNat) ?_ ?_
 ·exact⟨0,0,⟨G,G,G,G,(λx a=>by cases a)⟩,KP⟩
 intro i m ⟨r,K,Q,N,d⟩;refine aD Z<|aA<|aR Z ?_ ?_<;>intro ap
 ·have C:=hs _ (bM (L:=s) r G);refine aG<|aA<|aF<|wq<|wy (aC ak sz3 Z Z (b.c _))<|wy (aQ av Z Z (b.c _))<|aB Z<|aT 2 Z<|wy (aYw Z Z)<|aB Z<|bK<|wA Z Z<|aB Z ?_
  exact⟨i+1,max m (rd s i),⟨G,G,G,G,(λx a=>by
    rw[dP r G] at a;rcases ek.1 a with a|a
    ·have:=d x a;omega
    rw[gz.1 a];omega)⟩,G,KP⟩
 rw [bg G] at d;refine aP<|aK 1 Z<|wA Z Z<|aX (dU ak zb3 Z Z) λh=>bC (v:=sl (GG h) ((m+1).toNat) ((m+1).toNat)) Z<|aB Z<|aA<|aD Z<|aF<|dF (λ(j:Int) (V:AH)=>[(0,sl dt s.length dq),(6,sl (GG h) ((m+1).toNat) ((m+1).toNat)),(26,sl dt s.length dq),(27,I (s.length:Int)),(28,I j)]) (λj V=>[(ri 3 (GG h) ((m+1).toNat) ((m+1).toNat) V)]) (λj V=>(0<=j)/\(j<=s.length)/\(V=thr (s.take j.toNat) m)) (λj V=>(s.length-j).toNat) ?_ ?_
 ·exact⟨0,List.replicate ((m+1).toNat) (0:Int),⟨G,G,((bJo m).symm)⟩,KP⟩
 intro j V ⟨l,v6,k⟩;refine aD Z<|aA<|aR Z ?_ ?_<;>intro H
 ·have g:0<=rd s j/\rd s j<=m:=⟨(hs _ (bM (L:=s) l G)).1,d _ (bM (L:=s) l G)⟩;have P:V.length=(m+1).toNat:=by rw[k,mK]
  exact aG<|aA<|aF<|wq<|wy (aC ak sz3 Z Z (b.c _))<|wy (aQ av Z Z (b.c _))<|aB Z<|aT 2 Z<|wy (aC ak sz3 Z Z (rdr 0 Z))<|bN (bJ 0 Z sz3 Z Z)<|aJ<|bK<|wA Z Z<|aB Z<|⟨j+1,upd V (rd s j) 1,⟨G,G,(by rw[dP l G,<-aZu g.1 g.2,<-k])⟩,G,KP⟩
 have e:V=thr s m:=by rw[k,bg G]
 have f9:(eF V).length=(m+1).toNat:=by rw[gT,e,mK]
 refine aP<|aK 1 Z<|bZ aSp Z (λw F=>DK ((rdr 0 Z) w F) (by rw[e];exact aZv s m) (by rw[e];have:=bJn s m;omega) (by rw[e,mK];omega)) λo p=> ?_;refine aB Z<|aK 2 Z<|aX (dU ak zb3 Z Z) λf8=>bC (v:=sl (GG f8) s.length s.length) Z<|aB Z<|aA<|aD Z<|aF<|dF (λ(z:Int) (U:AH)=>[(9,sl o ((eF V).length) p),(10,sl (GG f8) s.length s.length),(41,sl dt s.length dq),(42,I (s.length:Int)),(43,I z)]) (λz U=>[(ri 3 (GG f8) s.length s.length U),(ri 3 o ((eF V).length) p (eF V)),(ri 3 (GG h) ((m+1).toNat) ((m+1).toNat) V)]) (λz U=>(0<=z)/\(z<=s.length)/\(U.length=s.length)/\(∀j:Int,0<=j->j<z->rd U j=rd (eF (thr s m)) (rd s j))) (λz U=>(s.length-z).toNat) ?_ ?_
 ·exact⟨0,List.replicate s.length (0:Int),⟨G,G,(by rw[df]),(λj h1 B=>G)⟩,KP⟩
 intro z U ⟨n8,O,q,y⟩;refine aD Z<|aA<|aR Z ?_ ?_<;>intro J
 ·have D:0<=rd s z/\rd s z<=m:=⟨(hs _ (bM (L:=s) n8 G)).1,d _ (bM (L:=s) n8 G)⟩;exact aG<|aA<|aF<|aK 1 Z<|wy (aC ak sz3 Z Z (b.c _))<|wy (aQ av Z Z (b.c _))<|aB Z<|aT 4 Z<|wy (aC ak sz3 Z Z (rdr 1 Z))<|wy (aQ av Z Z (rdr 1 Z))<|wy (aC ak sz3 Z Z (rdr 0 Z))<|bN (bJ 0 Z sz3 Z Z)<|aJ<|bK<|wA Z Z<|aB Z<|⟨z+1,upd U z (rd (eF V) (rd s z)),⟨G,G,(by rw[aW];exact q),(gG (f:=λj=>rd (eF (thr s m)) (rd s j)) n8 G y (by rw[e]))⟩,G,KP⟩
 refine aP<|aD Z<|aL [0] 99<|⟨_,Z,?_⟩;have u: ∀x∈s,0<=x/\x<=m:=λx a=>⟨(hs x a).1,d x a⟩;obtain rfl:U=sqz s m:=bRn u q (λj h1 B=>y j h1 G);exact⟨m,_,_,Z,u,Z⟩
theorem bEi {s:AH} (e:R5 w dt ju dq s) (l:(0<=k/\k<=1048576)/\ ∀x∈s,0<=x/\x<k) (h:s.length<=100000):
  CF 209 #[sl dt ju dq,I k] w (λv R'=> ∃(b:AH) (A:AF) (c:Nat),v= .tuple #[sl A s.length c,I 0]/\b.Perm (iota s.length)/\b.Pairwise (dA s)/\R'=[(ri 3 A s.length c b)]):=by
 obtain rfl:=e.lenI;refine fn2 func209 Z Z Z<|aD Z<|aA<|aK 2 Z<|wy (Yl.f (iL Z Z))<|aJ<|aM Z<|aG<|aA<|aK 2 Z<|bZ aJc Z (λw d=>sD ((e.c _) w d) cE) λp o=>aB Z<|aD Z<|aM Z<|aG<|aK 1 Z<|wa (aH bWz Z (Ct.fresh (λw d=>XO ((e.c _) w d) (λx g=>by have:=l.2 x g;omega) h))) ?_;rintro _ _⟨_,rfl,B,u,y,rfl,a,rfl⟩;refine bH 2 Z<|wA Z Z<|wa (aH bPn Z (Ct.fresh (λw d=>XQ ((rdr 0 Z) w d) ⟨G,λx g=>by have:=bRo a x g;omega⟩ (by rw[QA];exact h)))) ?_;rintro _ _⟨_,rfl,j,r,q,rfl,m,es,rfl⟩;refine aB Z<|aL [0] 99<|⟨_,_,Z,Z,?_⟩;have i:=aUb a m es;rw[QA];exact⟨j,_,_,Z,i.1,i.2,Z⟩
theorem aWc {ao:AF} {ar an:Nat} {u:AH} (am:R4 w ao ar an u) (e:aI u) (D:u.length<=100000):
  CF 155 #[sl ao ar an] w (λv R'=> ∃(b:AH) (A:AF) (c:Nat),v= .tuple #[sl A u.length c,I 0]/\b.Perm (iota u.length)/\b.Pairwise (dA u)/\R'=[(ri 3 A u.length c b)]):=by
 obtain rfl:=am.lenI;refine fn2 func155 Z Z Z<|aD Z<|aA<|aK 2 Z<|wy (Yl.f (iL Z Z))<|aJ<|aM Z<|aG<|aK 2 Z<|aX (dU ak zb3 Z Z) λa=>bC (v:=sl (GG a) u.length u.length) Z<|aB Z<|aA<|aD Z<|aF<|dF (λ(i:Int) (V:AH)=>[(4,sl (GG a) u.length u.length),(13,sl ao u.length an),(14,I (u.length:Int)),(15,I i)]) (λi V=>[(ri 3 (GG a) u.length u.length V)]) (λi V=>(0<=i)/\(i<=u.length)/\(V.length=u.length)/\(∀j:Int,0<=j->j<i->rd V j=rd u j)) (λi V=>(u.length-i).toNat) ?_ ?_
 ·exact⟨0,List.replicate u.length (0:Int),⟨G,G,(by rw[df]),(λj h1 p=>G)⟩,KP⟩
 intro i V ⟨m,C,k,g⟩;refine aD Z<|aA<|aR Z ?_ ?_<;>intro ap
 ·have B:=e.rd i;exact aG<|aA<|aF<|aK 1 Z<|wy (aC ai sz5 Z Z (am.c _))<|wy (aQ ay Z Z (am.c _))<|aB Z<|aT 3 Z<|wy (gV ay av Z)<|wy (aC ak sz3 Z Z (rdr 0 Z))<|bN (bJ 0 Z sz3 Z Z)<|aJ<|bK<|wA Z Z<|aB Z<|⟨i+1,upd V i (rd u i),⟨G,G,(by rw[aW];exact k),(gG (f:=λj=>rd u j) m G g Z)⟩,G,KP⟩
 have d:V=u:=bP k (λj h1 p=>g j h1 G);refine aP<|aK 1 Z<|wa (aH bXg Z (Ct.fresh (λw q=>bEi ((rdr 0 Z) w q) ⟨G,λx h=>by rw[d] at h;have:=e x h;omega⟩ G))) ?_;rintro _ _⟨_,rfl,l,r,y,rfl,o,es,rfl⟩;refine aB Z<|aL [0] 99<|⟨_,_,Z,Z,?_⟩;subst d;exact⟨l,_,_,Z,o,es,Z⟩
end
section
variable {w:World} {li:AF} {va ml:Nat} {l:AH} {h:Int}
theorem bLi {l:AH} {i:Int} (a:R5 w li va ml l) (hb:(0<=i/\i<=1000000)/\(0<=h/\h<=1000000)) (hl: ∀x∈l,0<=x/\x<=1000000):
  CF 290 #[sl li va ml,I i,I h] w (λv R'=>v=I (onF l i h)):=by
 obtain rfl:=a.lenI;refine fn1 Tryz.func290 Z Z Z<|aD Z<|aA<|aK 2 Z<|wA Z Z<|aB Z<|aR Z ?_ ?_<;>intro ap
 ·refine aD Z<|aS<|⟨_,Z,?_⟩;exact bi (Value.int .i64) (by unfold onF;rw[cz G])
 have b:=hl _ (bM (L:=l) (k:=i+h) G G);refine aG<|aK 3 Z<|wA Z Z<|wy (aC ak sz3 Z Z (a.c _))<|wy (aQ av Z Z (a.c _))<|wA Z Z<|aB Z<|aS<|⟨_,Z,?_⟩;exact bi (Value.int .i64) (by unfold onF;rw[bq G])
theorem aWd {s:AH} {n b:Nat} (k:R5 w li va ml l) (hl:l=rkL s n) (hh:h=b) (hn:0<n) (hb:b<=n) (hN:s.length<=100000/\n<=100000):
  CF 259 #[sl li va ml,I h] w (λv R'=> ∃A c N c',v= .tuple #[sl A s.length c,sl N s.length c']/\R'=[(ri 3 A s.length c (rkL s (n+b))),(ri 3 N s.length c' (dS s n b))]):=by
 obtain rfl:=k.lenI;refine fn2 Tryz.func259 Z Z Z ?_;have H:l.length=s.length:=by rw[hl,JK]
 refine aD Z<|aK 2 Z<|aX (dU ak zb3 Z Z) λu=>bC (v:=sl (GG u) l.length l.length) Z<|aB Z<|aK 2 Z<|aX (dU ak zb3 Z Z) λg=>bC (v:=sl (GG g) l.length l.length) Z<|aB Z<|aA<|aD Z<|aF<|gX (λ(i:Int) (O:AH) (K:AH)=>[(0,sl li l.length ml),(1,I h),(6,sl (GG u) l.length l.length),(7,sl (GG g) l.length l.length),(19,I (l.length:Int)),(20,I i)]) (λi O K=>[(ri 3 (GG g) l.length l.length K),(ri 3 (GG u) l.length l.length O)]) (λi O K=>(0<=i)/\(i<=s.length)/\(O.length=s.length)/\(∀j:Int,0<=j->j<i->rd O j=j)/\(K.length=s.length)/\(∀j:Int,0<=j->j<i->rd K j=xI s n (j.toNat+b))) (λi O K=>(s.length-i).toNat) ?_ ?_
 ·exact⟨0,List.replicate l.length (0:Int),List.replicate l.length (0:Int),⟨G,G,(by rw[df,H]),(λj h1 y=>G),(by rw[df,H]),(λj h1 y=>G)⟩,KP⟩
 intro i O K ⟨L,gn,B,hO,Q,X⟩;refine aD Z<|aA<|aR Z ?_ ?_<;>intro ap
 ·refine aG<|aA<|aF<|aD Z<|aT 8 Z<|dZ bWg Z (λw m=>bLi ((k.c _) w m) ⟨G,G⟩ (λx e=>by rw[hl] at e;have:=bBg x e;omega)) ?_;exact wy (aC ak sz3 Z Z (rdr 1 Z))<|bN (bJ 1 Z sz3 Z Z)<|wy (aC ak sz3 Z Z (rdr 0 Z))<|bN (bJ 0 Z sz3 Z Z)<|aJ<|bK<|wA Z Z<|aB Z<|⟨i+1,upd O i i,upd K i (onF l i h),⟨G,G,(by rw[aW];exact B),(gG (f:=λj=>j) L G hO Z),(by rw[aW];exact Q),(gG (f:=λj=>(xI s n (j.toNat+b):Int)) L G X (by rw[hh,hl];exact bSl L G))⟩,G,KP⟩
 obtain rfl:O=iota s.length:=aRw B (λj h1 y=>hO j h1 G);obtain rfl:K=onL s n b:=bSj Q (λj h1 y=>X j h1 G);have P:(dN (iota s.length) (onL s n b) ((l.length:Int)+1).toNat).length=s.length:=by rw[show((l.length:Int)+1).toNat=s.length+1 by omega,(yY s n b).length_eq,bI]
 refine aP<|aK 4 Z<|wA Z Z<|bZ WF Z (λw m=>yR ((rdr 1 Z) w m) ((rdr 0 Z) w m) G (λx e=>by have:=bSk x e;omega) (λx e=>by have:=aY.1 e;rw[aRg];omega) (by rw[bI];omega)) λR S=> ?_;refine aB Z<|aK 4 Z<|bZ WF Z (λw m=>yR ((rdr 0 Z) w m) ((k.c _) w m) G (λx e=>by rw[hl] at e;have:=bBg x e;omega) (λx e=>by rw[show((l.length:Int)+1).toNat=s.length+1 by omega] at e;have:=aY.1 ((yY s n b).subset e);omega) (by rw[P];omega)) λr o=> ?_;refine aB Z<|aK 2 Z<|aX (dU ak zb3 Z Z) λF=>bC (v:=sl (GG F) l.length l.length) Z<|aB Z<|aA<|aD Z<|aF<|gX (λ(p:Int) (D:AH) (V:AH)=>[(0,sl li l.length ml),(6,sl r (((dN (iota s.length) (onL s n b) (((l.length:Int)+1)).toNat)).length) o),(7,sl (GG g) l.length l.length),(9,sl (GG F) l.length l.length),(55,sl r (((dN (iota s.length) (onL s n b) (((l.length:Int)+1)).toNat)).length) o),(56,I ((((dN (iota s.length) (onL s n b) (((l.length:Int)+1)).toNat)).length:Nat):Int)),(57,I p)]) (λp D V=>[(ri 3 (GG F) l.length l.length V),(ri 3 r (((dN (iota s.length) (onL s n b) (((l.length:Int)+1)).toNat)).length) o D),(ri 3 R (((iota s.length)).length) S (dN (iota s.length) (onL s n b) (((l.length:Int)+1)).toNat)),(ri 3 (GG g) l.length l.length (onL s n b)),(ri 3 (GG u) l.length l.length (iota s.length))]) (λp D V=>(0<=p)/\(p<=s.length)/\(D=dS s n b)/\(V.length=s.length)/\(∀q:Int,0<=q->q<p->rd V (rd D q)=rkS s (n+b) (rd D q).toNat)) (λp D V=>(s.length-p).toNat) ?_ ?_
 ·exact⟨0,dN (dN (iota s.length) (onL s n b) (((l.length:Int)+1)).toNat) l ((l.length:Int)).toNat,List.replicate l.length (0:Int),⟨G,G,(by rw[hl,JK];unfold dS;rw[show((s.length:Int)+1).toNat=s.length+1 by omega,bu]),(by rw[df,H]),(λq h1 y=>G)⟩,KP⟩
 intro p D V ⟨J,ti,d,C,M⟩;refine aD Z<|aA<|aR Z ?_ ?_<;>intro bp
 ·have hm:=iT (s:=s) (n:=n) (b:=b) J G;rw[<-d] at hm;refine aG<|aA<|aF<|aK 1 Z<|wy (aC ak sz3 Z Z (rdr 1 Z))<|wy (aQ av Z Z (rdr 1 Z))<|aB Z<|aK 3 Z<|wy (aC ak sz3 Z Z (rdr 0 Z))<|bN (bJ 0 Z sz3 Z Z)<|aJ<|lS [(0,sl li l.length ml),(6,sl r (((dN (iota s.length) (onL s n b) (((l.length:Int)+1)).toNat)).length) o),(7,sl (GG g) l.length l.length),(9,sl (GG F) l.length l.length),(10,I p),(11,I (rd D p)),(55,sl r (((dN (iota s.length) (onL s n b) (((l.length:Int)+1)).toNat)).length) o),(56,I ((((dN (iota s.length) (onL s n b) (((l.length:Int)+1)).toNat)).length:Nat):Int)),(57,I p),(97, .bool (decide ((0<p)/\(((rd l (rd D (p-1)))=(rd l (rd D p)))/\((rd (onL s n b) (rd D (p-1)))=(rd (onL s n b) (rd D p)))))))] [(ri 3 (GG F) l.length l.length (upd V (rd D p) p)),(ri 3 r (((dN (iota s.length) (onL s n b) (((l.length:Int)+1)).toNat)).length) o D),(ri 3 R (((iota s.length)).length) S (dN (iota s.length) (onL s n b) (((l.length:Int)+1)).toNat)),(ri 3 (GG g) l.length l.length (onL s n b)),(ri 3 (GG u) l.length l.length (iota s.length))] ?_ ?_
  ·refine bE mixed<|bF 0 3 Z<|gM 68 Z ?_ ?_<;>intro db
   ·refine bF 3 3 Z<|wG 6 Z Z Z (oH Z Z)<|wG 7 Z Z Z (aC ak sz3 Z Z (rdr 1 Z))<|wG 8 Z Z Z (aQ av Z Z (rdr 1 Z))<|wG 9 Z Z Z (aC ak sz3 Z Z (k.c _) (by first|omega|(have a:=iT (s:=s) (n:=n) (b:=b) (p:=p-1) G G;rw[<-d] at a;omega)) (by first|omega|(have a:=iT (s:=s) (n:=n) (b:=b) (p:=p-1) G G;rw[<-d] at a;omega))) ?_;refine wG 10 Z Z Z (aQ av Z Z (k.c _) (by first|omega|(have a:=iT (s:=s) (n:=n) (b:=b) (p:=p-1) G G;rw[<-d] at a;omega)) (by first|omega|(have a:=iT (s:=s) (n:=n) (b:=b) (p:=p-1) G G;rw[<-d] at a;omega))) ?_;refine bF 11 2 Z<|wG 13 Z Z Z (aC ak sz3 Z Z (k.c _))<|wG 14 Z Z Z (aQ av Z Z (k.c _))<|bF 15 3 Z<|gM 83 Z ?_ ?_<;>intro dj
    ·refine bF 18 3 Z<|wG 21 Z Z Z (oH Z Z)<|wG 22 Z Z Z (aC ak sz3 Z Z (rdr 1 Z))<|wG 23 Z Z Z (aQ av Z Z (rdr 1 Z))<|wG 24 Z Z Z (aC ak sz3 Z Z (rdr 3 Z) (by first|omega|(have a:=iT (s:=s) (n:=n) (b:=b) (p:=p-1) G G;rw[<-d] at a;omega)) (by first|omega|(have a:=iT (s:=s) (n:=n) (b:=b) (p:=p-1) G G;rw[<-d] at a;omega))) ?_;refine wG 25 Z Z Z (aQ av Z Z (rdr 3 Z) (by first|omega|(have a:=iT (s:=s) (n:=n) (b:=b) (p:=p-1) G G;rw[<-d] at a;omega)) (by first|omega|(have a:=iT (s:=s) (n:=n) (b:=b) (p:=p-1) G G;rw[<-d] at a;omega))) ?_;exact bF 26 2 Z<|wG 28 Z Z Z (aC ak sz3 Z Z (rdr 3 Z))<|wG 29 Z Z Z (aQ av Z Z (rdr 3 Z))<|bF 30 2 Z<|wN<|KP
    exact bF 18 14 Z<|wN<|KP
   exact bF 3 29 Z<|wN<|KP
  refine aR Z ?_ ?_<;>intro T
  ·refine aT 5 Z<|wS Z Z<|wy (aC ak sz3 Z Z (rdr 1 Z))<|wy (aQ av Z Z (rdr 1 Z))<|wy (aC ak sz3 Z Z (rdr 0 Z) (by first|omega|(have a:=iT (s:=s) (n:=n) (b:=b) (p:=p-1) G G;rw[<-d] at a;omega)) (by first|omega|(have a:=iT (s:=s) (n:=n) (b:=b) (p:=p-1) G G;rw[<-d] at a;omega))) ?_;refine wy (aQ av Z Z (rdr 0 Z) (by first|omega|(have a:=iT (s:=s) (n:=n) (b:=b) (p:=p-1) G G;rw[<-d] at a;omega)) (by first|omega|(have a:=iT (s:=s) (n:=n) (b:=b) (p:=p-1) G G;rw[<-d] at a;omega))) ?_;exact wy (aC ak sz3 Z Z (rdr 0 Z))<|bN (bJ 0 Z sz3 Z Z)<|aJ<|bK<|wA Z Z<|aB Z<|⟨p+1,D,upd (upd V (rd D p) p) (rd D p) (rd (upd V (rd D p) p) (rd D (p-1))),⟨G,G,G,(by rw[aW,aW];exact C),(by subst d;exact aWe hn hb J G C M (by rw[<-hl,and_assoc];exact T))⟩,G,KP⟩
  exact aG<|bK<|wA Z Z<|aB Z<|⟨p+1,D,upd V (rd D p) p,⟨G,G,G,(by rw[aW];exact C),(by subst d;exact aNp hn hb J G C M (by rw[<-hl,and_assoc];exact T))⟩,G,KP⟩
 refine aP<|aD Z<|aL [0,1] 99<|⟨_,_,Z,Z,?_⟩;have Y:V=rkL s (n+b):=aWf C (λq h1 y=>by have:=M q h1 G;rw[d] at this;exact this);subst Y;subst d;rw[P,H];exact⟨_,_,_,_,Z,Z⟩
end
section
variable {w:World} {ao:AF} {ar an:Nat} {u:AH}
theorem aIy {i:Int} {j:Int} (am:R4 w ao ar an u) (d:0<=i/\i<=u.length/\0<=j/\j<=u.length):
  CF 183 #[sl ao ar an,I i,I j] w (λv R'=>v=I (cmpL (u.drop i.toNat) (u.drop j.toNat))):=by
 obtain rfl:=am.lenI;refine fn1 func183 Z Z Z<|aD Z<|aA<|aK 3 Z<|bD 5 [0,1,2] 14 (.bool (decide ((i<0)\/((u.length:Int)<i)))) Z ?_ ?_
 ·refine bB 9 Z ?_ ?_<;>intro ap
  ·exact aB Z<|KP
  exact aB Z<|KP
 refine pW 14 Z G<|bH 5 Z<|bD 5 [0,1,2] 24 (.bool (decide ((j<0)\/((u.length:Int)<j)))) Z ?_ ?_
 ·refine bB 19 Z ?_ ?_<;>intro b
  ·exact aB Z<|KP
  exact aB Z<|KP
 refine pW 24 Z G<|aJ<|aM Z<|aG<|aA<|bE mixed<|bF 0 2 Z<|wD 2 Z (dE ai sz5 Z Z)<|bF 3 2 Z<|wD 5 Z (dE ai sz5 Z Z)<|wC 6 Z (aH aSr Z (Ct.quiet (λw a=>DC ((RdC.fromI (am.c _) G) w a) ((RdC.fromI (am.c _) G) w a)))) ?_;rintro _ _⟨rfl,rfl⟩;refine⟨.inr hiZ,?_⟩;refine wD 7 Z (bY Z)<|wN<|aS<|⟨_,Z,?_⟩;rfl
theorem bTb (am:R4 w ao ar an u):
  CF 130 #[sl ao ar an] w (λv R'=>v= .bool (decide (oP u=true))):=by
 obtain rfl:=am.lenI;refine fn1 func130 Z Z Z ?_;have o:=am.max;refine aD Z<|aA<|aD Z<|aF<|iK (λ(i:Int)=>[(0,sl ao u.length an),(3,I i)]) (λi=>[]) (λi=>(1<=i)/\(i<=u.length+1)/\(∀r:Nat,0<r->(r:Int)<i->r<u.length->cmpL u (u.drop r)<0)) (λi=>(u.length+1-i).toNat) ?_ ?_
 ·exact⟨1,⟨G,G,(λr h1 b=>G)⟩,KP⟩
 intro i ⟨m,l,g⟩;refine aA<|aD Z<|aR Z ?_ ?_<;>intro ap
 ·refine aG<|aA<|aF<|aK 2 Z<|dZ bXq Z (λw k=>aIy ((am.c _) w k) ⟨G,G,G,G⟩)<|aB Z<|aR Z ?_ ?_<;>intro d
  ·refine aD Z<|aS<|⟨_,Z,?_⟩;exact bi Value.bool (mo λh=>by have:=((jL u).1 h).2 i.toNat G G;exact absurd d (Int.not_le.2 this)).symm
  refine aG<|aT 1 Z<|wA Z Z<|aB Z ?_
  exact⟨i+1,⟨G,G,(λr h1 b j=>by
    rcases bz (r:Int) i with a|a
    ·exact g r h1 a j
    have e:r=i.toNat:=G
    rw[e];exact Int.not_le.1 d)⟩,G,KP⟩
 refine aP<|aD Z<|aS<|⟨_,Z,?_⟩;exact bi Value.bool (sw.2 ⟨λh=>(jL u).2 ⟨G,λr h1 b=>g r h1 G b⟩,λh=>by have:=((jL u).1 h).1;omega⟩)
theorem aIp (am:R4 w ao ar an u) (D:u.length<=1000000):
  CF 68 #[sl ao ar an] w (λv R'=> ∃A c,v=sl A (eO u).length c/\R'=[(ri 3 A ((eO u).length) c (eO u))]):=by
 obtain rfl:=am.lenI;refine fn1 func68 Z Z Z ?_;have F:=am.max;refine aD Z<|wq<|dX (ri 3 none 0 0 ([]))<|aB Z<|aA<|aF<|sS (λ(A0:AF) (n0:Nat) (c0:Nat) (t:AH) (A1:AF) (d:Nat) (c1:Nat) (acc:AH)=>[(0,sl A0 n0 c0),(3,sl A1 d c1)]) (λA0 n0 c0 t A1 d c1 acc=>[(ri 3 A1 d c1 acc)]) (λA0 n0 c0 t A1 d c1 acc=>(R4 w A0 n0 c0 t)/\(d=acc.length)/\(eO u=acc++eO t)/\(acc.length<=u.length)) (λA0 n0 c0 t A1 d c1 acc=>t.length) ?_ ?_
 ·exact⟨ao,u.length,an,u,none,0,0,[],⟨(am),(Z),(Z),cD⟩,KP⟩
 intro A0 n0 c0 t A1 d c1 acc ⟨io,p,i,H⟩;have B:=io.lenI;have J:=io.max;refine aA<|aD Z<|aR Z ?_ ?_<;>intro ap
 ·refine aG<|aF<|aD Z<|aA<|aF<|iK (λ(n:Int)=>[(0,sl A0 n0 c0),(3,sl A1 d c1),(4,I n)]) (λn=>[(ri 3 A1 d c1 acc)]) (λn=>(1<=n)/\(n<=t.length)/\(jZ t t.length=jZ t n.toNat)) (λn=>n.toNat) ?_ ?_
  ·exact⟨(n0:Int),⟨G,G,(by rw[show(n0:Int).toNat=t.length by omega])⟩,KP⟩
  intro n ⟨x,j,m⟩;refine aA<|aK 2 Z<|wy (dV ai sz5 Z Z (io.c _))<|dZ bYp Z (λw y=>bTb ((RdC.toI (io.c _) G) w y))<|wy (pO Z)<|aJ<|aR Z ?_ ?_<;>intro o
  ·have k:=aHt x j o;exact aG<|aF<|aT 1 Z<|wS Z Z<|aB Z<|⟨n-1,⟨G,G,(by rw[m];exact k.2.symm)⟩,G,KP⟩
  have g:=aNi x (pg.1 o);have l:eO u=(acc++[n])++eO (t.drop n.toNat):=by rw[i,MX G,m,g,show jZ t n.toNat=n.toNat by omega,dx];rfl
  exact aP<|aK 2 Z<|aX (bG .i64 [n] ak zs3 Z Z Z) λC=>dG (aO 1 Z ak zb3 Z Z Z (rdr 0 Z)) λq r=>bC (v:=sl q (d+1) r) Z<|aB Z<|aT 2 Z<|wy (dE ai sz5 Z Z)<|aB Z<|⟨lL A0 (n).toNat c0 1,n0-(n).toNat,c0-(n).toNat,t.drop n.toNat,q,d+1,r,acc++([n]),⟨(io.fromI G),(by rw[aa,p];rfl),(l),(by rw[aa,dw];have a:=bi List.length l;have b:=KL u;rw[aa,aa,dw] at a;omega)⟩,(by rw[az];omega),SA,λ_ h=>h.sel [1] cC Z⟩
 refine aP<|aD Z<|aL [0] 99<|⟨_,Z,?_⟩;have e:t.length=0:=G
 rw[WA e,ik] at i;rw[i];obtain rfl:=p;exact⟨_,_,Z,Z⟩
theorem aOb (am:R4 w ao ar an u) (R:u.length<=1000000):
  CF 159 #[sl ao ar an] w (λv R'=> ∃A c,v=sl A (eO u).length c/\R'=[(ri 3 A ((eO u).length) c (eO u))]):=by
 obtain rfl:=am.lenI;refine fn1 func159 Z Z Z<|aD Z<|wq<|dX (ri 3 none 0 0 ([]))<|aB Z<|aA<|aD Z<|aF<|eT (λ(a:Int) (A1:AF) (d:Nat) (c1:Nat) (acc:AH)=>[(0,sl ao u.length an),(3,sl A1 d c1),(4,I a)]) (λa A1 d c1 acc=>[(ri 3 A1 d c1 acc)]) (λa A1 d c1 acc=>(0<=a)/\(a<=u.length)/\(d=acc.length)/\(acc.length<=a)/\(eO u=acc++eO (u.drop a.toNat))) (λa A1 d c1 acc=>(u.length-a).toNat) ?_ ?_
 ·exact⟨0,none,0,0,[],⟨G,G,(Z),cD,(Z)⟩,KP⟩
 intro a A1 d c1 acc ⟨m,M,H,O,C⟩;refine aA<|aD Z<|aR Z ?_ ?_<;>intro ap
 ·refine aG<|aF<|aK 2 Z<|wA Z Z<|aB Z<|aA<|aF<|dF (λ(i:Int) (j:Int)=>[(0,sl ao u.length an),(3,sl A1 d c1),(4,I a),(5,I i),(6,I j)]) (λi j=>[(ri 3 A1 d c1 acc)]) (λi j=>(a<=i)/\(i<j)/\(j<=u.length)/\(yE u a (j-i))/\(yC u a (j-i) (j-a))) (λi j=>(u.length-j).toNat) ?_ ?_
  ·exact⟨a,a+1,⟨G,G,G,(OQ.1),(OQ.2)⟩,KP⟩
  intro i j ⟨y,o,N,q,r⟩;refine aA<|lS [(0,sl ao u.length an),(3,sl A1 d c1),(4,I a),(5,I i),(6,I j),(28, .bool (decide ((j<(u.length:Int))/\((rd u i)<=(rd u j)))))] [(ri 3 A1 d c1 acc)] ?_ ?_
  ·refine bE mixed<|bF 0 5 Z<|gM 18 Z ?_ ?_<;>intro P
   ·exact bF 5 2 Z<|wG 7 Z Z Z (aC ai sz5 Z Z (am.c _))<|wG 8 Z Z Z (aQ ay Z Z (am.c _))<|bF 9 2 Z<|wG 11 Z Z Z (aC ai sz5 Z Z (am.c _))<|wG 12 Z Z Z (aQ ay Z Z (am.c _))<|bF 13 2 Z<|wN<|KP
   exact bF 5 10 Z<|wN<|KP
  refine aR Z ?_ ?_<;>intro D
  ·refine aG<|aF<|aA<|aA<|bE mixed<|bF 0 2 Z<|wD 2 Z (aC ai sz5 Z Z (am.c _))<|wD 3 Z (aQ ay Z Z (am.c _))<|bF 4 2 Z<|wD 6 Z (aC ai sz5 Z Z (am.c _))<|wD 7 Z (aQ ay Z Z (am.c _))<|wD 8 Z (fD Z Z)<|wN<|aR Z ?_ ?_<;>intro B
   ·exact sQ Z<|aT 1 Z<|wA Z Z<|aB Z<|⟨a,j+1,⟨G,G,G,((aJg m y o q r B).1),((aJg m y o q r B).2)⟩,G,KP⟩
   exact aT 1 Z<|wA Z Z<|aB Z<|aT 1 Z<|wA Z Z<|aB Z<|⟨i+1,j+1,⟨G,G,G,((aJh m y o q r D.2 B).1),((aJh m y o q r D.2 B).2)⟩,G,KP⟩
  refine aP<|aF<|eT (λ(b:Int) (A2:AF) (g:Nat) (c2:Nat) (k:AH)=>[(0,sl ao u.length an),(3,sl A2 g c2),(4,I b),(5,I i),(6,I j)]) (λb A2 g c2 k=>[(ri 3 A2 g c2 k)]) (λb A2 g c2 k=>(a<=b)/\(b<=j)/\(g=k.length)/\(k.length<=b)/\(eO u=k++eO (u.drop b.toNat))/\(b<=i->yE u b (j-i)/\yC u b (j-i) (j-b))) (λb A2 g c2 k=>(j-b).toNat) ?_ ?_
  ·exact⟨a,A1,d,c1,acc,⟨G,G,(H),(O),(C),(λ_=>⟨q,r⟩)⟩,KP⟩
  intro b A2 g c2 k ⟨T,S,L,x,F,l⟩;refine aA<|aD Z<|aR Z ?_ ?_<;>intro p
  ·exact aG<|aF<|aK 3 Z<|wS Z Z<|aX (bG .i64 [j-i] ak zs3 Z Z Z) λQ=>dG (aO 1 Z ak zb3 Z Z Z (rdr 0 Z)) λJ K=>bC (v:=sl J (g+1) K) Z<|aB Z<|aT 3 Z<|wS Z Z<|wA Z Z<|aB Z<|⟨b+(j-i),J,g+1,K,k++([j-i]),⟨G,G,(by rw[aa,L];rfl),(by rw[aa,dw];omega),(by rw[F,aXj G p o N (l p).1 (l p).2 D,dx];rfl),(λh=>aOl G o (l p).1 (l p).2 h)⟩,G,SA,λ_ h=>h.sel [1] cC Z⟩
  exact aP<|⟨b,A2,g,c2,k,⟨G,G,(L),(x),(F)⟩,G,KP⟩
 refine aP<|aD Z<|aL [0] 99<|⟨_,Z,?_⟩;have e:(u.drop a.toNat).length=0:=by rw[az];omega
 rw[WA e,ik] at C;rw[C];obtain rfl:=H;exact⟨_,_,Z,Z⟩
end
theorem OB (w:World):(callFunc 261 #[]).run Tryz.prog w= .ok (.value (.tuple #[])) w:=run_call_mark0 Tryz.func261 cA cA cA .disable cA w
theorem UA (w:World):(callFunc 263 #[]).run Tryz.prog w= .ok (.value (.tuple #[])) w:=run_call_mark0 Tryz.func263 cA cA cA .enable cA w
theorem aGt (a:Addr) (w:World):(callFunc 264 #[.pointer (some a)]).run Tryz.prog w= .ok (.value (.tuple #[])) w:=run_call_marked Tryz.func264 cA cA cA .acquire cA a w
theorem MJ (a:Addr) (w:World):(callFunc 266 #[.pointer (some a)]).run Tryz.prog w= .ok (.value (.tuple #[])) w:=run_call_marked Tryz.func266 cA cA cA .releaseMerge cA a w
theorem XN (a:Addr) (x:Value) (u:FrameMode) (w:World) (hc:w.cell? a=some x) (hz:w.frozen? a=false):
  CallsD Tryz.prog 219 #[.pointer (some a), .bool true] u w λe u' w'=>u'=u/\(e= .returned (.tuple #[])/\w'=w.drew.setCell a (.int .u32 1)):=by
 have hc':w.drew.cell? a=some x:=by go_simp
 have hz':w.drew.frozen? a=false:=by go_simp
 have fz:=run_call_store (P:=Tryz.prog) Tryz.func245 cA cA cA cA (k:= .u32) (y:=1) hc' hz'
 go_enter_d Tryz.func219,Tryz.ntmps219
 go_wp2
 go_region_calls
 all_goals (go_end0;exact⟨rfl,rfl⟩)
set_option maxRecDepth 100000 in
theorem RV (a:Addr) (u:FrameMode) (w:World) (hc:w.cell? a=some (.int .i32 1)) (hz:w.frozen? a=false):
  CallsD Tryz.prog 218 #[.pointer (some a)] u w λe u' w'=>u'=u/\(e= .returned (.tuple #[])/\w'=w.setCell a (.int .i32 0)):=by
 have hd:=OB;have he:=UA;have hr:=MJ;have Qq:=Hm (P:=Tryz.prog) Tryz.func220 cA cA cA .i32 cA (y:= -1) (s:=0) hc hz (by simp[go_sem];rfl);have hcv:=run_convert_to_unsafe (P:=Tryz.prog) (src:=302) (dst:=305) Tryz.underlying302 Tryz.underlying305 cA hc
 go_enter_d Tryz.func218,Tryz.ntmps218
 go_wp2
 go_end0
 go_wp2
 go_end0
 exact⟨rfl,rfl⟩
set_option maxRecDepth 100000 in
theorem bDx (a:Addr) (w:World) (hc:w.cell? a=some (.int .i32 0)) (hz:w.frozen? a=false):
  Calls Tryz.prog 217 #[.pointer (some a)] w λe w'=>e= .returned (.tuple #[])/\w'=w.setCell a (.int .i32 1):=by
 have hd:=OB;have he:=UA;have ha:=aGt;have hcas:=run_call_cas_hit (P:=Tryz.prog) Tryz.func262 cA cA cA .i32 cA (y:=1) hc hz;have hc':(w.setCell a (.int .i32 1)).cell? a=some (.int .i32 1):=World.cell?_setCell_same w a _ hc;have hcv:=run_convert_to_unsafe (P:=Tryz.prog) (src:=302) (dst:=305) Tryz.underlying302 Tryz.underlying305 cA hc'
 go_enter Tryz.func217,Tryz.ntmps217
 go_wp2
 first|go_end0|(simp only[Exit.inBlock,Exit.then];refine bodyPost_ret (results_none rfl _ _ _) rfl ?_)|refine bodyPost_ret (results_none rfl _ _ _) rfl ?_
 go_wp2
 go_end0
 exact⟨rfl,rfl⟩
section
variable {B:Nat} {w0:World} {R:List Row} {T g:Nat} {r r':Int} {t t':AH}
theorem KQ {w:World} {d s:Int} (h:Hp B w0 w (eG T g d s r t::R)) (j:Nat):w.frozen? ⟨g,j,none⟩=false:=h.openAt 0 j rfl rfl rfl
theorem KR {w:World} {d s:Int} (h:Hp B w0 w (eG T g d s r t::R)):w.cell? ⟨g,0,none⟩=some (.int .u32 d):=h.cellAt 0 (r:=eG T g d s r t) (j:=0) rfl rfl rfl
theorem aJo {w:World} {d s:Int} (h:Hp B w0 w (eG T g d s r t::R)):w.cell? ⟨g,1,none⟩=some (.int .i32 s):=h.cellAt 0 (r:=eG T g d s r t) (j:=1) rfl rfl rfl
theorem bHd {w:World} {d s:Int} (h:Hp B w0 w (eG T g d s r t::R)):w.cell? ⟨g,3,none⟩=some (.int .i32 r):=h.cellAt 0 (r:=eG T g d s r t) (j:=3) rfl rfl rfl
theorem aJn {w:World} {d s:Int} (h:Hp B w0 w (eG T g d s r t::R)) (x:Int):Hp B w0 (w.setCell ⟨g,0,none⟩ (.int .u32 x)) (eG T g x s r t::R):=h.set1 0 (r:=eG T g d s r t) (j:=0) (v:= .int .u32 x) rfl rfl rfl
theorem OT {w:World} {d s:Int} (h:Hp B w0 w (eG T g d s r t::R)) (x:Int):Hp B w0 (w.setCell ⟨g,1,none⟩ (.int .i32 x)) (eG T g d x r t::R):=h.set1 0 (r:=eG T g d s r t) (j:=1) (v:= .int .i32 x) rfl rfl rfl
theorem aJm {w:World} {d s:Int} (h:Hp B w0 w (eG T g d s r t::R)) (x:Int):Hp B w0 (w.setCell ⟨g,3,none⟩ (.int .i32 x)) (eG T g d s x t::R):=h.set1 0 (r:=eG T g d s r t) (j:=3) (v:= .int .i32 x) rfl rfl rfl
theorem bHe {w:World} {R:List Row} (h:Hp B w0 w R):Hp B w0 w.drew R:=h.drawn _ (Ij _)
set_option maxRecDepth 100000 in
theorem bDe {w:World} (hh:Hp B w0 w (eG T g 0 0 r t::R)) (hm: ∀w,Hp B w0 w (eG T g 0 1 r t::R)->Calls Tryz.prog 116 #[.pointer (some ⟨g,0,none⟩)] w λe w'=>e= .returned (.tuple #[])/\Hp B w0 w' (eG T g 0 1 r' t'::R)):
  Calls Tryz.prog 174 #[.pointer (some ⟨g,0,none⟩), .func (.func 116) #[.pointer (some ⟨g,0,none⟩)] #[]] w λe w'=>e= .returned (.tuple #[])/\Hp B w0 w' (eG T g 1 0 r' t'::R):=by
 have h1:=OT hh 1;have hl:=run_call_load (P:=Tryz.prog) Tryz.func216 cA cA cA .u32 cA (KR h1);have Rf: ∀(x:Bool) (w:World),(Op.unary .not (.bool x)).run Tryz.prog w= .ok (.bool (!x)) w:=λ_ _=>rfl;have k1:=aJo hh;have k2:=KQ hh 1
 go_enter_defers Tryz.func174,Tryz.ntmps174
 go_wp2_with (first|(go_at_call 217;refine(bDx ⟨g,1,none⟩ _ (by go_simp) (by go_simp)).mono ?_;rintro e w' ⟨rfl,rfl⟩)|(go_at_call 116;refine(hm _ h1).mono ?_;rintro e w' ⟨rfl,h2⟩)|(go_at_call 173;go_in))
 refine leaves_cons (f:=219) (args:= #[.pointer (some ⟨g,0,none⟩), .bool true]) cD (by simp[go_sem]) ?_;refine(XN ⟨g,0,none⟩ _ .returning _ (KR h2) (KQ h2 0)).mono ?_;rintro e u' Vy ⟨rfl,rfl,rfl⟩;have h3:=aJn (bHe h2) 1;refine leaves_cons (f:=218) (args:= #[.pointer (some ⟨g,1,none⟩)]) (by simp[settle]) (by simp[go_sem]) ?_;refine(RV ⟨g,1,none⟩ _ _ (aJo h3) (KQ h3 1)).mono ?_;rintro e u' Vy ⟨rfl,rfl,rfl⟩;have h4:=OT h3 0;simp[Leaves,settle,results,Tryz.results174];exact h4
set_option maxRecDepth 100000 in
theorem aVm (hm: ∀w,Hp B w0 w (eG T g 0 1 r t::R)->Calls Tryz.prog 116 #[.pointer (some ⟨g,0,none⟩)] w λe w'=>e= .returned (.tuple #[])/\Hp B w0 w' (eG T g 0 1 r' t'::R)):
  Ct Tryz.prog 115 #[.pointer (some ⟨g,0,none⟩), .func (.func 116) #[.pointer (some ⟨g,0,none⟩)] #[]] B w0 (eG T g 0 0 r t::R) (λv R'=>v= .tuple #[]/\R'=eG T g 1 0 r' t'::R):=by
 intro w hh;have hl:=run_call_load (P:=Tryz.prog) Tryz.func216 cA cA cA .u32 cA (KR hh);have Rf: ∀(x:Bool) (w:World),(Op.unary .not (.bool x)).run Tryz.prog w= .ok (.bool (!x)) w:=λ_ _=>rfl
 go_enter Tryz.func115,Tryz.ntmps115
 go_wp2_with (first|(go_at_call 174;refine(bDe hh hm).mono ?_;rintro e w' ⟨rfl,h2⟩)|(go_at_call 173;go_in))
 go_end0
 exact⟨_,_,rfl,h2,rfl,rfl⟩
theorem bDf {fv:Value}:Ct Tryz.prog 115 #[.pointer (some ⟨g,0,none⟩),fv] B w0 (eG T g 1 0 r t::R) (λv R'=>v= .tuple #[]/\R'=eG T g 1 0 r t::R):=by
 intro w hh;have hl:=run_call_load (P:=Tryz.prog) Tryz.func216 cA cA cA .u32 cA (KR hh);have Rf: ∀(x:Bool) (w:World),(Op.unary .not (.bool x)).run Tryz.prog w= .ok (.bool (!x)) w:=λ_ _=>rfl
 go_enter Tryz.func115,Tryz.ntmps115
 go_wp2
 go_end0
 exact⟨_,_,rfl,hh,rfl,rfl⟩
theorem bKb (hr:0<=r/\r<1000000): ∀ {d s:Int} {w:World},Hp B w0 w (eG T g d s r t::R)-> ∃w',(callFunc 220 #[.pointer (some ⟨g,3,none⟩), .int .i32 1]).run Tryz.prog w= .ok (.value (.int .i32 (r+1))) w'/\Hp B w0 w' (eG T g d s (r+1) t::R):=by
 intro d s w hh;refine⟨_,Hm (P:=Tryz.prog) Tryz.func220 cA cA cA .i32 cA (y:=1) (s:=r+1) (bHd hh) (KQ hh 3) ?_,aJm hh (r+1)⟩;have:IntKind.i32.wrap (r+1)=r+1:=by rw[IntKind.wrap_i32];omega
 simp[Op.intArith,this]
end
section
variable {w w0:World} {B T g:Nat} {R:List Row} {d s r r':Int} {t:AH}
theorem aNf {i:Int}:
  CF 123 #[I i] w (λv R'=>v= .int .u32 (bv (YE (BitVec.ofInt 32 i)))):=by
 refine fn1 func123 Z Z Z<|aD Z<|aK 1 Z<|wy (aCb av qm Z)<|aB Z<|aA<|aD Z<|aF<|dF (λ(k:Int) (x:BitVec 32)=>[(3, .int .u32 (bv x)),(4,I k)]) (λk x=>[]) (λk x=>(0<=k)/\(k<=8)/\(YE (BitVec.ofInt 32 i)=NH (8-k).toNat x)) (λk x=>(8-k).toNat) ?_ ?_
 ·exact⟨0,BitVec.ofInt 32 i,⟨G,G,(Z)⟩,KP⟩
 intro k x ⟨e,b,a⟩;refine aA<|aD Z<|aR Z ?_ ?_<;>intro ap
 ·refine aG<|aA<|aF<|aK 1 Z<|wy (aKw (p:=x) (q:=1#32) Z Z)<|wy (bOo (p:=x &&& (1#32)) (q:=1#32) Z Z)<|aJ<|aR Z ?_ ?_<;>intro d
  ·exact aT 1 Z<|wy (RA (k:=1) Z Z Z)<|wy (LY (p:=x>>>1) (q:=3988292384#32) Z Z)<|aB Z<|aT 1 Z<|wA Z Z<|aB Z<|⟨k+1,(x>>>1)^^^(3988292384#32),⟨G,G,(by rw[a,ET G];unfold aBg;rw[cz cF])⟩,G,KP⟩
  exact aT 1 Z<|wy (RA (k:=1) Z Z Z)<|aB Z<|aT 1 Z<|wA Z Z<|aB Z<|⟨k+1,x>>>1,⟨G,G,(by rw[a,ET G];unfold aBg;rw[bq cF])⟩,G,KP⟩
 refine aP<|aD Z<|aS<|⟨_,Z,?_⟩;obtain rfl:k=8:=G
 rw[a];rfl
theorem JB {ao:AF} {ar an:Nat} {u:AH} (am:R4 w ao ar an u) (a:aI u):
  CF 63 #[sl ao ar an] w (λv R'=>v= .int .u32 (bv (lG u))):=by
 obtain rfl:=am.lenI;refine fn1 func63 Z Z Z ?_;have h:=am.max;refine aD Z<|aD Z<|aA<|aD Z<|aF<|dF (λ(k:Int) (x:BitVec 32)=>[(0,sl ao u.length an),(3, .int .u32 (bv x)),(4,I k)]) (λk x=>[]) (λk x=>(0<=k)/\(k<=u.length)/\(KZ 4294967295#32 u=KZ x (u.drop k.toNat++[]))) (λk x=>(u.length-k).toNat) ?_ ?_
 ·exact⟨0,4294967295#32,⟨G,G,(by rw[ik];rfl)⟩,KP⟩
 intro k x ⟨d,i,b⟩;refine aA<|aD Z<|aR Z ?_ ?_<;>intro ap
 ·refine aG<|aA<|aF<|aT 1 Z<|wy (RA (k:=8) Z Z Z)<|wm Z<|wy (pV qm ay Z)<|bH 2 Z<|wy (aC ai sz5 Z Z (am.c _))<|wy (aQ ay Z Z (am.c _))<|wy (bQq Z Z)<|wy (gV ay av Z (by have:=bQo (x:=x) (a.rd k);have:=QT (x:=x) (a.rd k);omega)) ?_;exact dZ bYt Z (λw g=>aNf)<|wy (LY Z Z)<|aB Z<|aT 1 Z<|wA Z Z<|aB Z<|⟨k+1,(x>>>8)^^^(YE (BitVec.ofInt 32 ((BitVec.ofInt 8 (IntKind.u8.wrap (bv x))^^^BitVec.ofInt 8 (rd u k)).toNat:Int))),⟨G,G,(by rw[b,WW d G];have e:=bQo (x:=x) (a.rd k);rw[e,uR];rfl)⟩,G,KP⟩
 refine aP<|aK 1 Z<|wy (bQt (p:=x) Z)<|aB Z<|aS<|⟨_,Z,?_⟩;refine bi (Value.int .u32) (bi bv ?_);rw[WG G] at b;unfold lG;rw[b,BitVec.xor_comm];rfl
theorem bHq (w:World):(Instr.build 171 #[]).run Tryz.prog w= .ok (.agg (zK 0 0 0 (List.replicate 256 0)).toArray) w:=cA
theorem uB:
  CF 57 #[] w (λv R'=> ∃g,v=PG g/\R'=[eG 171 g 0 0 0 (List.replicate 256 0)]):=by
 exact fn1 func57 Z Z Z<|aD Z<|wq<|wy (aZa bHq)<|aX (dC (sz:=260) Z cA) λa=>aB Z<|aL [0] 99<|⟨_,Z,_,Z,Z⟩
theorem aXq (a:0<=r/\r<1000000):
  CT 175 #[.pointer (some ⟨g,3,none⟩), .int .i32 1] B w0 (eG T g d s r t::R) (λv R'=>v= .int .i32 (r+1)/\R'=eG T g d s (r+1) t::R):=by
 exact fn1 func175 Z Z Z<|aD Z<|aK 4 Z<|dD (aTj Z (λw b=>bKb a b))<|aB Z<|aS<|⟨_,Z,Z,Z⟩
theorem aJp (w:0<=r/\r<1000000) (a:t.length=256):
  CT 116 #[PG g] B w0 (eG T g d s r t::R) (λv R'=>v= .tuple #[]/\R'=eG T g d s (r+1) wZ::R):=by
 refine fn0 func116 Z Z Z<|aK 2 Z<|wy (yF 3 3 underlying171 bVb Z)<|dD (aH bXy Z (Ct.at 0 Z (aXq G)))<|aJ<|aD Z<|aF<|iK (λ(k:Int)=>[(0,PG g),(9,I k)]) (λk=>(eG T g d s (r+1) (wZ.take k.toNat++t.drop k.toNat)::R)) (λk=>(0<=k)/\(k<=256)) (λk=>(256-k).toNat) ?_ ?_
 ·exact⟨0,⟨G,G⟩,KP⟩
 intro k ⟨i,y⟩;refine aD Z<|aA<|aR Z ?_ ?_<;>intro ap
 ·refine aG<|aA<|aF<|aD Z<|aK 1 Z<|wy (aCb av qm Z)<|aB Z<|aA<|aD Z<|aF<|dF (λ(j:Int) (x:BitVec 32)=>[(0,PG g),(2,I k),(3, .int .u32 (bv x)),(9,I k),(14,I j)]) (λj x=>(eG T g d s (r+1) (wZ.take k.toNat++t.drop k.toNat)::R)) (λj x=>(0<=j)/\(j<=8)/\(YE (BitVec.ofInt 32 k)=NH (8-j).toNat x)) (λj x=>(8-j).toNat) ?_ ?_
  ·exact⟨0,BitVec.ofInt 32 k,⟨G,G,(Z)⟩,KP⟩
  intro j x ⟨A,m,b⟩;refine aD Z<|aA<|aR Z ?_ ?_<;>intro o
  ·refine aG<|aA<|aF<|aK 1 Z<|wy (aKw (p:=x) (q:=1#32) Z Z)<|aB Z<|aK 1 Z<|wy (RA (k:=1) Z Z Z)<|aB Z<|aK 1 Z<|wy (bOo (p:=x &&& (1#32)) (q:=1#32) Z Z)<|aJ<|aR Z ?_ ?_<;>intro u
   ·exact aT 1 Z<|wy (LY (p:=x>>>1) (q:=3988292384#32) Z Z)<|aB Z<|bK<|wA Z Z<|aB Z<|⟨j+1,(x>>>1)^^^(3988292384#32),⟨G,G,(by rw[b,ET G];unfold aBg;rw[cz cF])⟩,G,KP⟩
   exact aG<|bK<|wA Z Z<|aB Z<|⟨j+1,x>>>1,⟨G,G,(by rw[b,ET G];unfold aBg;rw[bq cF])⟩,G,KP⟩
  refine aP<|aT 4 Z<|wy (yF 4 4 underlying171 bVa Z)<|wy (YH 0 Z Z underlying169 bRm Z Z (by show _<(zK _ _ _ _).length;rw[NI,aa,ax,az,CJ,a];omega) G G) ?_;refine bN (aV 0 Z Z Z bRm Z Z Z Z (by show _<(zK _ _ _ _).length;rw[NI,aa,ax,az,CJ,a];omega)) ?_;refine gW (R1:=(eG T g d s (r+1) (wZ.take (k+1).toNat++t.drop (k+1).toNat)::R)) (by have l:j=8:=G;subst l;have h:=aXo a i (show k<256 by omega);rw[b] at h;simp only[Ho,eG,aXp];rw[<-h];rfl) ?_;exact aJ<|bK<|wA Z Z<|aB Z<|⟨k+1,⟨G,G⟩,G,KP⟩
 refine aP ?_
 skip
 obtain rfl:k=256:=G
 refine⟨Z,?_⟩;have e:wZ.take (256:Int).toNat++t.drop (256:Int).toNat=wZ:=by rw[bg (by rw[CJ];decide),og (by rw[a];decide),ik]
 rw[e]
theorem bLh {g:Nat} (fz:(d=0/\r'=r+1/\t.length=256/\0<=r/\r<1000000)\/(d=1/\r'=r/\t=wZ)):
  CT 115 #[PG g, .func (.func 116) #[PG g] #[]] B w0 (eG T g d 0 r t::R) (λv R'=>v= .tuple #[]/\R'=eG T g 1 0 r' wZ::R):=by
 rcases fz with⟨rfl,rfl,ht,hr⟩|⟨rfl,rfl,rfl⟩
 ·exact aVm (λw hw=>(aJp hr ht w hw).mono (by rintro e w' ⟨v,R',rfl,hh,rfl,rfl⟩;exact⟨rfl,hh⟩))
 ·exact bDf
theorem uA {A:AF} {m c:Nat} {vals:AG} {ls:AD} (D:(d=0/\r'=r+1/\t.length=256/\0<=r/\r<1000000)\/(d=1/\r'=r/\t=wZ)) (o:RdC B w0 R A m c 1 vals) (J:m=vals.length) (e:HZ B w0 R vals ls) (i:Big ls):
  CT 58 #[PG g,sl A m c] B w0 (eG T g d 0 r t::R) (λv R'=>v= .int .u32 (bv (lG ls.flatten))/\R'=eG T g 1 0 r' wZ::R):=by
 refine fn1 func58 Z Z Z ?_;have i8:=i.1;have L:=e.1;refine aD Z<|aA<|aK 1 Z<|wy (kT underlying105 Z Z)<|aJ<|aM Z<|aG<|aK 4 Z<|wy (oI Z Z)<|dD (aH bYx Z (Ct.at 0 Z (bLh D)))<|aJ<|aD Z<|aA<|aD Z<|aF<|dF (λ(k:Int) (x:BitVec 32)=>[(0,PG g),(5, .int .u32 (bv x)),(18,sl A m c),(19,I (m:Int)),(20,I k)]) (λk x=>(eG T g 1 0 r' wZ::R)) (λk x=>(0<=k)/\(k<=m)/\(KZ 4294967295#32 ls.flatten=KZ x (ls.drop k.toNat).flatten)) (λk x=>(m-k).toNat) ?_ ?_
 ·exact⟨0,4294967295#32,⟨G,G,(Z)⟩,KP⟩
 intro k x ⟨l,K,a⟩;refine aD Z<|aA<|aR Z ?_ ?_<;>intro ap
 ·refine aG<|aA<|aF<|wq<|wy (aC dm iZ Z Z (RdC.tail o)) ?_;obtain⟨A1,c1,l1,C,w,h,b⟩:=e.at l (by have:=e.1;omega);have M:=i.2 _ _ w;refine wy (kS ai Z Z Z (RdC.tail o) C)<|aB Z<|aD Z<|aF<|dF (λ(j:Int) (y:BitVec 32)=>[(0,PG g),(5, .int .u32 (bv y)),(18,sl A m c),(19,I (m:Int)),(20,I k),(24,sl A1 l1.length c1),(25,I (l1.length:Int)),(26,I j)]) (λj y=>(eG T g 1 0 r' wZ::R)) (λj y=>(0<=j)/\(j<=l1.length)/\(KZ 4294967295#32 ls.flatten=KZ y (l1.drop j.toNat++(ls.drop (k+1).toNat).flatten))) (λj y=>(l1.length-j).toNat) ?_ ?_
  ·exact⟨0,x,⟨G,G,(by rw[a,drop_flat l w];rfl)⟩,KP⟩
  intro j y ⟨F,v6,u⟩;refine aD Z<|aA<|aR Z ?_ ?_<;>intro H
  ·refine aG<|aA<|aF<|wq<|wy (aC ai sz5 Z Z (RdC.tail h))<|wy (aQ ay Z Z (RdC.tail h))<|aB Z<|aT 1 Z<|wy (RA (k:=8) Z Z Z)<|bH 2 Z<|wy (aKw (p:=y) (q:=255#32) Z Z)<|wm Z<|wy (aCb ay qm Z)<|wy (LY Z Z)<|bH 2 Z<|wy (YH 0 Z Z underlying169 bRm Z Z (by show _<(zK _ _ _ _).length;rw[NI,CJ];omega) (by exact(QT (x:=y) (b.rd j)).1) (by exact(QT (x:=y) (b.rd j)).2)) ?_;exact wy (bQu 0 Z Z qm Z Z (bHf (bNe (QT (x:=y) (b.rd j)).2)))<|wy (LY Z Z)<|aB Z<|bK<|wA Z Z<|aB Z<|⟨j+1,(y>>>8)^^^(YE (aKb y (rd l1 j))),⟨G,G,(by rw[u,WW F G];rfl)⟩,G,KP⟩
  exact aP<|bK<|wA Z Z<|aB Z<|⟨k+1,y,⟨G,G,(by rw[u,WG G];rfl)⟩,G,KP⟩
 refine aP<|aK 1 Z<|wy (LY (p:=x) (q:=4294967295#32) Z Z)<|aB Z<|aS<|⟨_,Z,?_⟩;refine⟨?_,Z⟩;rw[WG G] at a;unfold lG;rw[a];rfl
end
section
variable {w:World} {ao:AF} {ar an:Nat} {u:AH}
theorem aVz (am:R4 w ao ar an u) (a:aI u) (b:0<u.length) (g:u.length<=1000000):
  CF 176 #[sl ao ar an] w (λv R'=>v=I (lp u)):=by
 obtain rfl:=am.lenI;refine fn1 Tryz.func176 Z Z Z<|aD Z<|aA<|aD Z<|aF<|iK (λ(p:Int)=>[(0,sl ao u.length an),(3,I p)]) (λp=>[]) (λp=>(1<=p)/\(p<=u.length+1)/\(lp u=lpF u ((u.length:Int)+1-p).toNat p)) (λp=>((u.length:Int)+1-p).toNat) ?_ ?_
 ·exact⟨1,⟨G,G,(by unfold lp;congr 1;omega)⟩,KP⟩
 intro p ⟨i,h,hl⟩;refine aA<|aD Z<|aR Z ?_ ?_<;>intro ap
 ·refine aG<|aA<|aF<|aA<|bE mixed<|bF 0 2 Z<|wD 2 Z (dE ai sz5 Z Z)<|wD 3 Z (gL ai ay qh Z (RdC.fromI (am.c _) G))<|bF 4 4 Z<|wD 8 Z (oH Z Z)<|wD 9 Z (dV ai sz5 Z Z (am.c _))<|wD 10 Z (gL ai ay qh Z (RdC.toI (am.c _) G))<|wD 11 Z (YK Z Z (aI.drop a _) (aI.take a _))<|wN<|aR Z ?_ ?_<;>intro e
  ·refine aD Z<|aS<|⟨_,Z,?_⟩;exact bi (Value.int .i64) (by rw[hl,aRo G cF])
  exact aG<|aT 1 Z<|wA Z Z<|aB Z<|⟨p+1,⟨G,G,(by rw[hl,bDw G cF];congr 1;omega)⟩,G,KP⟩
 refine aP<|aD Z<|aS<|⟨_,Z,?_⟩;have:=VH b;have d:((u.length:Int)+1-p).toNat=0:=G
 rw[d] at hl;unfold lpF at hl;omega
theorem TE (am:R4 w ao ar an u) (g:aI u) (a:0<u.length) (i:u.length<=1000000):
  CF 117 #[sl ao ar an] w (λv R'=>v= .tuple #[sl ao (rl u).toNat an,I ((u.length:Int)/rl u)]):=by
 obtain rfl:=am.lenI;refine fn2 Tryz.func117 Z Z Z ?_;have d:=VH a;refine aD Z<|aK 1 Z<|dZ bXx Z (λw b=>aVz ((am.c _) w b) cE cE cE)<|aB Z<|aA<|aD Z<|aR Z ?_ ?_<;>intro ap
 ·refine aD Z<|aS<|⟨_,_,Z,Z,?_⟩;omega
 refine aG<|aA<|aK 3 Z<|wy (uF Z Z)<|aB Z<|aR Z ?_ ?_<;>intro h
 ·refine sQ Z<|aA<|bE mixed<|bF 0 2 Z<|wD 2 Z (dV ai sz5 Z Z (am.c _))<|bF 3 3 Z<|wD 6 Z (zP Z Z G G G)<|bF 7 2 Z<|wN<|aS<|⟨_,_,Z,Z,?_⟩;have e:rl u=u.length:=by unfold rl;rw[cz cF]
  rw[e]
 refine aG<|aA<|bE mixed<|bF 0 2 Z<|wD 2 Z (dV ai sz5 Z Z (am.c _))<|bF 3 3 Z<|wD 6 Z (zP Z Z G G G)<|bF 7 2 Z<|wN<|aS<|⟨_,_,Z,Z,?_⟩;have e:rl u=lp u:=by unfold rl;rw[bq cF]
 rw[e]
end
section
variable {w:World} {o last:Int}
theorem AZ {ie:Int}:
  CF 138 #[I ie] w (λv R'=>v=I (gU ie)):=by
 refine fn1 func138 Z Z Z<|aD Z<|aA<|aD Z<|aR Z ?_ ?_<;>intro ap
 ·refine aD Z<|aS<|⟨_,Z,?_⟩;exact bi (Value.int .i64) (by unfold gU;rw[cz cF])
 refine aG<|aA<|aD Z<|aR Z ?_ ?_<;>intro a
 ·refine aD Z<|aS<|⟨_,Z,?_⟩;exact bi (Value.int .i64) (by unfold gU;rw[bq cF,cz G])
 refine aG<|aD Z<|aS<|⟨_,Z,?_⟩;exact bi (Value.int .i64) (by unfold gU;rw[bq cF,bq G])
theorem FO (a:o=0\/o=1) (hk:gU last*o=0):
  CF 77 #[I o,I last] w (λv R'=>v=I 0):=by
 refine fn1 Kn Z Z Z<|aD Z<|aA<|aD Z<|aR Z ?_ ?_<;>intro ap
 ·refine aD Z<|aS<|⟨_,Z,?_⟩;exact bi (Value.int .i64) (by first|rfl|(rw[(by assumption:o=0)] at hk;omega))
 refine aG<|aK 1 Z<|dZ bGo Z (λw b=>AZ)<|aB Z<|aS<|⟨_,Z,?_⟩;exact bi (Value.int .i64) (by rw[show o=1 by omega] at hk;omega)
theorem FN (a:o=0\/o=1) (hk:gU last*o=1):
  CF 77 #[I o,I last] w (λv R'=>v=I 1):=by
 refine fn1 Kn Z Z Z<|aD Z<|aA<|aD Z<|aR Z ?_ ?_<;>intro ap
 ·refine aD Z<|aS<|⟨_,Z,?_⟩;exact bi (Value.int .i64) (by first|rfl|(rw[(by assumption:o=0)] at hk;omega))
 refine aG<|aK 1 Z<|dZ bGo Z (λw b=>AZ)<|aB Z<|aS<|⟨_,Z,?_⟩;exact bi (Value.int .i64) (by rw[show o=1 by omega] at hk;omega)
theorem FM (a:o=0\/o=1) (hk:gU last*o=2):
  CF 77 #[I o,I last] w (λv R'=>v=I 2):=by
 refine fn1 Kn Z Z Z<|aD Z<|aA<|aD Z<|aR Z ?_ ?_<;>intro ap
 ·refine aD Z<|aS<|⟨_,Z,?_⟩;exact bi (Value.int .i64) (by first|rfl|(rw[(by assumption:o=0)] at hk;omega))
 refine aG<|aK 1 Z<|dZ bGo Z (λw b=>AZ)<|aB Z<|aS<|⟨_,Z,?_⟩;exact bi (Value.int .i64) (by rw[show o=1 by omega] at hk;omega)
theorem JH:
  CF 76 #[] w (λv R'=> ∃(g g0 g1 g2:Nat) (A0 A1 A2:AF) (c0 c1 c2:Nat),v=sl (GG g) 3 3/\R'=[⟨125,1,(GG g),3,3,[Value.pointer (GG g0),Value.pointer (GG g1),Value.pointer (GG g2)],false⟩,(rc 191 1 g0 [sl A0 258 c0]),(ri 3 A0 258 c0 FC),(rc 191 1 g1 [sl A1 258 c1]),(ri 3 A1 258 c1 FC),(rc 191 1 g2 [sl A2 258 c2]),(ri 3 A2 258 c2 FC)]):=by
 exact fn1 func76 Z Z Z<|aD Z<|wq<|aCc (aH bGp Z (Ct.fresh (λw a=>yN))) λb e h=>aCc (aH bGp Z (Ct.fresh (λw a=>yN))) λf8 jp k=>aCc (aH bGp Z (Ct.fresh (λw a=>yN))) λd j i=>aX (jD [Value.pointer (GG b),Value.pointer (GG f8),Value.pointer (GG d)] Gb bUj Z Z Z Z) λl=>aB Z<|aL [0,5,6,3,4,1,2] 99<|⟨_,Z,_,_,_,_,_,_,_,_,_,_,Z,Z⟩
theorem TD {lf:AF} {rj lj:Nat} {b:AH} (Y:R4 w lf rj lj b) (go:aI b) (T:o=0\/o=1) (hN:b.length<=100000):
  CF 61 #[sl lf rj lj,I o] w (λv R'=> ∃A c,v= .tuple #[sl A (bT b o).length c,bt]/\R'=[(ru 5 A ((bT b o).length) c (bT b o))]):=by
 obtain rfl:=Y.lenI;refine fn2 func61 Z Z Z ?_;have X:=qA go;have iz:=DI b;have Ms:=uI (dY bQ b) 0;rw[jR] at Ms;have j5:(bW b).length=(dR 0 (dY bQ b)).length+1:=by unfold bW;rw[aa];rfl
 refine aD Z<|aA<|aK 1 Z<|wy (Yl.f (fD Z Z))<|bH 2 Z<|aN Z Z<|wy (Yl.f (iL Z Z))<|bH 4 Z<|aN Z Z<|wy (Yl.f (iL Z Z))<|aB Z<|aM Z<|aG<|aK 1 Z<|bZ bYv Z (λw q=>aMh ((Y.c _) w q) go G) λS Q=>bZ bQm Z (λw q=>TB ((rdr 0 Z) w q) (oM go) (by rw[jR];omega)) λmc me=> ?_;refine aX (bG .i64 [257] ak zs3 Z Z Z) λO=>dG (aO 1 Z ak zb3 Z Z Z (rdr 0 Z)) λJ H=>bC (v:=sl J (((dR 0 (dY bQ b)).length)+1) H) Z<|aB Z<|wq<|wa (aH bVo Z (Ct.fresh (λw q=>JH))) ?_;rintro _ _⟨_,rfl,K,B,C,D,u,r,m,p,x,y,rfl,rfl⟩;refine aB Z<|wq<|aCc (aH bYu Z (Ct.fresh (λw q=>PH))) λM oa ob=>aB Z<|aD Z<|aA<|aD Z<|aF<|eT (λ(i:Int) (last:Int) (g:AF) (j:Nat) (a:PpS)=>[(1,I o),(6,sl J (((dR 0 (dY bQ b)).length)+1) H),(7,sl (GG K) 3 3),(8,PG M),(9,I last),(10,I i)]) (λi last g j a=>[(rc 179 2 M [sl g (a.cd.k+4) j, .int .u64 a.cd.R]),(ru 5 g (a.cd.k+4) j (beL (a.cd.k+4) a.cd.N)),⟨125,1,(GG K),3,3,[Value.pointer (GG B),Value.pointer (GG C),Value.pointer (GG D)],false⟩,(rc 191 1 B [sl u 258 p]),(ri 3 u 258 p a.c0),(rc 191 1 C [sl r 258 x]),(ri 3 r 258 x a.c1),(rc 191 1 D [sl m 258 y]),(ri 3 m 258 y a.c2),(ri 3 (GG O) 1 1 ([257])),(ri 3 J (((dR 0 (dY bQ b)).length)+1) H (syb b)),(ru 5 S ((b).length) Q (dY bQ b))]) (λi last g j a=>(0<=i)/\(i<=(bW b).length)/\(a.cls=gU last)/\(a=encP o ((bW b).take i.toNat))) (λi last g j a=>((bW b).length-i).toNat) ?_ ?_
 ·exact⟨0,0,oa,ob,pp0,⟨G,G,(Z),(Z)⟩,KP⟩
 intro i last g j a ⟨P,gn,mt,F⟩;have d:=aSo X F;refine aA<|aD Z<|aR Z ?_ ?_<;>intro ap
 ·have l:=X _ (bM (L:=bW b) (k:=i) P G);refine aG<|aA<|aF<|wq ?_;rcases KW d.1 T with hk|hk|hk
  ·refine bH 3 Z<|dZ bMw Z (λw q=>FO T (by rw[<-mt];exact hk)) ?_;refine wy (aC Gb aQd Z Z (rdr 2 Z))<|wy (kS Jg Z Z Z (rdr 2 Z) Z)<|aB Z<|aK 3 Z<|wy (aC ak sz3 Z Z (rdr 10 Z))<|wy (aQ av Z Z (rdr 10 Z))<|dD (aH bMv Z (Ct.pk [3,4,0,1,2,5,6,7,8,9,10,11] 99 (h:=mE (by rw[d.1.1.1.1]) (by rw[d.1.1.1.1];exact l) d.1.1.1))) ?_;refine aB Z<|aK 4 Z<|dD (aH aXc Z (Ct.sub (R1:=[(rc 191 1 B [sl u 258 p]),(ri 3 u 258 p a.c0),(rc 179 2 M [sl g (a.cd.k+4) j, .int .u64 a.cd.R]),(ru 5 g (a.cd.k+4) j (beL (a.cd.k+4) a.cd.N)),⟨125,1,(GG K),3,3,[Value.pointer (GG B),Value.pointer (GG C),Value.pointer (GG D)],false⟩,(rc 191 1 C [sl r 258 x]),(ri 3 r 258 x a.c1),(rc 191 1 D [sl m 258 y]),(ri 3 m 258 y a.c2),(ri 3 (GG O) 1 1 ([257])),(ri 3 J (((dR 0 (dY bQ b)).length)+1) H (syb b)),(ru 5 S ((b).length) Q (dY bQ b))]) hiZ (jT (by rw[d.1.1.1.1]) d.1.1.1.le))) ?_;refine dG (aH bGr Z (Ct.pk [2,3,0,1,4,5,6,7,8,9,10,11] 99 (h:=MF Z d.1.2.2 (lC d.1.1.1 l.1 l.2) G))) λnd nh=>aJ<|aK 3 Z<|wy (aC ak sz3 Z Z (rdr 10 Z))<|wy (aQ av Z Z (rdr 10 Z))<|dD (aH bMu Z (Ct.pk [2,3,0,1,4,5,6,7,8,9,10,11] 99 (h:=nI (by rw[d.1.1.1.1]) (by rw[d.1.1.1.1];exact l) d.1.1.1))) ?_;exact aJ<|aT 2 Z<|wy (aC ak sz3 Z Z (rdr 10 Z))<|wy (aQ av Z Z (rdr 10 Z))<|aB Z<|aT 1 Z<|wA Z Z<|aB Z<|⟨i+1,rd (syb b) i,nd,nh,(⟨nS a.c0 (rd (bW b) i),a.c1,a.c2,gU (rd (bW b) i),mM a.cd a.c0 (rd (bW b) i)⟩:PpS),⟨G,G,(Z),(xG F P G (aQi hk))⟩,G,SA,λ_ h=>h.sel [2,3,4,0,1,5,6,7,8,9,10,11] cC Z⟩
  ·refine bH 3 Z<|dZ bMw Z (λw q=>FN T (by rw[<-mt];exact hk)) ?_;refine wy (aC Gb aQd Z Z (rdr 2 Z))<|wy (kS Jg Z Z Z (rdr 2 Z) Z)<|aB Z<|aK 3 Z<|wy (aC ak sz3 Z Z (rdr 10 Z))<|wy (aQ av Z Z (rdr 10 Z))<|dD (aH bMv Z (Ct.pk [5,6,0,1,2,3,4,7,8,9,10,11] 99 (h:=mE (by rw[d.1.1.2.1.1]) (by rw[d.1.1.2.1.1];exact l) d.1.1.2.1))) ?_;refine aB Z<|aK 4 Z<|dD (aH aXc Z (Ct.sub (R1:=[(rc 191 1 C [sl r 258 x]),(ri 3 r 258 x a.c1),(rc 179 2 M [sl g (a.cd.k+4) j, .int .u64 a.cd.R]),(ru 5 g (a.cd.k+4) j (beL (a.cd.k+4) a.cd.N)),⟨125,1,(GG K),3,3,[Value.pointer (GG B),Value.pointer (GG C),Value.pointer (GG D)],false⟩,(rc 191 1 B [sl u 258 p]),(ri 3 u 258 p a.c0),(rc 191 1 D [sl m 258 y]),(ri 3 m 258 y a.c2),(ri 3 (GG O) 1 1 ([257])),(ri 3 J (((dR 0 (dY bQ b)).length)+1) H (syb b)),(ru 5 S ((b).length) Q (dY bQ b))]) hiZ (jT (by rw[d.1.1.2.1.1]) d.1.1.2.1.le))) ?_;refine dG (aH bGr Z (Ct.pk [2,3,0,1,4,5,6,7,8,9,10,11] 99 (h:=MF Z d.1.2.2 (lC d.1.1.2.1 l.1 l.2) G))) λtc tg=>aJ<|aK 3 Z<|wy (aC ak sz3 Z Z (rdr 10 Z))<|wy (aQ av Z Z (rdr 10 Z))<|dD (aH bMu Z (Ct.pk [2,3,0,1,4,5,6,7,8,9,10,11] 99 (h:=nI (by rw[d.1.1.2.1.1]) (by rw[d.1.1.2.1.1];exact l) d.1.1.2.1))) ?_;exact aJ<|aT 2 Z<|wy (aC ak sz3 Z Z (rdr 10 Z))<|wy (aQ av Z Z (rdr 10 Z))<|aB Z<|aT 1 Z<|wA Z Z<|aB Z<|⟨i+1,rd (syb b) i,tc,tg,(⟨a.c0,nS a.c1 (rd (bW b) i),a.c2,gU (rd (bW b) i),mM a.cd a.c1 (rd (bW b) i)⟩:PpS),⟨G,G,(Z),(xG F P G (aQh hk))⟩,G,SA,λ_ h=>h.sel [2,3,4,5,6,0,1,7,8,9,10,11] cC Z⟩
  refine bH 3 Z<|dZ bMw Z (λw q=>FM T (by rw[<-mt];exact hk)) ?_;refine wy (aC Gb aQd Z Z (rdr 2 Z))<|wy (kS Jg Z Z Z (rdr 2 Z) Z)<|aB Z<|aK 3 Z<|wy (aC ak sz3 Z Z (rdr 10 Z))<|wy (aQ av Z Z (rdr 10 Z))<|dD (aH bMv Z (Ct.pk [7,8,0,1,2,3,4,5,6,9,10,11] 99 (h:=mE (by rw[d.1.1.2.2.1]) (by rw[d.1.1.2.2.1];exact l) d.1.1.2.2))) ?_;refine aB Z<|aK 4 Z<|dD (aH aXc Z (Ct.sub (R1:=[(rc 191 1 D [sl m 258 y]),(ri 3 m 258 y a.c2),(rc 179 2 M [sl g (a.cd.k+4) j, .int .u64 a.cd.R]),(ru 5 g (a.cd.k+4) j (beL (a.cd.k+4) a.cd.N)),⟨125,1,(GG K),3,3,[Value.pointer (GG B),Value.pointer (GG C),Value.pointer (GG D)],false⟩,(rc 191 1 B [sl u 258 p]),(ri 3 u 258 p a.c0),(rc 191 1 C [sl r 258 x]),(ri 3 r 258 x a.c1),(ri 3 (GG O) 1 1 ([257])),(ri 3 J (((dR 0 (dY bQ b)).length)+1) H (syb b)),(ru 5 S ((b).length) Q (dY bQ b))]) hiZ (jT (by rw[d.1.1.2.2.1]) d.1.1.2.2.le))) ?_;refine dG (aH bGr Z (Ct.pk [2,3,0,1,4,5,6,7,8,9,10,11] 99 (h:=MF Z d.1.2.2 (lC d.1.1.2.2 l.1 l.2) G))) λvt wb=>aJ<|aK 3 Z<|wy (aC ak sz3 Z Z (rdr 10 Z))<|wy (aQ av Z Z (rdr 10 Z))<|dD (aH bMu Z (Ct.pk [2,3,0,1,4,5,6,7,8,9,10,11] 99 (h:=nI (by rw[d.1.1.2.2.1]) (by rw[d.1.1.2.2.1];exact l) d.1.1.2.2))) ?_;exact aJ<|aT 2 Z<|wy (aC ak sz3 Z Z (rdr 10 Z))<|wy (aQ av Z Z (rdr 10 Z))<|aB Z<|aT 1 Z<|wA Z Z<|aB Z<|⟨i+1,rd (syb b) i,vt,wb,(⟨a.c0,a.c1,nS a.c2 (rd (bW b) i),gU (rd (bW b) i),mM a.cd a.c2 (rd (bW b) i)⟩:PpS),⟨G,G,(Z),(xG F P G (aQg hk))⟩,G,SA,λ_ h=>h.sel [2,3,4,5,6,7,8,0,1,9,10,11] cC Z⟩
 refine aP<|lK [0] Z<|aL [1] 99<|⟨_,_,Z,Z,?_⟩;rw[bg G] at F;have e:(bT b o).length=a.cd.k+4:=by unfold bT;rw[mQ,<-F]
 have e2:bT b o=beL (a.cd.k+4) a.cd.N:=by unfold bT;rw[<-F]
 rw[e,e2];exact⟨_,_,Z,Z⟩
end
end Go.Proofs.YtkfngcfpmilfiaaGreat
namespace Go.Proofs
open Go.Shelf
def Tryz.laysSlF06_f239_ren:Go.Shelf.Ren:=⟨λ|6=>239|15=>149|14=>260|28=>206|29=>207|20=>291|21=>292|22=>293|23=>294|24=>295|25=>296|26=>297|27=>298|46=>315|47=>230|48=>231|49=>316|50=>317|57=>321|n=>n,λ|22=>173|24=>175|25=>284|3=>3|39=>108|0=>0|53=>89|55=>72|4=>4|46=>243|45=>242|50=>59|5=>5|9=>9|66=>273|70=>277|76=>291|77=>292|n=>n,λ|n=>n⟩
theorem Tryz.laysSlF06_f239:Go.Proofs.SlLaysF0.n6 Tryz.prog Tryz.laysSlF06_f239_ren:= {
 mixed:=cA
 f6:=⟨Tryz.f239.name,cC,Tryz.func239.trans (bi some cA)⟩
 f14:=⟨Tryz.f260.name,cC,Tryz.func260.trans (bi some cA)⟩
 f15:=Jp.trans (bi some cA)
 f20:=⟨Tryz.f291.name,cC,Tryz.func291.trans (bi some cA)⟩
 f21:=⟨Tryz.f292.name,cC,Tryz.func292.trans (bi some cA)⟩
 f22:=⟨Tryz.f293.name,cC,Tryz.func293.trans (bi some cA)⟩
 f23:=⟨Tryz.f294.name,cC,Tryz.func294.trans (bi some cA)⟩
 f24:=⟨Tryz.f295.name,cC,Tryz.func295.trans (bi some cA)⟩
 f25:=⟨Tryz.f296.name,cC,Tryz.func296.trans (bi some cA)⟩
 f26:=⟨Tryz.f297.name,cC,Tryz.func297.trans (bi some cA)⟩
 f27:=⟨Tryz.f298.name,cC,Tryz.func298.trans (bi some cA)⟩
 f28:=Js.trans (bi some cA)
 f29:=Jt.trans (bi some cA)
 f46:=⟨Tryz.f315.name,cC,Tryz.func315.trans (bi some cA)⟩
 f47:=Ju.trans (bi some cA)
 f48:=Jv.trans (bi some cA)
 f49:=⟨Tryz.f316.name,cC,Tryz.func316.trans (bi some cA)⟩
 f50:=⟨Tryz.f317.name,cC,Tryz.func317.trans (bi some cA)⟩
 f57:=⟨Tryz.f321.name,cC,Tryz.func321.trans (bi some cA)⟩
 t0:=Cs
 a0:=Ip
 z0:=He
 v0:=Dp
 t3:=Ay
 a3:=Gp
 z3:=Es
 v3:=Bq
 t4:=Cu
 a4:=Iq
 z4:=Hf
 v4:=Dq
 t5:=Cv
 a5:=Ir
 z5:=Hg
 v5:=Dr
 t9:=Cw
 a9:=Iu
 z9:=Hl
 v9:=Dt
 t22:=Tryz.underlying173
 a22:=Tryz.isAgg173
 z22:=Tryz.sizeOf173
 v22:=Tryz.zeroValue173
 t25:=Tryz.underlying284
 a25:=Tryz.isAgg284
 z25:=Tryz.sizeOf284
 v25:=Tryz.zeroValue284
 t39:=zx
 a39:=Dg
 z39:=Ck
 v39:=Aj
 t45:=Dw
 a45:=Iy
 z45:=Hr
 v45:=Eu
 t46:=Dx
 a46:=Iz
 z46:=Ht
 v46:=Ev
 t50:=Et
 a50:=Jw
 z50:=Je
 v50:=Fv
 t53:=Ce
 a53:=Hd
 z53:=Ga
 v53:=Cy
 t55:=Cc
 a55:=Ha
 z55:=Fz
 v55:=Cx
 t66:=Dy
 a66:=Ja
 z66:=Hu
 v66:=Ew
 t70:=Dz
 a70:=Jb
 z70:=Hw
 v70:=Ex
 t76:=Ea
 a76:=Jc
 z76:=Hy
 v76:=Ey
 t77:=Eb
 a77:=Jd
 z77:=Hz
 v77:=Ez}
open Go.RowKit Go.Lib Go.Sort in
theorem Tryz.slices_SortFunc {α:Type} [Inhabited α] (k:Nat) (aE: ∀w,(isAgg 175).run Tryz.prog w= .ok true w) (zE: ∀w,(Go.sizeOf 175).run Tryz.prog w= .ok k w) (enc:α->AG) (hk: ∀x,(enc x).length=k) (h1: ∀x,∀v∈enc x,v.oneCell'=true) (cf:α->α->Int) (hO:SWO (ltOf cf)) (g:Nat) (cb:Array Value) (ft off cap:Nat) (d:Array α) (w:World) (eg: ∀args w,(callFunc g args).run Tryz.prog w= .ok (.enter g args) w) (c5:CmpLays Tryz.prog g cb enc k cf ft off d.size w) (hH:HoldsK enc k w ft off d) (hblk:ft<w.heap.size) (hsz:d.size<4611686018427387904):
  Calls Tryz.prog 239 #[.slice (some ⟨ft,off,none⟩) d.size cap, .func (.func g) #[] cb] w λe w'=>
   e= .returned (.tuple #[])/\ ∃d' n os,PermIn 0 d.size d d'/\SortedIn (ltOf cf) 0 d.size d'/\w'=sortWorldK enc k w ft off n d' os:=AnyQ.slices_SortFunc Tryz.laysSlF06_f239 k aE zE enc hk h1 cf hO g cb ft off cap d w eg c5 hH hblk hsz
end Go.Proofs
namespace Go.Proofs
open Go.Shelf
def Tryz.lays212_ren:Go.Shelf.Ren:=⟨λ|212=>97|263=>152|264=>153|n=>n,λ|46=>108|51=>89|146=>199|53=>72|148=>201|n=>n,λ|n=>n⟩
theorem Tryz.lays212:Go.Proofs.Lays.n212 Tryz.prog Tryz.lays212_ren:= {
 mixed:=cA
 f212:=Tryz.func97.trans (bi some cA)
 f263:=Tryz.func152.trans (bi some cA)
 f264:=Tryz.func153.trans (bi some cA)
 t46:=zx
 a46:=Dg
 z46:=Ck
 v46:=Aj
 t51:=Ce
 a51:=Hd
 z51:=Ga
 v51:=Cy
 t53:=Cc
 a53:=Ha
 z53:=Fz
 v53:=Cx
 t146:=Tryz.underlying199
 a146:=Tryz.isAgg199
 z146:=Tryz.sizeOf199
 v146:=Tryz.zeroValue199
 t148:=Tryz.underlying201
 a148:=Tryz.isAgg201
 z148:=Tryz.sizeOf201
 v148:=Tryz.zeroValue201}
open Go.RowKit Go.Lib in
theorem Tryz.bits_Mul (x y:Nat) (hx:x<18446744073709551616) (hy:y<18446744073709551616) (w:World):
  Calls Tryz.prog 97 #[.int .u64 x, .int .u64 y] w λe w'=>e= .returned (.tuple #[.int .u64 ((x*y/18446744073709551616:Nat):Int), .int .u64 ((x*y%18446744073709551616:Nat):Int)])/\w'=w:=Any.bits_Mul Tryz.lays212 x y hx hy w
end Go.Proofs
namespace Go.Proofs
open Go.Shelf
def Tryz.laysRing_ren:Go.Shelf.Ren:=⟨λ|6=>92|15=>149|14=>148|28=>206|29=>207|20=>198|21=>199|22=>200|23=>201|24=>202|25=>203|26=>204|27=>205|46=>229|47=>230|48=>231|49=>232|50=>233|57=>250|n=>n,λ|22=>97|24=>100|25=>138|3=>3|39=>108|0=>0|53=>89|55=>72|4=>4|46=>243|45=>242|50=>59|5=>5|9=>9|66=>273|70=>277|76=>291|77=>292|n=>n,λ|n=>n⟩
theorem Tryz.laysRing:Go.Proofs.SlLaysF0.n6 Tryz.prog Tryz.laysRing_ren:= {
 mixed:=cA
 f6:=⟨Tryz.f92.name,cC,Tryz.func92.trans (bi some cA)⟩
 f14:=⟨Tryz.f148.name,cC,Tryz.func148.trans (bi some cA)⟩
 f15:=Jp.trans (bi some cA)
 f20:=⟨Tryz.f198.name,cC,Tryz.func198.trans (bi some cA)⟩
 f21:=⟨Tryz.f199.name,cC,Tryz.func199.trans (bi some cA)⟩
 f22:=⟨Tryz.f200.name,cC,Tryz.func200.trans (bi some cA)⟩
 f23:=⟨Tryz.f201.name,cC,Tryz.func201.trans (bi some cA)⟩
 f24:=⟨Tryz.f202.name,cC,Tryz.func202.trans (bi some cA)⟩
 f25:=⟨Tryz.f203.name,cC,Tryz.func203.trans (bi some cA)⟩
 f26:=⟨Tryz.f204.name,cC,Tryz.func204.trans (bi some cA)⟩
 f27:=⟨Tryz.f205.name,cC,Tryz.func205.trans (bi some cA)⟩
 f28:=Js.trans (bi some cA)
 f29:=Jt.trans (bi some cA)
 f46:=⟨Tryz.f229.name,cC,Tryz.func229.trans (bi some cA)⟩
 f47:=Ju.trans (bi some cA)
 f48:=Jv.trans (bi some cA)
 f49:=⟨Tryz.f232.name,cC,Tryz.func232.trans (bi some cA)⟩
 f50:=⟨Tryz.f233.name,cC,Tryz.func233.trans (bi some cA)⟩
 f57:=⟨Tryz.f250.name,cC,Tryz.func250.trans (bi some cA)⟩
 t0:=Cs
 a0:=Ip
 z0:=He
 v0:=Dp
 t3:=Ay
 a3:=Gp
 z3:=Es
 v3:=Bq
 t4:=Cu
 a4:=Iq
 z4:=Hf
 v4:=Dq
 t5:=Cv
 a5:=Ir
 z5:=Hg
 v5:=Dr
 t9:=Cw
 a9:=Iu
 z9:=Hl
 v9:=Dt
 t22:=Tryz.underlying97
 a22:=Tryz.isAgg97
 z22:=Tryz.sizeOf97
 v22:=Tryz.zeroValue97
 t25:=Tryz.underlying138
 a25:=Tryz.isAgg138
 z25:=Tryz.sizeOf138
 v25:=Tryz.zeroValue138
 t39:=zx
 a39:=Dg
 z39:=Ck
 v39:=Aj
 t45:=Dw
 a45:=Iy
 z45:=Hr
 v45:=Eu
 t46:=Dx
 a46:=Iz
 z46:=Ht
 v46:=Ev
 t50:=Et
 a50:=Jw
 z50:=Je
 v50:=Fv
 t53:=Ce
 a53:=Hd
 z53:=Ga
 v53:=Cy
 t55:=Cc
 a55:=Ha
 z55:=Fz
 v55:=Cx
 t66:=Dy
 a66:=Ja
 z66:=Hu
 v66:=Ew
 t70:=Dz
 a70:=Jb
 z70:=Hw
 v70:=Ex
 t76:=Ea
 a76:=Jc
 z76:=Hy
 v76:=Ey
 t77:=Eb
 a77:=Jd
 z77:=Hz
 v77:=Ez}
def Tryz.laysRow_ren:Go.Shelf.Ren:=⟨λ|6=>228|15=>149|14=>249|28=>206|29=>207|20=>268|21=>269|22=>270|23=>271|24=>272|25=>273|26=>274|27=>275|46=>306|47=>230|48=>231|49=>307|50=>308|57=>318|n=>n,λ|22=>23|24=>22|25=>137|3=>3|39=>108|0=>0|53=>89|55=>72|4=>4|46=>243|45=>242|50=>59|5=>5|9=>9|66=>273|70=>277|76=>291|77=>292|n=>n,λ|n=>n⟩
theorem Tryz.laysRow:Go.Proofs.SlLaysF.n6 Tryz.prog Tryz.laysRow_ren:= {
 mixed:=cA
 f6:=⟨Tryz.f228.name,cC,Tryz.func228.trans (bi some cA)⟩
 f14:=⟨Tryz.f249.name,cC,Tryz.func249.trans (bi some cA)⟩
 f15:=Jp.trans (bi some cA)
 f20:=⟨Tryz.f268.name,cC,Tryz.func268.trans (bi some cA)⟩
 f21:=⟨Tryz.f269.name,cC,Tryz.func269.trans (bi some cA)⟩
 f22:=⟨Tryz.f270.name,cC,Tryz.func270.trans (bi some cA)⟩
 f23:=⟨Tryz.f271.name,cC,Tryz.func271.trans (bi some cA)⟩
 f24:=⟨Tryz.f272.name,cC,Tryz.func272.trans (bi some cA)⟩
 f25:=⟨Tryz.f273.name,cC,Tryz.func273.trans (bi some cA)⟩
 f26:=⟨Tryz.f274.name,cC,Tryz.func274.trans (bi some cA)⟩
 f27:=⟨Tryz.f275.name,cC,Tryz.func275.trans (bi some cA)⟩
 f28:=Js.trans (bi some cA)
 f29:=Jt.trans (bi some cA)
 f46:=⟨Tryz.f306.name,cC,Tryz.func306.trans (bi some cA)⟩
 f47:=Ju.trans (bi some cA)
 f48:=Jv.trans (bi some cA)
 f49:=⟨Tryz.f307.name,cC,Tryz.func307.trans (bi some cA)⟩
 f50:=⟨Tryz.f308.name,cC,Tryz.func308.trans (bi some cA)⟩
 f57:=⟨Tryz.f318.name,cC,Tryz.func318.trans (bi some cA)⟩
 t0:=Cs
 a0:=Ip
 z0:=He
 v0:=Dp
 t3:=Ay
 a3:=Gp
 z3:=Es
 v3:=Bq
 t4:=Cu
 a4:=Iq
 z4:=Hf
 v4:=Dq
 t5:=Cv
 a5:=Ir
 z5:=Hg
 v5:=Dr
 t9:=Cw
 a9:=Iu
 z9:=Hl
 v9:=Dt
 t22:=Tryz.underlying23
 a22:=Tryz.isAgg23
 z22:=Tryz.sizeOf23
 v22:=Tryz.zeroValue23
 a24:=Tryz.isAgg22
 z24:=Tryz.sizeOf22
 t25:=Tryz.underlying137
 a25:=Tryz.isAgg137
 z25:=Tryz.sizeOf137
 v25:=Tryz.zeroValue137
 t39:=zx
 a39:=Dg
 z39:=Ck
 v39:=Aj
 t45:=Dw
 a45:=Iy
 z45:=Hr
 v45:=Eu
 t46:=Dx
 a46:=Iz
 z46:=Ht
 v46:=Ev
 t50:=Et
 a50:=Jw
 z50:=Je
 v50:=Fv
 t53:=Ce
 a53:=Hd
 z53:=Ga
 v53:=Cy
 t55:=Cc
 a55:=Ha
 z55:=Fz
 v55:=Cx
 t66:=Dy
 a66:=Ja
 z66:=Hu
 v66:=Ew
 t70:=Dz
 a70:=Jb
 z70:=Hw
 v70:=Ex
 t76:=Ea
 a76:=Jc
 z76:=Hy
 v76:=Ey
 t77:=Eb
 a77:=Jd
 z77:=Hz
 v77:=Ez}
end Go.Proofs
namespace Go.Proofs
open Go.Shelf
def Tryz.lays126_ren:Go.Shelf.Ren:=⟨λ|126=>186|n=>n,λ|5=>5|3=>3|9=>9|n=>n,λ|n=>n⟩
theorem Tryz.lays126:Go.Proofs.Lays.n126 Tryz.prog Tryz.lays126_ren:= {
 mixed:=cA
 f126:=Tryz.func186.trans (bi some cA)
 t3:=Ay
 a3:=Gp
 z3:=Es
 v3:=Bq
 t5:=Cv
 a5:=Ir
 z5:=Hg
 v5:=Dr
 t9:=Cw
 a9:=Iu
 z9:=Hl
 v9:=Dt}
theorem Tryz.bits_Len8 (x:Int) (w:World) (h0:0<=x) (h1:x<=255):
  Calls Tryz.prog 186 #[.int .u8 x] w λe w'=>e= .returned (.int .i64 (Lib.bitLen x.toNat))/\w'=w:=Any.bits_Len8 Tryz.lays126 x w h0 h1
end Go.Proofs
namespace Go.Proofs
open Go.Shelf
def Tryz.lays189_ren:Go.Shelf.Ren:=⟨λ|189=>310|125=>149|257=>320|128=>206|129=>207|294=>322|295=>323|296=>324|297=>325|298=>326|299=>327|216=>313|300=>328|301=>329|328=>330|329=>230|330=>231|331=>331|332=>332|215=>151|343=>333|n=>n,λ|28=>73|3=>3|46=>108|0=>0|51=>89|53=>72|4=>4|183=>243|182=>242|131=>59|5=>5|9=>9|218=>273|222=>277|228=>291|229=>292|n=>n,λ|n=>n⟩
theorem Tryz.lays189:Go.Proofs.Lays.n189 Tryz.prog Tryz.lays189_ren:= {
 mixed:=cA
 f125:=Jp.trans (bi some cA)
 f128:=Js.trans (bi some cA)
 f129:=Jt.trans (bi some cA)
 f189:=Tryz.func310.trans (bi some cA)
 f215:=Jq.trans (bi some cA)
 f216:=Tryz.func313.trans (bi some cA)
 f257:=Tryz.func320.trans (bi some cA)
 f294:=Tryz.func322.trans (bi some cA)
 f295:=Tryz.func323.trans (bi some cA)
 f296:=Tryz.func324.trans (bi some cA)
 f297:=Tryz.func325.trans (bi some cA)
 f298:=Tryz.func326.trans (bi some cA)
 f299:=Tryz.func327.trans (bi some cA)
 f300:=Tryz.func328.trans (bi some cA)
 f301:=Tryz.func329.trans (bi some cA)
 f328:=Tryz.func330.trans (bi some cA)
 f329:=Ju.trans (bi some cA)
 f330:=Jv.trans (bi some cA)
 f331:=Tryz.func331.trans (bi some cA)
 f332:=Tryz.func332.trans (bi some cA)
 f343:=Tryz.func333.trans (bi some cA)
 t0:=Cs
 a0:=Ip
 z0:=He
 v0:=Dp
 t3:=Ay
 a3:=Gp
 z3:=Es
 v3:=Bq
 t4:=Cu
 a4:=Iq
 z4:=Hf
 v4:=Dq
 t5:=Cv
 a5:=Ir
 z5:=Hg
 v5:=Dr
 t9:=Cw
 a9:=Iu
 z9:=Hl
 v9:=Dt
 t28:=Tryz.underlying73
 a28:=Tryz.isAgg73
 z28:=Tryz.sizeOf73
 v28:=Tryz.zeroValue73
 t46:=zx
 a46:=Dg
 z46:=Ck
 v46:=Aj
 t51:=Ce
 a51:=Hd
 z51:=Ga
 v51:=Cy
 t53:=Cc
 a53:=Ha
 z53:=Fz
 v53:=Cx
 t131:=Et
 a131:=Jw
 z131:=Je
 v131:=Fv
 t182:=Dw
 a182:=Iy
 z182:=Hr
 v182:=Eu
 t183:=Dx
 a183:=Iz
 z183:=Ht
 v183:=Ev
 t218:=Dy
 a218:=Ja
 z218:=Hu
 v218:=Ew
 t222:=Dz
 a222:=Jb
 z222:=Hw
 v222:=Ex
 t228:=Ea
 a228:=Jc
 z228:=Hy
 v228:=Ey
 t229:=Eb
 a229:=Jd
 z229:=Hz
 v229:=Ez}
open Go.Sort Go.RowKit in
theorem Tryz.slices_Sort_int (ft off cap:Nat) (zs:AH) (w:World) (hH:Holds (Value.int .i64) w ft off zs.toArray) (hblk:ft<w.heap.size) (hsz:zs.length<4611686018427387904):
  Calls Tryz.prog 310 #[.slice (some ⟨ft,off,none⟩) zs.length cap] w λe w'=>
   e= .returned (.tuple #[])/\ ∃n os,w'=grow (putRow (Value.int .i64) (Sort.ahead w n) ft off (zs.mergeSort λx y=>decide (x<=y)).toArray) os:=Any.slices_Sort_int Tryz.lays189 ft off cap zs w hH hblk hsz
def Tryz.laysNm225_ren:Go.Shelf.Ren:=⟨λ|25=>289|31=>313|32=>314|37=>151|n=>n,λ|22=>73|3=>3|4=>4|40=>108|0=>0|n=>n,λ|n=>n⟩
theorem Tryz.laysNm225:Go.Proofs.Lays2.n25 Tryz.prog Tryz.laysNm225_ren:= {
 mixed:=cA
 f25:=Tryz.func289.trans (bi some cA)
 f31:=Tryz.func313.trans (bi some cA)
 f32:=Tryz.func314.trans (bi some cA)
 f37:=Jq.trans (bi some cA)
 t0:=Cs
 a0:=Ip
 z0:=He
 v0:=Dp
 t3:=Ay
 a3:=Gp
 z3:=Es
 v3:=Bq
 t4:=Cu
 a4:=Iq
 z4:=Hf
 v4:=Dq
 t22:=Tryz.underlying73
 a22:=Tryz.isAgg73
 z22:=Tryz.sizeOf73
 v22:=Tryz.zeroValue73
 t40:=zx
 a40:=Dg
 z40:=Ck
 v40:=Aj}
open Go.RowKit Go.Lib in
theorem Tryz.slices_BinarySearch_int (b off n c:Nat) (zs:AH) (x:Int) (w:World) (hz:n<=zs.length) (Qs:n<4611686018427387904) (hc: ∀j,j<zs.length->w.cell? ⟨b,off+j,none⟩=some (.int .i64 (zs.getD j 0))) (hs:(zs.take n).Pairwise (· <= ·)):
  Calls Tryz.prog 289 #[.slice (some ⟨b,off,none⟩) n c, .int .i64 x] w λe w'=>e= .returned (.tuple #[.int .i64 ((zs.take n).countP (· <x):Nat), .bool ((zs.take n).contains x)])/\ ∃q,w'=w.drewN q:=Any.slices_BinarySearch_int Tryz.laysNm225 b off n c zs x w hz Qs hc hs
open Go.RowKit Go.Sort in
theorem Tryz.slices_Sort_int_none (p:AF) (cap:Nat) (w:World):
  Calls Tryz.prog 310 #[.slice p 0 cap] w λe w'=>e= .returned (.tuple #[])/\w'=w:=Any.slices_Sort_int_none Tryz.lays189 p cap w
open Go.RowKit Go.Lib in
theorem Tryz.slices_BinarySearch_int_empty (a:AF) (c:Nat) (x:Int) (w:World):
  Calls Tryz.prog 289 #[.slice a 0 c, .int .i64 x] w λe w'=>e= .returned (.tuple #[.int .i64 0, .bool false])/\w'=w:=Any.slices_BinarySearch_int_empty Tryz.laysNm225 a c x w
end Go.Proofs
