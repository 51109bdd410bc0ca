/- Own work. -/
import Derived.Test.YtkfngcfpmilfiaaGreatZe5
set_option linter.unusedVariables false
set_option linter.unusedSimpArgs false
set_option maxHeartbeats 8000000
namespace Go.Proofs.YtkfngcfpmilfiaaGreat
open Go Go.Eng Go.Pure
open Tryz
set_option maxRecDepth 100000
section
variable {w:World} {Mb wk No tz lj tx:Nat} {Ni tk lf tj:AF} {vc:AG} {ws:AD} {bs rs:AH} {t1 t2 h:Int}
theorem bDb {li:AF} {va ml:Nat} {l:AH} (a:R5 w li va ml l):
  CF 94 #[sl li va ml] w (λv R'=>v=I (orL l)):=by
 obtain rfl:=a.lenI;refine fn1 func94 Z Z Z ?_;have e:=a.max;refine aD Z<|aD Z<|aA<|aD Z<|aF<|iK (λ(k:Int)=>[(3,I 0),(6,sl li l.length ml),(7,I (l.length:Int)),(8,I k)]) (λk=>[]) (λk=>(0<=k)/\(k<=l.length)/\(orL l=orL (l.drop k.toNat))) (λk=>(l.length-k).toNat) ?_ ?_
 ·exact⟨0,⟨G,G,(Z)⟩,KP⟩
 intro k ⟨d,h,b⟩;refine aD Z<|aA<|aR Z ?_ ?_<;>intro ap
 ·refine aG<|aA<|aF<|wq<|wy (aC ak sz3 Z Z (a.c _))<|wy (aQ av Z Z (a.c _))<|aB Z<|aD Z<|aR Z ?_ ?_<;>intro g
  ·refine aD Z<|aS<|⟨_,Z,?_⟩;exact bi (Value.int .i64) (by rw[b,bLg d G G])
  exact aG<|bK<|wA Z Z<|aB Z<|⟨k+1,⟨G,G,(by rw[b,bSi d G G])⟩,G,KP⟩
 refine aP<|aD Z<|aS<|⟨_,Z,?_⟩;exact bi (Value.int .i64) (by rw[b,og G];rfl)
theorem CR (d:Rd w (GG Mb) 1 1 4 [sl Ni ws.length No,sl tk wk tz,sl lf bs.length lj,sl tj rs.length tx]) (b:Rd w Ni ws.length No 1 vc) (k:SlW .u8 w vc ws) (e:Rd w lf bs.length lj 1 (ints .i64 bs)) (a:Rd w tj rs.length tx 1 (ints .i64 rs)) (r:0<=t1/\t1<ws.length/\t1<bs.length) (u:0<=t2/\t2<=1000000) (x:0<(rdl ws t1).length) (y:0<=rd bs t1/\rd bs t1+(rdl ws t1).length<=rs.length) (H:0<=h/\h<=1000000):
  CF 242 #[PG Mb, .agg #[I t1,I t2],I h] w (λv R'=>v=I (ahd ws bs rs (t1,t2) h)):=by
 refine fn1 func242 Z Z Z ?_;have m:=a.max;have p:=e.max;have o:=b.max;have D:=jk (t2+h) (show((rdl ws t1).length:Int)≠0 by omega);have F:=ja (t2+h) (show(0:Int)<((rdl ws t1).length:Int) by omega);refine wq<|aX (dC (sz:=2) Z Z) λA=>aB Z<|aA<|bE mixed<|bF 0 3 Z<|wD 3 Z (gY (d.c _) ak Z Z Z)<|bF 4 3 Z<|wD 7 Z (gY (d.c _) ak Z Z Z)<|wD 8 Z (dW (q:=0) (rdr 0 Z) jm sz3 Z Z (ah Z) cC cC Z)<|wD 9 Z (yL 0 av Z Z Z)<|wD 10 Z (aC ak sz3 Z Z (e.c _))<|wD 11 Z (aQ av Z Z (e.c _))<|wD 12 Z (dW (q:=1) (rdr 0 Z) jm sz3 Z Z (ah Z) cC cC Z)<|fU [0] 13 2 Z<|wD 15 Z (dJ Z Z)<|bF 16 3 Z<|wD 19 Z (gY (d.c _) dm Z Z Z)<|wD 20 Z (dW (q:=0) (rdr 0 Z) jm sz3 Z Z (ah Z) cC cC Z)<|wD 21 Z (yL 0 av Z Z Z)<|wD 22 Z (aC dm iZ Z Z (b.c _)) ?_;obtain⟨B,C,l,J,j,g⟩:=k.at (i:=t1) G G;refine wD 23 Z (kS ai Z Z Z (b.c _) l)<|wD 24 Z (sO ai Z)<|wD 25 Z (uF Z Z)<|wD 26 Z (dJ Z Z)<|wD 27 Z (aC ak sz3 Z Z (a.c _))<|wD 28 Z (aQ av Z Z (a.c _))<|wD 29 Z (bY Z)<|wN<|aL [] 99<|⟨_,Z,?_⟩;rfl
theorem aDa (g:Rd w (GG Mb) 1 1 4 [sl Ni ws.length No,sl tk wk tz,sl lf bs.length lj,sl tj rs.length tx]) (d:Rd w Ni ws.length No 1 vc) (e:SlW .u8 w vc ws) (h:Rd w lf bs.length lj 1 (ints .i64 bs)) (b:Rd w tj rs.length tx 1 (ints .i64 rs)) (i:0<=t1/\t1<ws.length/\t1<bs.length) (j:0<=t2/\t2<=1000000) (k:0<(rdl ws t1).length) (l:0<=rd bs t1/\rd bs t1+(rdl ws t1).length<=rs.length):
  CF 241 #[PG Mb, .agg #[I t1,I t2]] w (λv R'=>v=I (ahd ws bs rs (t1,t2) 0)):=by
 refine fn1 func241 Z Z Z<|wq<|aX (dC (sz:=2) Z Z) λm=>aB Z<|aK 1 Z<|wy (bO (vs:=[I t1,I t2]) (rdr 0 Z) jm Z kV Z Z (ah Z) Z)<|dZ aJb Z (λw a=>CR ((g.c _) w a) ((d.c _) w a) (e.c a) ((h.c _) w a) ((b.c _) w a) cE cE cE cE cE)<|aB Z<|aL [] 99<|⟨_,Z,?_⟩;rfl
theorem aLj {b d:Int} {g:Nat} {e:Nat} (o:Rd w (GG Mb) 1 1 4 [sl Ni ws.length No,sl tk wk tz,sl lf bs.length lj,sl tj rs.length tx]) (l:Rd w Ni ws.length No 1 vc) (m:SlW .u8 w vc ws) (p:Rd w lf bs.length lj 1 (ints .i64 bs)) (k:Rd w tj rs.length tx 1 (ints .i64 rs)) (j:Rd w (GG g) 1 1 1 [PG Mb]) (i:Rd w (GG e) 1 1 1 [I h]) (A:0<=t1/\t1<ws.length/\t1<bs.length) (B:0<=t2/\t2<=1000000) (C:0<(rdl ws t1).length) (D:0<=rd bs t1/\rd bs t1+(rdl ws t1).length<=rs.length) (r:0<=b/\b<ws.length/\b<bs.length) (u:0<=d/\d<=1000000) (x:0<(rdl ws b).length) (y:0<=rd bs b/\rd bs b+(rdl ws b).length<=rs.length) (H:0<=h/\h<=1000000):
  CF 240 #[.agg #[I t1,I t2], .agg #[I b,I d],PG g,PG e] w (λv R'=>v=I (aLl ws bs rs h (t1,t2) (b,d))):=by
 refine fn1 func240 Z Z Z<|wq<|aX (dC (sz:=2) Z Z) λF=>aX (dC (sz:=2) Z Z) λJ=>aB Z<|aA<|bE mixed<|wD 0 Z (gY (j.c _) Ao Z Z Z)<|wD 1 Z (bO (vs:=[I t1,I t2]) (rdr 1 Z) jm Z kV Z Z (ah Z) Z)<|wD 3 Z (gY (j.c _) Ao Z Z Z)<|wD 4 Z (bO (vs:=[I b,I d]) (rdr 0 Z) jm Z kV Z Z (ah Z) Z)<|wD 7 Z (gY (j.c _) Ao Z Z Z)<|wD 8 Z (bO (vs:=[I t1,I t2]) (rdr 1 Z) jm Z kV Z Z (ah Z) Z)<|wD 9 Z (gY (i.c _) av Z Z Z)<|wD 11 Z (gY (j.c _) Ao Z Z Z)<|wD 12 Z (bO (vs:=[I b,I d]) (rdr 0 Z) jm Z kV Z Z (ah Z) Z)<|wD 13 Z (gY (i.c _) av Z Z Z)<|wD 16 Z (dW (q:=0) (rdr 1 Z) jm sz3 Z Z (ah Z) cC cC Z)<|wD 17 Z (yL 1 av Z Z Z)<|wD 18 Z (dW (q:=0) (rdr 0 Z) jm sz3 Z Z (ah Z) cC cC Z)<|wD 19 Z (yL 0 av Z Z Z)<|wD 21 Z (dW (q:=1) (rdr 1 Z) jm sz3 Z Z (ah Z) cC cC Z)<|wD 22 Z (yL 1 av Z Z Z)<|wD 23 Z (dW (q:=1) (rdr 0 Z) jm sz3 Z Z (ah Z) cC cC Z)<|wD 24 Z (yL 0 av Z Z Z)<|wC 2 Z (aH aSq Z (Ct.quiet (λw a=>aDa ((o.c _) w a) ((l.c _) w a) (m.c a) ((p.c _) w a) ((k.c _) w a) cE cE cE cE))) ?_;rintro _ _⟨rfl,rfl⟩;refine⟨.inr hiZ,?_⟩;refine wC 5 Z (aH aSq Z (Ct.quiet (λw a=>aDa ((o.c _) w a) ((l.c _) w a) (m.c a) ((p.c _) w a) ((k.c _) w a) cE cE cE cE))) ?_;rintro _ _⟨rfl,rfl⟩;refine⟨.inr hiZ,?_⟩;refine wC 6 Z (aH bFz Z (Ct.quiet (λw a=>sF))) ?_;rintro _ _⟨rfl,rfl⟩;refine⟨.inr hiZ,?_⟩;refine wC 10 Z (aH aJb Z (Ct.quiet (λw a=>CR ((o.c _) w a) ((l.c _) w a) (m.c a) ((p.c _) w a) ((k.c _) w a) cE cE cE cE cE))) ?_;rintro _ _⟨rfl,rfl⟩;refine⟨.inr hiZ,?_⟩;refine wC 14 Z (aH aJb Z (Ct.quiet (λw a=>CR ((o.c _) w a) ((l.c _) w a) (m.c a) ((p.c _) w a) ((k.c _) w a) cE cE cE cE cE))) ?_;rintro _ _⟨rfl,rfl⟩;refine⟨.inr hiZ,?_⟩;refine wC 15 Z (aH bFz Z (Ct.quiet (λw a=>sF))) ?_;rintro _ _⟨rfl,rfl⟩;refine⟨.inr hiZ,?_⟩;refine wC 20 Z (aH bFz Z (Ct.quiet (λw a=>sF))) ?_;rintro _ _⟨rfl,rfl⟩;refine⟨.inr hiZ,?_⟩;refine wC 25 Z (aH bFz Z (Ct.quiet (λw a=>sF))) ?_;rintro _ _⟨rfl,rfl⟩;refine⟨.inr hiZ,?_⟩;refine wC 26 Z (bG .i64 [jO (ahd ws bs rs (t1,t2) 0) (ahd ws bs rs (b,d) 0),jO (ahd ws bs rs (t1,t2) h) (ahd ws bs rs (b,d) h),jO t1 b,jO t2 d] ak zs3 Z Z Z) ?_;rintro _ _⟨K,rfl,rfl⟩;refine⟨.inr hrZ,?_⟩;refine wC 27 Z (aH bVl Z (Ct.quiet (λw a=>bDb ((rdr 0 Z) w a)))) ?_;rintro _ _⟨rfl,rfl⟩;refine⟨.inr hiZ,?_⟩;refine wD 28 Z (bY Z)<|wN<|aL [] 99<|⟨_,Z,?_⟩;rfl
theorem aLr (cb:Array Value):aTl Tryz.prog 239 240 cb:=λα _ enc hk h1 e hO g off cap d w b hH hblk a=>
 Tryz.slices_SortFunc 2 (λw=>cA) (λw=>cA) enc hk h1 e hO 240 cb g off cap d w bWw b hH hblk a
theorem aOm {B:Nat} {w0:World} {R:List Row} {g:AF} {D rj b k:Nat} {ts:AE} (ue:D=ts.length) (Q:rj=bs.length) (T:b=rs.length) (p:RdC B w0 R Ni ws.length No 1 vc) (r: ∀w,Hp B w0 w R->SlW .u8 w vc ws) (d: ∀t∈ts,TOk ws bs rs.length t) (Mj: ∀t∈ts,∀u∈ts,jV bs t=jV bs u->t=u) (S:ts.Nodup) (cj:ts≠[]) (hN:rs.length<=1000000/\ts.length<=1000000) (hh:0<=h/\h<=1000000):
  CT 214 #[PG Mb,sl g D k,I h] B w0 ((rc 256 4 Mb [sl Ni ws.length No,sl tk wk tz,sl lf rj lj,sl tj b tx])::⟨175,2,g,D,k,prs ts,false⟩::(ri 3 lf rj lj bs)::(ri 3 tj b tx rs)::R) (λv R'=> ∃(l1:AE) (rk:AH) (Y:AF) (c':Nat),v=I (kE ws bs rs h l1 (l1.length-1))/\l1.Perm ts/\l1.Pairwise (λx y=> ¬aLl ws bs rs h y x<0)/\rk.length=rs.length/\(∀j:Nat,j<l1.length->rd rk (jV bs (rdp l1 j))=kE ws bs rs h l1 j)/\R'=(rc 256 4 Mb [sl Ni ws.length No,sl tk wk tz,sl lf rj lj,sl Y b c'])::⟨175,2,g,D,k,prs l1,false⟩::(ri 3 lf rj lj bs)::(ri 3 Y b c' rk)::R):=by
 subst ue;subst Q;subst T;refine fn1 func214 Z Z Z ?_;have Zj: ∀t∈ts,0<=jV bs t:=λt m=>by have:=d t m;unfold TOk at this;unfold jV;omega
 refine wq<|aX (dC (sz:=1) Z Z) λJ=>aX (dC (sz:=1) Z Z) λM=>aB Z<|aK 1 Z<|wy (oI Z Z)<|wa (aH bWx Z (aLu (aLr _) 3 Z cj G (aLl ws bs rs h) (aZw ws bs rs h) (λW l x K y L=>aLj ((rdr 2 Z) W l) ((RdC.right p [_,_,_,_,_]) W l) (r W (Hp.right (R':=[_,_,_,_,_]) l)) ((rdr 3 Z) W l) ((rdr 4 Z) W l) ((rdr 1 Z) W l) ((rdr 0 Z) W l) (d x K).1 (by have:=(d x K).2.1;omega) (d x K).2.2.1 (d x K).2.2.2 (d y L).1 (by have:=(d y L).2.1;omega) (d y L).2.2.1 (d y L).2.2.2 hh))) ?_;rintro _ _⟨rfl,l1,o,j5,rfl⟩;have r9:=o.length_eq;have Pz: ∀t∈l1,TOk ws bs rs.length t:=λt m=>d t (o.mem_iff.1 m);have O:=o.nodup_iff.2 S;refine aJ<|cB [1,2] 5 Z<|aX (dU ak zb3 Z Z) λf8=>bC (v:=sl (GG f8) rs.length rs.length) Z<|aB Z<|aD Z<|aA<|aD Z<|aF<|gX (λ(i:Int) (n:Int) (rk:AH)=>[(1,sl g ts.length k),(3,PG J),(5,PG M),(7,sl (GG f8) rs.length rs.length),(8,I n),(21,sl g ts.length k),(22,I (ts.length:Int)),(23,I i)]) (λi n rk=>((ri 3 (GG f8) rs.length rs.length rk)::(rc 3 1 M [I h])::(rc 254 1 J [PG Mb])::(rc 256 4 Mb [sl Ni ws.length No,sl tk wk tz,sl lf bs.length lj,sl tj rs.length tx])::⟨175,2,g,ts.length,k,prs l1,false⟩::(ri 3 lf bs.length lj bs)::(ri 3 tj rs.length tx rs)::R)) (λi n rk=>(0<=i)/\(i<=l1.length)/\(0<=n/\n<=i)/\(n=kE ws bs rs h l1 (i-1).toNat)/\(rk.length=rs.length)/\(∀j:Nat,j<i->rd rk (jV bs (rdp l1 j))=kE ws bs rs h l1 j)) (λi n rk=>(l1.length-i).toNat) ?_ ?_
 ·exact⟨0,0,List.replicate rs.length (0:Int),⟨G,G,G,(Z),(by rw[df]),(λj hj=>G)⟩,KP⟩
 intro i n rk ⟨H,gn,Rb,hn,A,C⟩;refine aD Z<|aA<|aR Z ?_ ?_<;>intro ap
 ·have hq:=Pz _ (lV H (show i<l1.length by omega));obtain⟨⟨q1,q2,q3⟩,⟨q4,q5,q6⟩,q7,q8,q9⟩:=hq;have N: ∀t∈l1,0<=jV bs t:=λt m=>Zj t (o.mem_iff.1 m);have X: ∀t∈l1,∀u∈l1,jV bs t=jV bs u->t=u:=λt m u hu=>Mj t (o.mem_iff.1 m) u (o.mem_iff.1 hu);refine aG<|aA<|aF<|aK 1 Z<|wy (pR lc kV Z Z (rdr 4 Z) Z)<|wy (aPv jm Z kV Z (rdr 4 Z))<|aX (eH (sz:=2) aPs Z) λrv=>wg Z<|bN (aZ (vs:=[I ((rdp l1 i).1),I ((rdp l1 i).2)]) 0 Z kV Z Z Z cH Z)<|aJ<|aA<|aD Z<|aR Z ?_ ?_<;>intro bp
  ·have Wv:=Pz _ (lV (show 0<=i-1 by omega) (show i-1<l1.length by omega));obtain⟨⟨p1,p2,p3⟩,⟨p4,p5,p6⟩,p7,p8,p9⟩:=Wv;refine aK 2 Z<|wS Z Z<|wy (pR lc kV Z Z (rdr 5 Z) Z)<|wy (aPv jm Z kV Z (rdr 5 Z))<|aX (eH (sz:=2) aPs Z) λqk=>bN (aZ (vs:=[I ((rdp l1 (i-1)).1),I ((rdp l1 (i-1)).2)]) 0 Z kV Z Z Z cH Z)<|aJ<|lS [(1,sl g ts.length k),(3,PG J),(5,PG M),(7,sl (GG f8) rs.length rs.length),(8,I n),(10,PG rv),(21,sl g ts.length k),(22,I (ts.length:Int)),(23,I i),(52, .bool (decide (((ahd ws bs rs (((rdp l1 (i-1)).1),((rdp l1 (i-1)).2)) 0)≠(ahd ws bs rs (((rdp l1 i).1),((rdp l1 i).2)) 0))\/((ahd ws bs rs (((rdp l1 (i-1)).1),((rdp l1 (i-1)).2)) h)≠(ahd ws bs rs (((rdp l1 i).1),((rdp l1 i).2)) h)))))] ((rc 175 2 qk [I ((rdp l1 (i-1)).1),I ((rdp l1 (i-1)).2)])::(rc 175 2 rv [I ((rdp l1 i).1),I ((rdp l1 i).2)])::(ri 3 (GG f8) rs.length rs.length rk)::(rc 3 1 M [I h])::(rc 254 1 J [PG Mb])::(rc 256 4 Mb [sl Ni ws.length No,sl tk wk tz,sl lf bs.length lj,sl tj rs.length tx])::⟨175,2,g,ts.length,k,prs l1,false⟩::(ri 3 lf bs.length lj bs)::(ri 3 tj rs.length tx rs)::R) ?_ ?_
   ·refine bE mixed<|wD 0 Z (yL 4 Ao Z Z Z)<|wD 1 Z (bO (vs:=[I ((rdp l1 (i-1)).1),I ((rdp l1 (i-1)).2)]) (rdr 0 Z) jm Z kV Z Z (ah Z) Z)<|wD 3 Z (yL 4 Ao Z Z Z)<|wD 4 Z (bO (vs:=[I ((rdp l1 i).1),I ((rdp l1 i).2)]) (rdr 1 Z) jm Z kV Z Z (ah Z) Z)<|wC 2 Z (aH aSq Z (Ct.quiet (λw a=>aDa ((rdr 5 Z) w a) ((RdC.right p [_,_,_,_,_,_,_,_,_]) w a) (r w (Hp.right (R':=[_,_,_,_,_,_,_,_,_]) a)) ((rdr 7 Z) w a) ((rdr 8 Z) w a) cE cE cE cE))) ?_;rintro _ _⟨rfl,rfl⟩;refine⟨.inr hiZ,?_⟩;refine wC 5 Z (aH aSq Z (Ct.quiet (λw a=>aDa ((rdr 5 Z) w a) ((RdC.right p [_,_,_,_,_,_,_,_,_]) w a) (r w (Hp.right (R':=[_,_,_,_,_,_,_,_,_]) a)) ((rdr 7 Z) w a) ((rdr 8 Z) w a) cE cE cE cE))) ?_;rintro _ _⟨rfl,rfl⟩;refine⟨.inr hiZ,?_⟩;refine bF 6 2 Z<|gM 42 Z ?_ ?_<;>intro db
    ·exact bF 8 10 Z<|wN<|KP
    refine wG 8 Z Z Z (yL 4 Ao Z Z Z)<|wG 9 Z Z Z (bO (vs:=[I ((rdp l1 (i-1)).1),I ((rdp l1 (i-1)).2)]) (rdr 0 Z) jm Z kV Z Z (ah Z) Z)<|wG 10 Z Z Z (yL 3 av Z Z Z)<|wG 12 Z Z Z (yL 4 Ao Z Z Z)<|wG 13 Z Z Z (bO (vs:=[I ((rdp l1 i).1),I ((rdp l1 i).2)]) (rdr 1 Z) jm Z kV Z Z (ah Z) Z)<|wG 14 Z Z Z (yL 3 av Z Z Z)<|aFd 11 Z cA Z Z Z (aH aJb Z (Ct.quiet (λw a=>CR ((rdr 5 Z) w a) ((RdC.right p [_,_,_,_,_,_,_,_,_]) w a) (r w (Hp.right (R':=[_,_,_,_,_,_,_,_,_]) a)) ((rdr 7 Z) w a) ((rdr 8 Z) w a) cE cE cE cE cE))) ?_;rintro _ _⟨rfl,rfl⟩;refine⟨.inr hiZ,?_⟩;refine aFd 15 Z cA Z Z Z (aH aJb Z (Ct.quiet (λw a=>CR ((rdr 5 Z) w a) ((RdC.right p [_,_,_,_,_,_,_,_,_]) w a) (r w (Hp.right (R':=[_,_,_,_,_,_,_,_,_]) a)) ((rdr 7 Z) w a) ((rdr 8 Z) w a) cE cE cE cE cE))) ?_;rintro _ _⟨rfl,rfl⟩;refine⟨.inr hiZ,?_⟩;exact bF 16 2 Z<|wN<|KP
   refine aR Z ?_ ?_<;>intro dj
   ·refine aT 1 Z<|wA Z Z<|aB Z<|bE mixed<|fU [4,5] 0 5 Z<|wD 5 Z (dW (q:=0) (rdr 1 Z) jm sz3 Z Z (ah Z) cC cC Z)<|wD 6 Z (yL 1 av Z Z Z)<|wD 7 Z (aC ak sz3 Z Z (rdr 7 Z))<|wD 8 Z (aQ av Z Z (rdr 7 Z))<|wD 9 Z (dW (q:=1) (rdr 1 Z) jm sz3 Z Z (ah Z) cC cC Z)<|wD 10 Z (yL 1 av Z Z Z)<|wD 11 Z (dJ Z Z)<|wD 12 Z (dI Z)<|wD 13 Z (aC ak sz3 Z Z (rdr 2 Z))<|qN 14 Z cA (bJ 2 Z sz3 Z Z) ?_;rintro _ _ rfl;refine⟨.inl cA,?_⟩;exact wN<|bK<|wA Z Z<|aB Z<|⟨i+1,n+1,upd rk ((rd bs ((rdp l1 i).1))+((rdp l1 i).2)) (n+1),⟨G,G,G,(by rw[show i+1-1=i by omega,EU G,cz cF,<-hn]),(by rw[upd,Gs];exact A),(GL O X H G N (by unfold jV;omega) C (by have e:(i+1-1)=i:=G;have hc:=(by rw[show i+1-1=i by omega,EU G,cz cF,<-hn]:_=kE ws bs rs h l1 (i+1-1).toNat);rw[e] at hc;exact hc))⟩,G,SA,λ_ h=>h.selR (F:=[_,_,_,_,_,_,_,_,_]) (F':=[_,_,_,_,_,_,_]) [2,3,4,5,6,7,8] cC Z⟩
   refine aG<|bE mixed<|fU [4,5] 0 5 Z<|wD 5 Z (dW (q:=0) (rdr 1 Z) jm sz3 Z Z (ah Z) cC cC Z)<|wD 6 Z (yL 1 av Z Z Z)<|wD 7 Z (aC ak sz3 Z Z (rdr 7 Z))<|wD 8 Z (aQ av Z Z (rdr 7 Z))<|wD 9 Z (dW (q:=1) (rdr 1 Z) jm sz3 Z Z (ah Z) cC cC Z)<|wD 10 Z (yL 1 av Z Z Z)<|wD 11 Z (dJ Z Z)<|wD 12 Z (dI Z)<|wD 13 Z (aC ak sz3 Z Z (rdr 2 Z))<|qN 14 Z cA (bJ 2 Z sz3 Z Z) ?_;rintro _ _ rfl;refine⟨.inl cA,?_⟩;exact wN<|bK<|wA Z Z<|aB Z<|⟨i+1,n,upd rk ((rd bs ((rdp l1 i).1))+((rdp l1 i).2)) n,⟨G,G,G,(by rw[show i+1-1=i by omega,EU G,bq cF,<-hn,yw]),(by rw[upd,Gs];exact A),(GL O X H G N (by unfold jV;omega) C (by have e:(i+1-1)=i:=G;have hc:=(by rw[show i+1-1=i by omega,EU G,bq cF,<-hn,yw]:_=kE ws bs rs h l1 (i+1-1).toNat);rw[e] at hc;exact hc))⟩,G,SA,λ_ h=>h.selR (F:=[_,_,_,_,_,_,_,_,_]) (F':=[_,_,_,_,_,_,_]) [2,3,4,5,6,7,8] cC Z⟩
  refine aG<|bE mixed<|fU [3,4] 0 5 Z<|wD 5 Z (dW (q:=0) (rdr 0 Z) jm sz3 Z Z (ah Z) cC cC Z)<|wD 6 Z (yL 0 av Z Z Z)<|wD 7 Z (aC ak sz3 Z Z (rdr 6 Z))<|wD 8 Z (aQ av Z Z (rdr 6 Z))<|wD 9 Z (dW (q:=1) (rdr 0 Z) jm sz3 Z Z (ah Z) cC cC Z)<|wD 10 Z (yL 0 av Z Z Z)<|wD 11 Z (dJ Z Z)<|wD 12 Z (dI Z)<|wD 13 Z (aC ak sz3 Z Z (rdr 1 Z))<|qN 14 Z cA (bJ 1 Z sz3 Z Z) ?_;rintro _ _ rfl;refine⟨.inl cA,?_⟩;exact wN<|bK<|wA Z Z<|aB Z<|⟨i+1,n,upd rk ((rd bs ((rdp l1 i).1))+((rdp l1 i).2)) n,⟨G,G,G,(by have P:i=0:=G;subst P;exact hn),(by rw[upd,Gs];exact A),(GL O X H G N (by unfold jV;omega) C (by have e:(i+1-1)=i:=G;have hc:=(by have P:i=0:=G;subst P;exact hn:_=kE ws bs rs h l1 (i+1-1).toNat);rw[e] at hc;exact hc))⟩,G,SA,λ_ h=>h.selR (F:=[_,_,_,_,_,_,_,_]) (F':=[_,_,_,_,_,_,_]) [1,2,3,4,5,6,7] cC Z⟩
 refine aP<|cB [2] 4 Z<|bN (aV 3 Z Z Z XM Z Z Z Z (ah Z))<|aJ<|aD Z<|aL [3,4,5,0] 7<|⟨_,Z,?_⟩;obtain rfl:i=l1.length:=G
 refine⟨l1,rk,_,_,?_,o,j5,A,λj hj=>C j G,Z⟩;rw[hn,show((l1.length:Int)-1).toNat=l1.length-1 by omega]
end
section
variable {w:World} {u:AH} {ws:AD} {i:Int} {l lr:List RC}
theorem bLq {B:Nat} {w0:World} {R:List Row} (x y:Nat) (b:x<=1000000) (d:y<=1000000) (h:x*y<=1000000):CT 97 #[.int .u64 (x:Int), .int .u64 (y:Int)] B w0 R (λv R'=>v= .tuple #[.int .u64 0, .int .u64 ((x*y:Nat):Int)]/\R'=R):=by
 intro w a;have hc:=Tryz.bits_Mul x y G G w;rw[Fu G,lm G] at hc;refine hc.mono ?_;rintro e w' ⟨rfl,rfl⟩;exact⟨_,R,Z,a,Z,Z⟩
theorem YL {p:Int} (h:0<=p/\p<=18446744073709551615):IntKind.u64.wrap p=p:=by rw[Fp];omega
theorem TJ {ao:AF} {ar an:Nat} {a:Int} (am:R4 w ao ar an u) (hu:0<u.length) (hc:1<=a) (C:a.toNat*u.length<=8000):
  CF 52 #[sl ao ar an,I a] w (λv R'=> ∃A c,v=sl A (rep u a).length c/\R'=[⟨5,1,A,(rep u a).length,c,ints .u8 (rep u a),true⟩]):=by
 obtain rfl:=am.lenI;refine fn1 func52 Z Z Z ?_;obtain⟨N,d⟩: ∃N:Nat,u.length*a.toNat=N:=⟨_,rfl⟩;have g:a.toNat*u.length=N:=by rw[Ai];exact d
 have k:u.length<=N:=by rw[<-g];exact Ep _ G
 have B:a.toNat<=N:=by rw[<-d];exact Ep _ hu
 refine aD Z<|aA<|aK 1 Z<|wy (Yl.f (pU Z Z))<|aJ<|aM Z<|aG<|aA<|aK 1 Z<|wy (Yl.f (fD Z Z))<|aJ<|aM Z<|aG<|aK 2 Z<|wy (Yl.is (pV av Bv Z) (by rw[YL G])) ?_;refine wm Z<|wy (Yl.is (pV av Bv Z) (show Value.int .u64 (IntKind.u64.wrap a)=Value.int .u64 (a.toNat:Int) from by rw[YL G,ky G]))<|wa (aH bVj rfl (bLq u.length a.toNat G G G)) ?_;rw[d];rintro _ _⟨rfl,rfl⟩;refine aB Z<|aA<|aK 1 Z<|wy (Yl.f (iL Z Z))<|bH 2 Z<|aN Z Z<|wy (Yl.f (iL Z Z))<|aB Z<|aM Z<|aG<|aK 1 Z<|wy (gV Bv av Z)<|aB Z<|aA<|aK 2 Z<|wy (Yl.f (pU Z Z))<|aJ<|aM Z<|aG<|aD Z<|aA<|aK 1 Z<|wy (Yl.f (iL Z Z))<|aJ<|aM Z<|aG<|aK 1 Z<|wa (bIo (m:=N) (ps:= #[3]) func98 cA cA cA cA ai Z G) ?_;rintro _ _⟨j,i,hC,rfl,rfl⟩;refine bH 2 Z<|wy (aTm (h:=N) ai sz5 Z Z Z Z Z hC)<|aB Z<|aK 2 Z<|dD (aBz (dl:=N) 0 Z ai sz5 Z Z (Z) G (am.c _))<|aB Z<|aA<|aF<|gX (λ(p:Int) (b:Nat) (D:AH)=>[(7,I (N:Int)),(8,I (N:Int)),(9,sl (GG j) N N),(10,I p)]) (λp b D=>[(ru 5 (GG j) b i D)]) (λp b D=>(b=D.length)/\(aEr u D N p)) (λp b D=>(N-p).toNat) ?_ ?_
 ·exact⟨((min u.length N:Nat):Int),(0+min u.length N),([])++List.take (min u.length N) u,⟨(by rw[ig,ax];omega),(aEr.init k)⟩,KP⟩
 intro p b D ⟨o,e⟩;have q:=e.p0;have r:=e.pN;have x:=e.len;have y:=e.up;refine aA<|aD Z<|aR Z ?_ ?_<;>intro ap
 ·refine aG<|aF<|aK 2 Z<|wy (pQ Z Z)<|aB Z<|bE mixed<|bF 0 3 Z<|wD 3 Z (dE ai sz5 Z Z)<|bF 4 2 Z<|wD 6 Z (aYs ai sz5 Z Z G G)<|wC 7 Z (aBz (dl:=(N-(p).toNat)) 0 Z ai sz5 Z Z (by rw[aJj G,show p.toNat=b by omega]) G (RdC.capI (RdC.toI (rdr 0 Z) G) G)) ?_;rintro _ _⟨rfl,rfl⟩;refine⟨.inl cA,?_⟩;exact wD 8 Z (dJ Z Z)<|wD 9 Z (bY Z)<|wN<|⟨p+((min ((min p (N:Int)).toNat) (N-(p).toNat):Nat):Int),(b+min ((min p (N:Int)).toNat) (N-(p).toNat)),D++List.take (min ((min p (N:Int)).toNat) (N-(p).toNat)) ((D).take (min p (N:Int)).toNat),⟨(by rw[aa,ax,ax];omega),(e.step hu G)⟩,G,KP⟩
 refine aP<|aD Z ?_;obtain rfl:=o;obtain rfl:=e.done G g.symm;have l:(rep u a).length=N:=by rw[lU];omega
 refine gN (R1:=[⟨5,1,GG j,(rep u a).length,(rep u a).length,ints .u8 (rep u a),true⟩]) (λ_ h=>h.toRo cD (dn _)) ?_;rw[<-l];exact⟨_,Z,_,_,Z,Z⟩
theorem iO (a:0<=i) (h1:i<ws.length):rdl ws i∈ws:=by
 unfold rdl;rw[af,au G];exact mg _
theorem gH (a:0<=i) (h1:i<ws.length):ws.take (i+1).toNat=ws.take i.toNat++[rdl ws i]:=by
 rw[show(i+1).toNat=i.toNat+1 by omega,rf,au G];unfold rdl;rw[af,au G];rfl
theorem bDa (x y:AH) (a b:Int):orL [cmpL x y,jO a b]=lF (x,a) (y,b):=by
 unfold lF orL orL orL;simp only;split
 ·rfl
 split
 ·rfl
 omega
theorem aUx {A:AF} {c:Nat} (b:0<=i) (h1:i<ws.length) (hl:l.map RC.rt=dL (ws.take i.toNat)) (a:0<gP (lw (rdl ws i))):(l++[(⟨A,c,jX (lw (rdl ws i)),gP (lw (rdl ws i))⟩:RC)]).map RC.rt=dL (ws.take (i+1).toNat):=by
 have hp:0<(rdl ws i).length:=by
  rcases fe (rdl ws i).length with z|z
  ·rw [di z] at a;simp[bSw,gP] at a
  exact z
 rw[jc,hl,gH b h1,kY];congr 1;unfold dL;simp[hp,RC.rt,lT]
theorem bBj (a:0<=i) (h1:i<ws.length) (hl:l.map RC.rt=dL (ws.take i.toNat)) (b: ¬0<gP (lw (rdl ws i))):l.map RC.rt=dL (ws.take (i+1).toNat):=by
 have hp:(rdl ws i).length=0:=by
  rcases fe (rdl ws i).length with z|z
  ·exact z
  exact absurd (qQ (c:=lw (rdl ws i)) (by rw[lD];exact z)) b
 rw[hl,gH a h1,kY];unfold dL;simp[hp]
theorem rW (ws:AD):(dL ws).length<=ws.length:=by
 unfold dL;rw[bn];exact yo _ _
theorem BK (h:aI u):aI (lw u):=aI.append (h.drop _) (h.take _)
theorem bEl:Go.Sort.SWO (Go.Proofs.ltOf λx y:RC=>lF x.rt y.rt):=by
 have e: ∀x y:RC,Go.Proofs.ltOf (λx y:RC=>lF x.rt y.rt) x y=true↔lF x.rt y.rt<0:=λx y=>by simp[Go.Proofs.ltOf]
 have e': ∀x y:RC,Go.Proofs.ltOf (λx y:RC=>lF x.rt y.rt) x y=false↔lF y.rt x.rt<=0:=λx y=>by
  rw[<-Bool.not_eq_true,e,tV x.rt y.rt];omega
 refine⟨λx=> ?_,λx y z h1 a=> ?_,λx y z h1 a=> ?_⟩
 ·rw[e',(aDk x.rt x.rt).2 rfl];omega
 ·rw [e] at h1 a ⊢;have b:=JZ x.rt y.rt z.rt G G;rcases zt b with g|g
  ·exact g
  have g2:=(aDk _ _).1 g;rw[g2,tV y.rt z.rt] at h1;omega
 rw [e'] at h1 a ⊢;exact JZ _ _ _ a h1
theorem bKn {ws:AD} {M:Nat} (hl:lr.map RC.rt=fQ ws) (h: ∀w∈ws,w.length<=M) {r:RC} (i:r∈lr):0<r.root.length/\1<=r.times/\r.times.toNat*r.root.length<=M:=by
 have h1:r.rt∈fQ ws:=by rw[<-hl];exact List.mem_map_of_mem i
 obtain⟨w,j,hp,e⟩:=rD h1;have a:0<(lw w).length:=by rw[lD];exact hp
 have d:r.root=jX (lw w):=bi Prod.fst e;have g:r.times=gP (lw w):=bi Prod.snd e;have k:=AQ a;have l:=nT a;have m:=qQ a;have b:=bi List.length (vI a);rw[lU,lD] at b;rw[d,g];exact⟨G,G,by rw[b];exact h w j⟩
theorem aOy (a:0<=i) (h1:i<lr.length):(lr.take (i+1).toNat).map (λr=>rep r.root r.times)=(lr.take i.toNat).map (λr=>rep r.root r.times)++[rep (rdG lr i).root (rdG lr i).times]:=by
 rw[show(i+1).toNat=i.toNat+1 by omega,rf,au G,jc];unfold rdG;rw[af,au G];rfl
theorem aOz (hl:lr.map RC.rt=fQ ws) (hi:(lr.length:Int)<=i):(lr.take i.toNat).map (λr=>rep r.root r.times)=canon ws:=by
 rw[bg G];unfold canon;rw[<-hl,qp];rfl
theorem aMj {rm:AF} {rp:Nat} {x:AH} {a:Int} {d:AF} {g:Nat} {y:AH} {b:Int} (j:Rd w rm x.length rp 1 (ints .u8 x)) (i:Rd w d y.length g 1 (ints .u8 y)) (k:aI x) (e:aI y):
  CF 93 #[.agg #[sl rm x.length rp,I a], .agg #[sl d y.length g,I b]] w (λv R'=>v=I (lF (x,a) (y,b))):=by
 refine fn1 func93 Z Z Z<|wq<|aX (dC (sz:=2) Z Z) λl=>aX (dC (sz:=2) Z Z) λm=>aB Z<|aA<|bE mixed<|fU [1,0] 0 4 Z<|fU [1,0] 5 4 Z<|wC 4 Z (aH bVk Z (Ct.quiet (λw h=>KS ((j.c _) w h) ((i.c _) w h) k e))) ?_;rintro _ _⟨rfl,rfl⟩;refine⟨.inr hiZ,?_⟩;refine wC 9 Z (aH bFz Z (Ct.quiet (λw h=>sF))) ?_;rintro _ _⟨rfl,rfl⟩;refine⟨.inr hiZ,?_⟩;refine wC 10 Z (bG .i64 [cmpL x y,jO a b] ak zs3 Z Z Z) ?_;rintro _ _⟨o,rfl,rfl⟩;refine⟨.inr hrZ,?_⟩;refine wC 11 Z (aH bVl Z (Ct.quiet (λw h=>bDb ((rdr 0 Z) w h)))) ?_;rintro _ _⟨rfl,rfl⟩;refine⟨.inr hiZ,?_⟩;refine wD 12 Z (bY Z)<|wN<|aL [] 99<|⟨_,Z,?_⟩;exact bi (Value.int .i64) (bDa x y a b)
theorem aLt (cb:Array Value):bIq Tryz.prog 92 93 cb 2:=λα _ enc hk h1 e hO g off cap d w b hH hblk a=>
 AnyQ.slices_SortFunc Tryz.laysRing 2 (λw=>cA) (λw=>cA) enc hk h1 e hO 93 cb g off cap d w cAc b hH hblk a
theorem aFu:EY Tryz.prog 92:=λp cap a w=>AnyF.slices_SortFunc_none Tryz.laysRing p cap a w
theorem aGm {w:World} {bl:AF} {cg bm:Nat} {aq:AG} {ws:AD} (m:Rd w bl cg bm 1 aq) (o:SlW .u8 w aq ws) (L:(∀w∈ws,w.length<=8000)/\ws.length<=100000):
  CF 51 #[sl bl cg bm] w (λv R'=> ∃(A:AF) (c:Nat) (l:List RC) (Rs:List Row),v=sl A l.length c/\RgR Rs l/\l.map RC.rt=fQ ws/\R'=⟨100,2,A,l.length,c,rgs l,false⟩::Rs):=by
 obtain rfl:cg=ws.length:=by have:=m.len;have:=o.1;omega
 refine fn1 func51 Z Z Z ?_;have In:=o.okB;refine aD Z<|wq<|dX ⟨100,2,none,0,0,rgs ([]),false⟩<|aB Z<|aA<|aD Z<|aF<|nX (λ(i:Int) (A1:AF) (d:Nat) (c1:Nat) (l:List RC) (Rs:List Row)=>[(3,sl A1 d c1),(8,sl bl ws.length bm),(9,I (ws.length:Int)),(10,I i)]) (λi A1 d c1 l Rs=>(⟨100,2,A1,d,c1,rgs l,false⟩::Rs)) (λi A1 d c1 l Rs=>(0<=i)/\(i<=ws.length)/\(d=l.length)/\(RgR Rs l)/\(l.map RC.rt=dL (ws.take i.toNat))) (λi A1 d c1 l Rs=>(ws.length-i).toNat) ?_ ?_
 ·exact⟨0,none,0,0,[],[],⟨G,G,(Z),(RgR.nil _),(Z)⟩,KP⟩
 intro i A1 d c1 l Rs ⟨g,gn,p,e,hl⟩;have Q:=bi List.length hl;rw[bn] at Q;have J:=rW (ws.take i.toNat);rw[ax] at J;have O:0<=i->i<ws.length->(rdl ws i).length<=8000:=λh K=>L.1 _ (iO h K);refine aD Z<|aA<|aR Z ?_ ?_<;>intro ap
 ·have S:=O g G;refine aG<|aA<|aF<|wq<|wy (aC dm iZ Z Z (m.c _))<|o.elim (i:=i) G G (λY X P R N yy=> ?_);refine wy (kS ai Z Z Z (m.c _) P)<|aB Z<|aK 1 Z<|bZ cAe Z (λw q=>bSo ((R.c _) w q) (byteL_wf N) G) λjp mj=>bZ cAf Z (λw q=>bBb ((rdr 0 Z) w q) (by rw[lD];omega)) λk j=> ?_;refine aB Z<|aD Z<|aR Z ?_ ?_<;>intro T
  ·exact aT 3 Z<|wy (bV (v:= .agg #[sl k ((jX (lw (rdl ws i))).length) j,I (gP (lw (rdl ws i)))]) Z (λw=>cA))<|aX (bUc ⟨k,j,jX (lw (rdl ws i)),gP (lw (rdl ws i))⟩ underlying97 bUk rfl) λuc=>dG (aYq 3 rfl underlying97 bUm rfl rfl rfl rfl (rdr 0 rfl) G) λu B=>bC (v:=sl u (d+1) B) rfl<|aB rfl<|bK<|wA rfl rfl<|aB rfl<|⟨i+1,u,d+1,B,l++([⟨k,j,jX (lw (rdl ws i)),gP (lw (rdl ws i))⟩]),((ru 5 k ((jX (lw (rdl ws i))).length) j (jX (lw (rdl ws i))))::Rs),⟨G,G,(by rw[aa,p];rfl),(e.snoc Z (aI.take (BK (In _ (iO g G)).1) _)),(aUx g G hl cF)⟩,G,SA,λ_ h=>h.selR (F:=[_,_,_,_]) (F':=[_,_]) [3,1] cC Z⟩
  exact aG<|bK<|wA Z Z<|aB Z<|⟨i+1,A1,d,c1,l,Rs,⟨G,G,(p),(e),(bBj g G hl cF)⟩,G,SA,λ_ h=>h.selR (F:=[_,_,_]) (F':=[_]) [2] cC Z⟩
 obtain rfl:=p;obtain rfl:i=ws.length:=G
 rw[bu,qa] at hl;refine aP<|aK 1 Z<|wa (aH cAd Z (aLv (enc:=encR) (aLt _) aFu (λ_=>Z) bFw (l:=l) 0 Z G (λx y=>lF x.rt y.rt) bEl (λW C x D y H=>aMj ((e x D).2 _ _ _ C) ((e y H).2 _ _ _ C) (e x D).1 (e y H).1))) ?_;rintro _ _⟨rfl,l1,r,M,rfl⟩;rw[<-r.length_eq];exact aJ<|aD Z<|aS<|⟨_,Z,_,_,l1,Rs,Z,e.perm r,EA ((r.map RC.rt).trans (by rw[hl])) (iv.2 (M.imp λ{a b} h=>by rw[tV a.rt b.rt] at h;omega)),rfl⟩
end
section
variable {w:World} {bl:AF} {cg bm:Nat} {aq:AG} {ws:AD} {lr:List RC} {i:Int}
theorem aBo {w:World} {ws:AD} (x:Rd w bl cg bm 1 aq) (B:SlW .u8 w aq ws) (M:(∀w∈ws,w.length<=8000)/\ws.length<=100000):
  CF 25 #[sl bl cg bm] w (λv R'=> ∃(A:AF) (c:Nat) (vals:AG) (Rs:List Row),v=sl A vals.length c/\SlR .u8 Rs vals (canon ws)/\R'=⟨22,1,A,vals.length,c,vals,false⟩::Rs):=by
 obtain rfl:cg=ws.length:=by have:=x.len;have:=B.1;omega
 refine fn1 func25 Z Z Z<|aD Z<|wq<|dX ⟨22,1,none,0,0,[],false⟩<|aB Z<|aA<|aK 1 Z<|wa (aH bVy Z (Ct.fresh (λw d=>aGm ((x.c _) w d) (B.c d) cE))) ?_;rintro _ _⟨_,rfl,j,g,a,J,rfl,O,q,rfl⟩;refine gZ (R1:=(⟨100,2,j,a.length,g,rgs a,false⟩::⟨22,1,none,0,0,[],false⟩::J)) (Sub.refl _) (λ_ h=>Hp.toTail0 (X:=[_]) (Y:=[_]) h)<|aB Z<|aF<|IK (λ(i:Int) (A1:AF) (b:Nat) (c1:Nat) (vals:AG) (ls:AD) (Rs:List Row)=>[(3,sl A1 b c1),(7,sl j a.length g),(8,I (a.length:Int)),(9,I i)]) (λi A1 b c1 vals ls Rs=>(⟨100,2,j,a.length,g,rgs a,false⟩::⟨22,1,A1,b,c1,vals,false⟩::Rs)) (λi A1 b c1 vals ls Rs=>(0<=i)/\(i<=a.length)/\(b=vals.length)/\(SlR .u8 Rs vals ls)/\(RgR Rs a)/\(ls=(a.take i.toNat).map (λr=>rep r.root r.times))) (λi A1 b c1 vals ls Rs=>(a.length-i).toNat) ?_ ?_
 ·exact⟨0,none,0,0,[],[],J,⟨G,G,(Z),(SlR.nilR _ _),(O),(Z)⟩,KP⟩
 intro i A1 b c1 vals ls Rs ⟨y,T,C,o,u,p⟩;have P:=bi List.length p;rw[bn,ax] at P;have S:=o.1;have N:0<=i->i<a.length->0<(rdG a i).root.length/\1<=(rdG a i).times/\(rdG a i).times.toNat*(rdG a i).root.length<=8000:=λh L=>bKn q M.1 (EC h L);have R:a.length<=ws.length:=by have h1:=bi List.length q;rw[bn,(jI ws).length_eq] at h1;have h2:=rW ws;omega
 refine aD Z<|aA<|aR Z ?_ ?_<;>intro ap
 ·have e:=N y G;refine aG<|aA<|aF<|wq<|wy (pR underlying97 ZC Z Z (rdr 0 Z) Z) ?_;have K:=(u _ (EC (l:=a) (i:=i) G G)).2;refine wy (bOn Jf Z ZC Z (rdr 0 Z) G G)<|aX (eH (sz:=2) bOi Z) λQ=>bN (aZ (vs:=[sl ((rdG a i).A) ((rdG a i).root.length) ((rdG a i).c),I ((rdG a i).times)]) 0 Z ZC Z Z Z cH Z)<|aJ<|nQ [0,0] 5 Z<|bZ bVx Z (λw d=>TJ ((λ_ h=>K _ _ _ (h.right (R':=[_,_,_]))) w d) e.1 e.2.1 e.2.2) λm k=>aX (jD [Value.slice m ((rep ((rdG a i).root) ((rdG a i).times)).length) k] dm pF Z Z Z Z) λxi=>dG (fO 4 Z Z dm yG Z Z Z Z Z (rdr 0 Z) (by simp[Value.oneCell']) (by dsimp only;omega)) λD H=> ?_;exact bC (v:=sl D (b+1) H) Z<|aB Z<|bK<|wA Z Z<|aB Z<|⟨i+1,D,b+1,H,vals++([Value.slice m ((rep ((rdG a i).root) ((rdG a i).times)).length) k]),(ls++[rep (rdG a i).root (rdG a i).times]),(⟨5,1,m,(rep ((rdG a i).root) ((rdG a i).times)).length,k,ints .u8 (rep ((rdG a i).root) ((rdG a i).times)),true⟩::Rs),⟨G,G,(by rw[aa,C];rfl),(o.snoc Z),(u.right [_]),(by rw[aOy y G,<-p])⟩,G,SA,λ_ h=>h.selR (F:=[_,_,_,_,_]) (F':=[_,_,_]) [3,4,1] cC Z⟩
 refine aP<|aD Z ?_;obtain rfl:ls=canon ws:=by rw[p];exact aOz q G
 refine aL [1] 2<|⟨_,Z,?_⟩;subst C;exact⟨_,_,vals,Rs,Z,o,Z⟩
theorem DU {β:Type} (f:RC->β) (a:0<=i) (h1:i<lr.length):(lr.take (i+1).toNat).map f=(lr.take i.toNat).map f++[f (rdG lr i)]:=by
 rw[show(i+1).toNat=i.toNat+1 by omega,rf,au G,jc];unfold rdG;rw[af,au G];rfl
theorem bKg (hl:lr.map RC.rt=fQ ws) (hi:(lr.length:Int)<=i):(lr.take i.toNat).map RC.root=(fQ ws).map Prod.fst/\(lr.take i.toNat).map RC.times=(fQ ws).map Prod.snd:=by
 rw[bg G,<-hl,qp,qp];exact⟨Z,Z⟩
theorem aUu {w:World} {ws:AD} (D:Rd w bl cg bm 1 aq) (H:SlW .u8 w aq ws) (hN:(∀w∈ws,w.length<=8000)/\ws.length<=100000):
  CF 162 #[sl bl cg bm] w (λv R'=> ∃(A:AF) (c:Nat) (A2:AF) (c2:Nat) (vals:AG) (Rs:List Row),v= .tuple #[sl A vals.length c,sl A2 ((fQ ws).map Prod.snd).length c2]/\SlR .u8 Rs vals ((fQ ws).map Prod.fst)/\R'=⟨22,1,A,vals.length,c,vals,false⟩::(ri 3 A2 (((fQ ws).map Prod.snd).length) c2 ((fQ ws).map Prod.snd))::Rs):=by
 obtain rfl:cg=ws.length:=by have:=D.len;have:=H.1;omega
 refine fn2 func162 Z Z Z<|wq<|dX ⟨22,1,none,0,0,[],false⟩<|wg Z<|dX (ri 3 none 0 0 ([]))<|aB Z<|aA<|aK 1 Z<|wa (aH bVy Z (Ct.fresh (λw O=>aGm ((D.c _) w O) (H.c O) cE))) ?_;rintro _ _⟨_,rfl,u,r,a,q,rfl,p,R,rfl⟩;refine gZ (R1:=(⟨100,2,u,a.length,r,rgs a,false⟩::(ri 3 none 0 0 ([]))::⟨22,1,none,0,0,[],false⟩::q)) (Sub.refl _) (λ_ h=>Hp.toTail0 (X:=[_]) (Y:=[_,_]) h)<|aB Z<|aF<|zU (λ(i:Int) (A1:AF) (b:Nat) (c1:Nat) (vals:AG) (ls:AD) (A2:AF) (d:Nat) (c2:Nat) (ts:AH)=>[(2,sl A1 b c1),(3,sl A2 d c2),(7,sl u a.length r),(8,I (a.length:Int)),(9,I i)]) (λi A1 b c1 vals ls A2 d c2 ts=>(⟨100,2,u,a.length,r,rgs a,false⟩::(ri 3 A2 d c2 ts)::⟨22,1,A1,b,c1,vals,false⟩::q)) (λi A1 b c1 vals ls A2 d c2 ts=>(0<=i)/\(i<=a.length)/\(b=vals.length)/\(d=ts.length)/\(SlR .u8 q vals ls)/\(ls=(a.take i.toNat).map RC.root)/\(ts=(a.take i.toNat).map RC.times)) (λi A1 b c1 vals ls A2 d c2 ts=>(a.length-i).toNat) ?_ ?_
 ·exact⟨0,none,0,0,[],[],none,0,0,[],⟨G,G,(Z),(Z),(SlR.nilR _ _),(Z),(Z)⟩,KP⟩
 intro i A1 b c1 vals ls A2 d c2 ts ⟨e,gn,m,o,j,k,g⟩;have ya:=bi List.length k;rw[bn,ax] at ya;have ci:=bi List.length g;rw[bn,ax] at ci;have Oy:=j.1;have Od:a.length<=ws.length:=by have h1:=bi List.length R;rw[bn,(jI ws).length_eq] at h1;have h2:=rW ws;omega
 refine aD Z<|aA<|aR Z ?_ ?_<;>intro ap
 ·refine aG<|aA<|aF<|wq<|wy (pR underlying97 ZC Z Z (rdr 0 Z) Z) ?_;have Mp:=(p _ (EC (l:=a) (i:=i) G G)).2;refine wy (bOn Jf Z ZC Z (rdr 0 Z) G G)<|aX (eH (sz:=2) bOi Z) λNp=>bN (aZ (vs:=[sl ((rdG a i).A) ((rdG a i).root.length) ((rdG a i).c),I ((rdG a i).times)]) 0 Z ZC Z Z Z cH Z)<|aJ<|yJ (Rc:=((rc 100 2 Np [sl ((rdG a i).A) ((rdG a i).root.length) ((rdG a i).c),I ((rdG a i).times)])::q)) mixed (λ_ h=>h.selR (F:=[_,_,_,_]) (F':=[_]) [0] cC Z)<|fB 0 Z cA Z (dI Z)<|fB 1 Z cA Z (yF 0 0 Jf iZ Z)<|fB 2 Z cA Z (yL 0 ai Z Z Z)<|fB 5 Z cA Z (dI Z)<|fB 6 Z cA Z (yF 1 1 Jf sz3 Z)<|fB 7 Z cA Z (yL 0 av Z Z Z)<|aDz 3 8 cA ?_ ?_
  ·refine sN 3 Z Z (jD [Value.slice ((rdG a i).A) ((rdG a i).root.length) ((rdG a i).c)] dm pF Z Z Z Z) ?_;rintro _ _⟨uc,rfl,rfl⟩;refine⟨λ_ h=>h.selR (F:=[_,_,_,_,_]) (F':=[_]) [1] cC Z,?_⟩;refine aDz 4 8 cA ?_ ?_
   ·refine sN 4 Z Z (fO 4 Z Z dm yG Z Z Z Z Z (rdr 0 Z) (by simp[Value.oneCell']) (by dsimp only;omega)) ?_;rintro _ _⟨J,L,rfl,rfl⟩;refine⟨λ_ h=>h.selR (F:=[_,_,_,_,_]) (F':=[_]) [1] cC Z,?_⟩;refine vX (v:=sl J (b+1) L) Z<|iV 8 cA<|sN 8 Z Z (bG .i64 [(rdG a i).times] ak zs3 Z Z Z) ?_;rintro _ _⟨zr,rfl,rfl⟩;refine⟨λ_ h=>h.selR (F:=[_,_,_,_,_,_]) (F':=[_]) [2] cC Z,?_⟩;refine iV 9 cA<|sN 9 Z Z (aO 4 Z ak zb3 Z Z Z (rdr 0 Z)) ?_;rintro _ _⟨K,M,rfl,rfl⟩;refine⟨λ_ h=>h.selR (F:=[_,_,_,_,_,_]) (F':=[_]) [2] cC Z,?_⟩;exact vX (v:=sl K (d+1) M) Z<|fB 10 Z cA Z (bY Z)<|fB 11 Z cA Z (bY Z)<|sM cA<|bK<|wA Z Z<|aB Z<|⟨i+1,J,b+1,L,vals++([Value.slice ((rdG a i).A) ((rdG a i).root.length) ((rdG a i).c)]),(ls++[(rdG a i).root]),K,d+1,M,ts++([(rdG a i).times]),⟨G,G,(by rw[aa,m];rfl),(by rw[aa,o];rfl),(j.push Z (p _ (EC e G)).2),(by rw[DU RC.root e G,<-k]),(by rw[DU RC.times e G,<-g])⟩,G,SA,λ_ h=>h.selR (F:=[_,_,_,_,_,_]) (F':=[_,_,_]) [3,4,5] cC Z⟩
   refine sN 8 Z Z (bG .i64 [(rdG a i).times] ak zs3 Z Z Z) ?_;rintro _ _⟨Qh,rfl,rfl⟩;refine⟨λ_ h=>h.selR (F:=[_,_,_,_,_,_]) (F':=[_]) [2] cC Z,?_⟩;refine iV 4 cA<|sN 4 Z Z (fO 5 Z Z dm yG Z Z Z Z Z (rdr 1 Z) (by simp[Value.oneCell']) (by dsimp only;omega)) ?_;rintro _ _⟨S,T,rfl,rfl⟩;refine⟨λ_ h=>h.selR (F:=[_,_,_,_,_,_]) (F':=[_]) [2] cC Z,?_⟩;refine vX (v:=sl S (b+1) T) Z<|iV 9 cA<|sN 9 Z Z (aO 4 Z ak zb3 Z Z Z (rdr 0 Z)) ?_;rintro _ _⟨P,Q,rfl,rfl⟩;refine⟨λ_ h=>h.selR (F:=[_,_,_,_,_,_]) (F':=[_]) [2] cC Z,?_⟩;exact vX (v:=sl P (d+1) Q) Z<|fB 10 Z cA Z (bY Z)<|fB 11 Z cA Z (bY Z)<|sM cA<|bK<|wA Z Z<|aB Z<|⟨i+1,S,b+1,T,vals++([Value.slice ((rdG a i).A) ((rdG a i).root.length) ((rdG a i).c)]),(ls++[(rdG a i).root]),P,d+1,Q,ts++([(rdG a i).times]),⟨G,G,(by rw[aa,m];rfl),(by rw[aa,o];rfl),(j.push Z (p _ (EC e G)).2),(by rw[DU RC.root e G,<-k]),(by rw[DU RC.times e G,<-g])⟩,G,SA,λ_ h=>h.selR (F:=[_,_,_,_,_,_]) (F':=[_,_,_]) [3,4,5] cC Z⟩
  refine sN 8 Z Z (bG .i64 [(rdG a i).times] ak zs3 Z Z Z) ?_;rintro _ _⟨u4,rfl,rfl⟩;refine⟨λ_ h=>h.selR (F:=[_,_,_,_,_]) (F':=[_]) [1] cC Z,?_⟩;refine iV 3 cA<|sN 3 Z Z (jD [Value.slice ((rdG a i).A) ((rdG a i).root.length) ((rdG a i).c)] dm pF Z Z Z Z) ?_;rintro _ _⟨N,rfl,rfl⟩;refine⟨λ_ h=>h.selR (F:=[_,_,_,_,_,_]) (F':=[_]) [2] cC Z,?_⟩;refine iV 4 cA<|sN 4 Z Z (fO 5 Z Z dm yG Z Z Z Z Z (rdr 0 Z) (by simp[Value.oneCell']) (by dsimp only;omega)) ?_;rintro _ _⟨x,y,rfl,rfl⟩;refine⟨λ_ h=>h.selR (F:=[_,_,_,_,_,_]) (F':=[_]) [2] cC Z,?_⟩;refine vX (v:=sl x (b+1) y) Z<|iV 9 cA<|sN 9 Z Z (aO 4 Z ak zb3 Z Z Z (rdr 1 Z)) ?_;rintro _ _⟨C,B,rfl,rfl⟩;refine⟨λ_ h=>h.selR (F:=[_,_,_,_,_,_]) (F':=[_]) [2] cC Z,?_⟩;exact vX (v:=sl C (d+1) B) Z<|fB 10 Z cA Z (bY Z)<|fB 11 Z cA Z (bY Z)<|sM cA<|bK<|wA Z Z<|aB Z<|⟨i+1,x,b+1,y,vals++([Value.slice ((rdG a i).A) ((rdG a i).root.length) ((rdG a i).c)]),(ls++[(rdG a i).root]),C,d+1,B,ts++([(rdG a i).times]),⟨G,G,(by rw[aa,m];rfl),(by rw[aa,o];rfl),(j.push Z (p _ (EC e G)).2),(by rw[DU RC.root e G,<-k]),(by rw[DU RC.times e G,<-g])⟩,G,SA,λ_ h=>h.selR (F:=[_,_,_,_,_,_]) (F':=[_,_,_]) [3,4,5] cC Z⟩
 refine aP<|aD Z<|aL [2,1] 3<|⟨_,_,Z,Z,?_⟩;have io:=bKg R (show(a.length:Int)<=i by omega);obtain rfl:ls=(fQ ws).map Prod.fst:=k.trans io.1;obtain rfl:ts=(fQ ws).map Prod.snd:=g.trans io.2;subst m;subst o;exact⟨_,_,_,_,vals,_,Z,j,Z⟩
theorem MZ {ao:AF} {ar an:Nat} {u:AH} {tk:AF} {wk tz:Nat} {t:AH} (am:R4 w ao ar an u) (a:R4 w tk wk tz t) (d:aI u) (b:aI t):
  CF 190 #[sl ao ar an,sl tk wk tz] w (λv R'=>v= .bool (decide (u=t))):=by
 obtain rfl:=am.lenI;obtain rfl:=a.lenI;refine fn1 func190 Z Z Z<|aD Z<|aK 1 Z<|wy (gL ai ay qh Z (am.c _))<|wm Z<|wy (gL ai ay qh Z (a.c _))<|wy (YK Z Z d b)<|aB Z<|aS<|⟨_,Z,?_⟩;rfl
theorem bAu {vd:AF} {i4 vi:Nat} {m5:AG} {a:AD} {lf:AF} {rj lj:Nat} {m:AG} {b:AD} (l:Rd w vd i4 vi 1 m5) (d:SlW .u8 w m5 a) (h:Rd w lf rj lj 1 m) (g:SlW .u8 w m b) (H:a.length<=1000000):
  CF 21 #[sl vd i4 vi,sl lf rj lj] w (λv R'=>v= .bool (decide (a=b))):=by
 obtain rfl:i4=a.length:=by have:=l.len;have:=d.1;omega
 obtain rfl:rj=b.length:=by have:=h.len;have:=g.1;omega
 refine fn1 func21 Z Z Z<|aD Z<|aA<|aD Z<|aR Z ?_ ?_<;>intro ap
 ·refine aD Z<|aS<|⟨_,Z,?_⟩;exact bi Value.bool (mo (λe=>by rw[e] at ap;exact ap rfl)).symm
 refine aG<|aA<|aD Z<|aF<|iK (λ(k:Int)=>[(0,sl vd a.length vi),(1,sl lf b.length lj),(5,I k)]) (λk=>[]) (λk=>(0<=k)/\(k<=a.length)/\(a.take k.toNat=b.take k.toNat)) (λk=>(a.length-k).toNat) ?_ ?_
 ·exact⟨0,⟨G,G,(Z)⟩,KP⟩
 intro k ⟨o,K,j⟩;refine aA<|aD Z<|aR Z ?_ ?_<;>intro C
 ·refine aG<|aA<|aF<|aA<|bE mixed<|bF 0 2 Z<|wD 2 Z (aC dm iZ Z Z (l.c _))<|d.elim (i:=k) G G (λF D y A u L=> ?_);refine wD 3 Z (kS ai Z Z Z (l.c _) y)<|wD 4 Z (gL ai ay qh Z (A.c _))<|bF 5 2 Z<|wD 7 Z (aC dm iZ Z Z (h.c _))<|g.elim (i:=k) G G (λjp J p x q B=> ?_);refine wD 8 Z (kS ai Z Z Z (h.c _) p)<|wD 9 Z (gL ai ay qh Z (x.c _))<|wD 10 Z (NM Z Z (byteL_wf u) (byteL_wf q))<|wN<|aR Z ?_ ?_<;>intro r
  ·refine aD Z<|aS<|⟨_,Z,?_⟩;exact bi Value.bool (mo (λe=>by subst e;exact r rfl)).symm
  exact aG<|aT 1 Z<|wA Z Z<|aB Z<|⟨k+1,⟨G,G,(by rw[gH o G,gH o G,j];exact bi (λz=>List.take k.toNat b++[z]) (pg.1 cF))⟩,G,KP⟩
 refine aP<|aD Z<|aS<|⟨_,Z,?_⟩;exact bi Value.bool (nz (by rw[bg G,bg G] at j;exact j)).symm
end
section
variable {B g0 g1 g2 c0 c1 c2 g n c vb rp:Nat} {w0 w:World} {R:List Row} {o y us cc r total most:Int} {A0 A1 A2 A rm:AF} {x l:AH}
theorem Ct.via {P:Program} {f:FuncId} {args:Array Value} {R1 b a:List Row} {u:Value} (is d:List Nat) (m:Nat) (h:Ct P f args B w0 R1 (λv R'=>v=u/\R'=b)) (s:mU R is m R1:=by repeat' first|apply mU.c rfl|exact mU.n (iI.n rfl)|exact mU.n iI.z|apply mU.n|exact iI.n rfl|exact iI.z|apply iI.s rfl) (t:mU b d m a:=by repeat' first|apply mU.c rfl|exact mU.n (iI.n rfl)|exact mU.n iI.z|apply mU.n|exact iI.n rfl|exact iI.z|apply iI.s rfl) (h1:okS is m=true:=by decide) (e:okS d m=true:=by decide):Ct P f args B w0 R (λv R'=>v=u/\R'=a):=
 λw l=>(h w (l.selC s h1)).mono λ_ _ ⟨v,R',g,i,k,j⟩=>⟨v,a,g,Hp.selC (j▸i) t e,k,rfl⟩
def FE (g0 g1 g2:Nat) (k:Int):Nat:=if k=0 then g0 else if k=1 then g1 else g2
theorem vM {S:PpS} (h:S.cls*o=0):FE g0 g1 g2 (S.cls*o)=g0/\dK o S=S.c0:=by unfold FE dK;rw[cz h,cz h];exact⟨rfl,rfl⟩
theorem vL {S:PpS} (h:S.cls*o=1):FE g0 g1 g2 (S.cls*o)=g1/\dK o S=S.c1:=by unfold FE dK;rw[bq G,cz h,bq G,cz h];exact⟨rfl,rfl⟩
theorem vK {S:PpS} (h:S.cls*o=2):FE g0 g1 g2 (S.cls*o)=g2/\dK o S=S.c2:=by unfold FE dK;rw[bq G,bq G,bq G,bq G];exact⟨rfl,rfl⟩
theorem bAi {S:PpS} (h:S.cls*o=0):fJ o S y=⟨nS S.c0 y,S.c1,S.c2,gU y,mM S.cd S.c0 y⟩:=by unfold fJ XR dK;simp only[h,cz]
theorem bAh {S:PpS} (h:S.cls*o=1):fJ o S y=⟨S.c0,nS S.c1 y,S.c2,gU y,mM S.cd S.c1 y⟩:=by unfold fJ XR dK;simp[h]
theorem bAg {S:PpS} (h:S.cls*o=2):fJ o S y=⟨S.c0,S.c1,nS S.c2 y,gU y,mM S.cd S.c2 y⟩:=by unfold fJ XR dK;simp[h]
theorem aDf {S:PpS} (a:S.cls*o=0\/S.cls*o=1\/S.cls*o=2):
  CT 112 #[.pointer (some ⟨(FE g0 g1 g2 (S.cls*o)),0,none⟩)] B w0 ((rc 222 2 g0 [sl A0 258 c0,I (bL S.c0)])::(ri 3 A0 258 c0 S.c0)::(rc 222 2 g1 [sl A1 258 c1,I (bL S.c1)])::(ri 3 A1 258 c1 S.c1)::(rc 222 2 g2 [sl A2 258 c2,I (bL S.c2)])::(ri 3 A2 258 c2 S.c2)::R) (λv R'=>v=I (bL (dK o S))/\R'=(rc 222 2 g0 [sl A0 258 c0,I (bL S.c0)])::(ri 3 A0 258 c0 S.c0)::(rc 222 2 g1 [sl A1 258 c1,I (bL S.c1)])::(ri 3 A1 258 c1 S.c1)::(rc 222 2 g2 [sl A2 258 c2,I (bL S.c2)])::(ri 3 A2 258 c2 S.c2)::R):=by
 rcases a with hk|hk|hk
 ·rw[(vM hk).1,(vM (g0:=0) (g1:=0) (g2:=0) hk).2];exact Ct.via [0,1,2,3,4,5] [0,1,2,3,4,5] 6 (kQ)
 ·rw[(vL hk).1,(vL (g0:=0) (g1:=0) (g2:=0) hk).2];exact Ct.via [2,3,0,1,4,5] [2,3,0,1,4,5] 6 (kQ)
 rw[(vK hk).1,(vK (g0:=0) (g1:=0) (g2:=0) hk).2];exact Ct.via [4,5,0,1,2,3] [2,3,4,5,0,1] 6 (kQ)
theorem OD {S:PpS} (d:S.cls*o=0\/S.cls*o=1\/S.cls*o=2) (a:xB S) (b:0<=y/\y<258):
  CT 110 #[.pointer (some ⟨(FE g0 g1 g2 (S.cls*o)),0,none⟩),I y] B w0 ((rc 222 2 g0 [sl A0 258 c0,I (bL S.c0)])::(ri 3 A0 258 c0 S.c0)::(rc 222 2 g1 [sl A1 258 c1,I (bL S.c1)])::(ri 3 A1 258 c1 S.c1)::(rc 222 2 g2 [sl A2 258 c2,I (bL S.c2)])::(ri 3 A2 258 c2 S.c2)::R) (λv R'=>v= .tuple #[I (bL ((dK o S).take y.toNat)),I (rd (dK o S) y),bt]/\R'=(rc 222 2 g0 [sl A0 258 c0,I (bL S.c0)])::(ri 3 A0 258 c0 S.c0)::(rc 222 2 g1 [sl A1 258 c1,I (bL S.c1)])::(ri 3 A1 258 c1 S.c1)::(rc 222 2 g2 [sl A2 258 c2,I (bL S.c2)])::(ri 3 A2 258 c2 S.c2)::R):=by
 rcases d with hk|hk|hk
 ·rw[(vM hk).1,(vM (g0:=0) (g1:=0) (g2:=0) hk).2];exact Ct.via [0,1,2,3,4,5] [0,1,2,3,4,5] 6 (nK (by rw[a.1.1.1]) (by rw[a.1.1.1];exact b) a.1.1)
 ·rw[(vL hk).1,(vL (g0:=0) (g1:=0) (g2:=0) hk).2];exact Ct.via [2,3,0,1,4,5] [2,3,0,1,4,5] 6 (nK (by rw[a.1.2.1.1]) (by rw[a.1.2.1.1];exact b) a.1.2.1)
 rw[(vK hk).1,(vK (g0:=0) (g1:=0) (g2:=0) hk).2];exact Ct.via [4,5,0,1,2,3] [2,3,4,5,0,1] 6 (nK (by rw[a.1.2.2.1]) (by rw[a.1.2.2.1];exact b) a.1.2.2)
theorem OE {S:PpS} {v0:Int} (e:S.cls*o=0\/S.cls*o=1\/S.cls*o=2) (a:xB S) (d:0<=y/\y<258) (b:bL ((dK o S).take y.toNat)<=v0/\v0<bL ((dK o S).take y.toNat)+rd (dK o S) y):
  CT 223 #[.pointer (some ⟨(FE g0 g1 g2 (S.cls*o)),0,none⟩),I v0] B w0 ((rc 222 2 g0 [sl A0 258 c0,I (bL S.c0)])::(ri 3 A0 258 c0 S.c0)::(rc 222 2 g1 [sl A1 258 c1,I (bL S.c1)])::(ri 3 A1 258 c1 S.c1)::(rc 222 2 g2 [sl A2 258 c2,I (bL S.c2)])::(ri 3 A2 258 c2 S.c2)::R) (λv R'=>v= .tuple #[I y,bt]/\R'=(rc 222 2 g0 [sl A0 258 c0,I (bL S.c0)])::(ri 3 A0 258 c0 S.c0)::(rc 222 2 g1 [sl A1 258 c1,I (bL S.c1)])::(ri 3 A1 258 c1 S.c1)::(rc 222 2 g2 [sl A2 258 c2,I (bL S.c2)])::(ri 3 A2 258 c2 S.c2)::R):=by
 rcases e with hk|hk|hk
 ·rw[(vM (g0:=0) (g1:=0) (g2:=0) hk).2] at b;rw[(vM hk).1];exact Ct.via [0,1,2,3,4,5] [0,1,2,3,4,5] 6 (yV (by rw[a.1.1.1]) a.1.1 d b)
 ·rw[(vL (g0:=0) (g1:=0) (g2:=0) hk).2] at b;rw[(vL hk).1];exact Ct.via [2,3,0,1,4,5] [2,3,0,1,4,5] 6 (yV (by rw[a.1.2.1.1]) a.1.2.1 d b)
 rw[(vK (g0:=0) (g1:=0) (g2:=0) hk).2] at b;rw[(vK hk).1];exact Ct.via [4,5,0,1,2,3] [2,3,4,5,0,1] 6 (yV (by rw[a.1.2.2.1]) a.1.2.2 d b)
theorem JS {S:PpS} (a:S.cls*o=0\/S.cls*o=1\/S.cls*o=2):
  CT 109 #[PG g] B w0 ((rc 214 5 g [PG g0,PG g1,PG g2,I S.cls,I o])::R) (λv R'=>v= .pointer (some ⟨(FE g0 g1 g2 (S.cls*o)),0,none⟩)/\R'=(rc 214 5 g [PG g0,PG g1,PG g2,I S.cls,I o])::R):=by
 rcases a with hk|hk|hk
 ·rw[(vM hk).1];exact yU hk
 ·rw[(vL hk).1];exact yT hk
 rw[(vK hk).1];exact yS hk
theorem aCh {S:PpS} (d:S.cls*o=0\/S.cls*o=1\/S.cls*o=2) (a:xB S) (b:0<=y/\y<258):
  CT 113 #[PG g,I y] B w0 ((rc 214 5 g [PG g0,PG g1,PG g2,I S.cls,I o])::(rc 222 2 g0 [sl A0 258 c0,I (bL S.c0)])::(ri 3 A0 258 c0 S.c0)::(rc 222 2 g1 [sl A1 258 c1,I (bL S.c1)])::(ri 3 A1 258 c1 S.c1)::(rc 222 2 g2 [sl A2 258 c2,I (bL S.c2)])::(ri 3 A2 258 c2 S.c2)::R) (λv R'=>v= .tuple #[]/\R'=(rc 214 5 g [PG g0,PG g1,PG g2,I ((fJ o S y).cls),I o])::(rc 222 2 g0 [sl A0 258 c0,I (bL ((fJ o S y).c0))])::(ri 3 A0 258 c0 ((fJ o S y).c0))::(rc 222 2 g1 [sl A1 258 c1,I (bL ((fJ o S y).c1))])::(ri 3 A1 258 c1 ((fJ o S y).c1))::(rc 222 2 g2 [sl A2 258 c2,I (bL ((fJ o S y).c2))])::(ri 3 A2 258 c2 ((fJ o S y).c2))::R):=by
 rcases d with hk|hk|hk
 ·rw[bAi hk];exact Ct.via [0,1,2,3,4,5,6] [0,1,2,3,4,5,6] 7 (SS hk (by rw[a.1.1.1];exact b) a.1.1)
 ·rw[bAh hk];exact Ct.via [0,3,4,1,2,5,6] [0,3,4,1,2,5,6] 7 (SQ hk (by rw[a.1.2.1.1];exact b) a.1.2.1)
 rw[bAg hk];exact Ct.via [0,5,6,1,2,3,4] [0,3,4,5,6,1,2] 7 (SN hk (by rw[a.1.2.2.1];exact b) a.1.2.2)
theorem PL {ao:AF} {ar an:Nat} {u:AH} (am:R4 w ao ar an u) (a:u.length<4):
  CF 221 #[sl ao ar an] w (λv R'=>v= .tuple #[.pointer none,bf]):=by
 obtain rfl:=am.lenI;refine fn2 func221 Z Z Z<|aD Z<|aA<|aK 2 Z<|wy (Yl.t (fD Z Z) G)<|aJ<|bA Z<|aD Z<|aS<|⟨_,_,Z,Z,?_⟩;rfl
theorem aGr (hn:n=x.length) (hu:us=(x.length:Int)):
  CT 247 #[PG g] B w0 ((rc 289 4 g [sl A n c,I us, .int .u64 cc, .int .u64 r])::(ru 5 A n c x)::R) (λv R'=>v=bf/\R'=(rc 289 4 g [sl A n c,I us, .int .u64 cc, .int .u64 r])::(ru 5 A n c x)::R):=by
 subst hn;subst hu;exact fn1 func247 Z Z Z<|aD Z<|aA<|aA<|bE mixed<|fU [0,0] 0 9 Z<|wD 9 Z (Yl.t (pG Z Z) G)<|wN<|bA Z<|aD Z<|aS<|⟨_,Z,Z,Z⟩
theorem aOa (hn:n=x.length) (e:1<=total/\total<=65536) (d:16777216<=r/\r<4294967296) (hc:0<=cc/\cc<4294967296) (h: ¬cc/(r/total)<total):
  CT 222 #[PG g,I total] B w0 ((rc 289 4 g [sl A n c,I us, .int .u64 cc, .int .u64 r])::(ru 5 A n c x)::R) (λv R'=>v= .tuple #[I 0,bf]/\R'=(rc 289 4 g [sl A n c,I us, .int .u64 cc, .int .u64 r])::(ru 5 A n c x)::R):=by
 subst hn;have b:256<=r/total:=(uo G).2 G;have a:0<=cc/(r/total):=Aa hc.1 G;refine fn2 func222 Z Z Z<|aD Z<|aA<|aK 1 Z<|wy (kT Ji Z Z)<|bH 2 Z<|aN Z Z<|wy (Yl.f (fD Z Z))<|bH 3 Z<|aN Z Z<|wy (Yl.f (iL Z Z))<|aB Z<|aM Z<|aG<|cB [0] 5 Z<|wy (dO av ic Z)<|wy (sI Z Z G G)<|aB Z<|aA<|aK 1 Z<|wy (Yl.f (pU Z Z))<|iC [0] 6 Z<|aN Z Z<|wy (sI Z Z G G)<|bH 1 Z<|aN Z Z<|wy (dO av ic Z)<|aN Z Z<|wy (Yl.t (pG Z Z) G)<|aB Z<|bA Z<|aD Z<|aS<|⟨_,_,Z,Z,?_⟩;exact⟨Z,Z⟩
theorem aLn {s:CdS} {low size:Int} (hn:n=x.length) (e:aI x) (l:x.length<=1000000) (hs:16777216<=s.R/\s.R<4294967296) (b:rH low size total) (d5:s.R/total*low<=cuC x s) (K:cuC x s<s.R/total*(low+size)) (F:s.k+4<=x.length) (hlen:x.length<(lW s low size total).k+4):
  CT 224 #[PG g,I low,I size,I total] B w0 ((rc 289 4 g [sl A n c,I ((s.k+4:Nat):Int), .int .u64 (cuC x s), .int .u64 s.R])::(ru 5 A n c x)::R) (λv R'=> ∃(us cc r:Int),v=bf/\R'=(rc 289 4 g [sl A n c,I us, .int .u64 cc, .int .u64 r])::(ru 5 A n c x)::R):=by
 subst hn;have p:=b;obtain⟨L,O,P,Q⟩:=p;obtain⟨f1,f2,f3,f4,f5⟩:=mX b hs;have u:=Ec (s.R/total) low size;have S:x.length<s.k+shN (s.R/total*size)+4:=hlen;refine fn1 func224 Z Z Z<|aD Z<|aA<|aK 1 Z<|wy (kT Ji Z Z)<|bH 4 Z<|aN Z Z<|dZ bGk Z (λw H=>BO b)<|aB Z<|aM Z<|aG<|cB [0] 5 Z<|wy (dO av ic Z)<|wy (sI Z Z G G)<|aB Z<|aA<|cB [0] 6 Z<|wy (dO av ic Z)<|wy (mV Z Z G)<|wy (Yl.f (fD Z Z))<|iC [0] 8 Z<|aN Z Z<|wA Z Z<|aN Z Z<|wy (dO av ic Z)<|aN Z Z<|wy (mV Z Z G)<|aN Z Z<|wy (Yl.f (pG Z Z))<|aB Z<|aM Z<|aG<|cB [0] 6 Z<|wy (dO av ic Z)<|wy (mV Z Z G)<|wy (aKv Z Z G)<|bH 2 Z<|bN (aV 0 Z Z Z wP Z Z Z Z (ah Z)) ?_;refine aJ<|aA<|aK 3 Z<|wy (dO av ic Z)<|wy (mV Z Z G)<|bH 2 Z<|bN (aV 0 Z Z Z wP Z Z Z Z (ah Z))<|aJ<|aF<|DD (λ(j:Nat) (cc:Int) (r:Int) (M:Int)=>[(0,PG g)]) (λj cc r M=>((rc 289 4 g [sl A x.length c,I ((s.k+j+4:Nat):Int), .int .u64 cc, .int .u64 r])::(ru 5 A x.length c x)::R)) (λj cc r M=>(M=(s.N+s.R/total*low)*256^j)/\(r=(s.R/total*size)*256^j)/\(j<=shN (s.R/total*size))/\(cc=lZ (x.take (s.k+j+4))-M)/\(0<=cc/\cc<r)/\(s.k+j+4<=x.length)) (λj cc r M=>(4-j)) ?_ ?_
 ·exact⟨0,(cuC x s-s.R/total*low),(s.R/total)*size,(s.N+s.R/total*low),⟨(by rw[rz,wh]),(by rw[rz,wh]),(oq _),(by show cuC x s-s.R/total*low=lZ (x.take (s.k+4))-_;unfold cuC;omega),G,G⟩,KP⟩
 intro j cc r M ⟨i,a,d,hc,hb,hk⟩;have J:=AA (s.R/total*size);have C:1<=r:=by rw[a];exact xJ G
 refine aA<|lK [0] Z<|aR Z ?_ ?_<;>intro ap
 ·refine aG<|aA<|aF<|aK 1 Z ?_;refine(ry (s.k+j+4<x.length)).elim ?_ ?_<;>intro y
  ·have h:j+1<=shN (s.R/total*size):=xH G d (by rw[<-a];assumption);have io:=CG (x:=x) (m:=s.k+j+4) G hc;have D:=e.rd ((s.k+j+4:Nat):Int);have q:0<=lZ (x.take (s.k+j+4+1))-M*256/\lZ (x.take (s.k+j+4+1))-M*256<r*256:=G
   exact dD (aH WE Z ((qU (m:=(s.k+j+4)) (M:=M) Z e l Z hc G G)))<|aB Z<|aM Z<|aG<|nQ [0] 4 Z<|wy (pM (k:=8) (m:=256) Z Z Z G Z)<|bH 2 Z<|bN (aV 0 Z Z Z wP Z Z Z Z (ah Z))<|aJ<|⟨(j+1),(lZ (x.take (s.k+j+4+1))-M*256),r*256,(M*256),⟨(by rw[i,qc,<-tq]),(by rw[a,qc,<-tq]),(h),(Z),(q),G⟩,G,KP⟩
  exact dD (aH WE Z ((aGr Z G)))<|aB Z<|bA Z<|aD Z<|aS<|⟨_,Z,_,_,_,Z,Z⟩
 refine aP<|aD Z<|aS<|⟨_,Z,?_⟩;exfalso;have o:j=shN (s.R/total*size):=DL G d (by rw[<-a];omega);omega
theorem aEw {C:AH} (h:mD C): ∃y:Int,(0<=y/\y<258)/\bL (C.take y.toNat)<=0/\0<bL (C.take y.toNat)+rd C y:=by
 have h1:=h.2.1 _ (bM (L:=C) (k:=0) G (by have:=h.1;omega));have a:bL (C.take (0:Int).toNat)=0:=rfl;exact⟨0,G,G,G⟩
theorem bJr (Y:R4 w rm vb rp x) (u:aI x) (X:x.length<=1000000) (ho:o=0\/o=1) (hm:0<=most/\most<=100000) (T:4<=x.length):
  CF 187 #[sl rm vb rp,I o,I most] w (λv R'=>(∃(l:AH) (A:AF) (c:Nat),v= .tuple #[sl A l.length c,bt]/\R'=[(ri 3 A l.length c l)]/\(l.length<=100001/\ ∀z∈l,0<=z/\z<257)/\aEq x o most l)\/(v= .tuple #[sl none 0 0,bf]/\R'=[]/\NoB x o most)):=by
 obtain rfl:=Y.lenI;refine fn2 func187 Z Z Z<|aD Z<|aK 1 Z<|aCc (aH bPs Z (Ct.fresh (λw g=>UW ((Y.c _) w g) u G T))) λO M N=>aB Z<|aK 1 Z<|wa (aH bGu Z (Ct.fresh (λw g=>MR))) ?_;rintro _ _⟨_,rfl,jx,f8,sk,rv,zd,jn,S,Q,P,px,rfl,rfl⟩;refine aB Z<|wq<|dX (ri 3 none 0 0 ([]))<|aB Z<|aA<|aF<|PV (λ(A1:AF) (i:Nat) (c1:Nat) (acc:AH) (a:PpS) (m:Bool) (us:Int) (cc:Int) (rr:Int)=>[(2,I most),(8,PG O),(9, .bool m),(10,PG jx),(11,sl A1 i c1)]) (λA1 i c1 acc a m us cc rr=>[(ri 3 A1 i c1 acc),(rc 214 5 jx [PG f8,PG sk,PG rv,I a.cls,I o]),(rc 222 2 f8 [sl zd 258 Q,I (bL a.c0)]),(ri 3 zd 258 Q a.c0),(rc 222 2 sk [sl jn 258 P,I (bL a.c1)]),(ri 3 jn 258 P a.c1),(rc 222 2 rv [sl S 258 px,I (bL a.c2)]),(ri 3 S 258 px a.c2),(rc 289 4 O [sl M x.length N,I us, .int .u64 cc, .int .u64 rr]),(ru 5 M x.length N x)]) (λA1 i c1 acc a m us cc rr=>(i=acc.length)/\((acc.length:Int)<=most+1)/\(xB a)/\(m=true->pJ x o most acc a/\us=((a.cd.k+4:Nat):Int)/\cc=cuC x a.cd/\rr=a.cd.R)/\(m=false->NoB x o most)) (λA1 i c1 acc a m us cc rr=>(most+2-acc.length).toNat) ?_ ?_
 ·exact⟨none,0,0,[],pp0,true,((cd0.k+4:Nat):Int),cuC x cd0,cd0.R,⟨(Z),(by show(0:Int)<=_;omega),(aMv),(λ_=>⟨aAu u T,Z,Z,Z⟩),(λh=>(by cases h))⟩,KP⟩
 intro A1 i c1 acc a m us cc rr ⟨C,pe,H,F,ue⟩;have j:=H;have g:=KW j ho;cases m
 ·refine aA<|aD Z<|aM Z<|aP<|aD Z<|aL [] 99<|⟨_,_,Z,Z,?_⟩;exact .inr ⟨Z,Z,ue Z⟩
 obtain ⟨e,rfl,rfl,rfl⟩:=F rfl;refine aA<|aD Z<|aR Z ?_ ?_<;>intro ap
 ·refine aG<|aF<|aK 1 Z<|dD (aH vV Z (Ct.pk [1,0,2,3,4,5,6,7,8,9] 99 (h:=JS g)))<|dD (aH aJe Z (Ct.pk [2,3,4,5,6,7,0,1,8,9] 99 (h:=aDf g)))<|aB Z<|aK 2 Z ?_;refine(ry (cuC x a.cd/(a.cd.R/bL (dK o a))<bL (dK o a))).elim ?_ ?_<;>intro B
  ·obtain ⟨y,d,r,d5,J⟩:=e.found B;refine dD (aH bPr Z (Ct.pk [8,9,0,1,2,3,4,5,6,7] 99 (h:=aWt Z e.tot e.wid e.c2 B)))<|aB Z<|aK 1 Z<|dD (aH vV Z (Ct.pk [8,0,1,2,3,4,5,6,7,9] 99 (h:=JS g)))<|wm Z<|dD (aH bPq Z (Ct.pk [3,4,5,6,7,8,0,1,2,9] 99 (h:=OE (y:=y) g j d r)))<|aB Z<|aK 1 Z<|dD (aH vV Z (Ct.pk [6,0,1,2,3,4,5,7,8,9] 99 (h:=JS g)))<|wm Z<|dD (aH aJf Z (Ct.pk [1,2,3,4,5,6,0,7,8,9] 99 (h:=OD (y:=y) g j d)))<|aB Z<|aK 9 Z ?_;refine(ry ((mM a.cd (dK o a) y).k+4<=x.length)).elim ?_ ?_<;>intro m8
   ·refine aN Z Z<|dD (aH bPp Z (Ct.pk [7,8,0,1,2,3,4,5,6,9] 99 (h:=aTy (s:=a.cd) Z u X e.wid (lC e.mdl d.1 d.2) d5 J m8)))<|aB Z<|aA<|aD Z<|aR Z ?_ ?_<;>intro bp
    ·refine aD Z<|aL [9] 99<|⟨_,_,Z,Z,?_⟩;subst C;obtain rfl:y=257:=G
     exact .inl ⟨acc,_,_,Z,Z,⟨G,e.sy⟩,λb h1 h2 h3=>e.last r h1 h2 h3⟩
    have h7:y≠257:=bp;exact aG<|aK 2 Z<|aX (bG .i64 [y] ak zs3 Z Z Z) λzp=>dG (aO 10 Z ak zb3 Z Z Z (rdr 0 Z)) λkl pj=>bC (v:=sl kl (i+1) pj) Z<|aB Z<|aT 2 Z<|dD (aH aBe Z (Ct.pk [9,3,4,5,6,7,8,0,1,2,10] 99 (h:=aCh (y:=y) g j d)))<|aJ<|⟨kl,i+1,pj,acc++([y]),(fJ o a y),true,(((mM a.cd (dK o a) y).k+4:Nat):Int),cuC x (mM a.cd (dK o a) y),(mM a.cd (dK o a) y).R,⟨(by rw[aa,C];rfl),(by rw[aa,dw];omega),((uJ j d.1 d.2).1),(λ_=>⟨e.step u d h7 r d5 J m8,by rw[uK],by rw[uK],by rw[uK]⟩),(λh=>(by cases h))⟩,(by rw[aa,dw];omega),SA,λ_ h=>h.sel [10,0,1,2,3,4,5,6,8,9] cC rfl⟩
   have D:=e.short d r G;refine aN Z Z<|bZu (aH bPp Z (Ct.pk [7,8,0,1,2,3,4,5,6,9] 99 (h:=aLn (s:=a.cd) Z u X e.wid (lC e.mdl d.1 d.2) d5 J e.kx (show x.length<(mM a.cd (dK o a) y).k+4 from by omega)))) λq Xy p=>aB rfl<|aA<|aD rfl<|aM rfl<|aG<|aK 2 rfl<|aX (bG .i64 [y] ak zs3 rfl rfl rfl) λKa=>dG (aO 10 rfl ak zb3 rfl rfl rfl (rdr 0 rfl)) λqu qv=>bC (v:=sl qu (i+1) qv) rfl<|aB rfl<|aT 2 rfl<|dD (aH aBe rfl (Ct.pk [9,3,4,5,6,7,8,0,1,2,10] 99 (h:=aCh (y:=y) g j d)))<|aJ ?_;exact⟨qu,i+1,qv,acc++([y]),(fJ o a y),false,q,Xy,p,⟨(by rw[aa,C];rfl),(by rw[aa,dw];omega),((uJ j d.1 d.2).1),(λh=>(by cases h)),(λ_=>D)⟩,(by rw[aa,dw];omega),SA,λ_ h=>h.sel [10,0,1,2,3,4,5,6,8,9] cC Z⟩
  have D:=e.none B;obtain⟨y,d,r⟩:=aEw e.mdl;exact dD (aH bPr Z (Ct.pk [8,9,0,1,2,3,4,5,6,7] 99 (h:=aOa Z e.tot e.wid e.c2 B)))<|aB Z<|aK 1 Z<|dD (aH vV Z (Ct.pk [8,0,1,2,3,4,5,6,7,9] 99 (h:=JS g)))<|wm Z<|dD (aH bPq Z (Ct.pk [3,4,5,6,7,8,0,1,2,9] 99 (h:=OE (y:=y) g j d r)))<|aB Z<|aK 1 Z<|dD (aH vV Z (Ct.pk [6,0,1,2,3,4,5,7,8,9] 99 (h:=JS g)))<|wm Z<|dD (aH aJf Z (Ct.pk [1,2,3,4,5,6,0,7,8,9] 99 (h:=OD (y:=y) g j d)))<|aB Z<|aD Z<|aA<|aD Z<|aM Z<|aG<|aK 2 Z<|aX (bG .i64 [y] ak zs3 Z Z Z) λu4=>dG (aO 10 Z ak zb3 Z Z Z (rdr 0 Z)) λK L=>bC (v:=sl K (i+1) L) Z<|aB Z<|aT 2 Z<|dD (aH aBe Z (Ct.pk [7,1,2,3,4,5,6,0,8,9,10] 99 (h:=aCh (y:=y) g j d)))<|aJ<|⟨K,i+1,L,acc++([y]),(fJ o a y),false,((a.cd.k+4:Nat):Int),cuC x a.cd,a.cd.R,⟨(by rw[aa,C];rfl),(by rw[aa,dw];omega),((uJ j d.1 d.2).1),(λh=>(by cases h)),(λ_=>D)⟩,(by rw[aa,dw];omega),SA,λ_ h=>h.sel [10,0,1,2,3,4,5,6,8,9] cC Z⟩
 refine aP<|aD Z<|aL [] 99<|⟨_,_,Z,Z,?_⟩;exact .inr ⟨Z,Z,e.full G⟩
theorem bJq (b:R4 w rm vb rp x) (i:x.length<4):
  CF 187 #[sl rm vb rp,I o,I most] w (λv R'=>v= .tuple #[sl none 0 0,bf]):=by
 obtain rfl:=b.lenI;refine fn2 func187 Z Z Z<|aD Z<|aK 1 Z<|dZ bPs Z (λw a=>PL ((b.c _) w a) G)<|aB Z<|aK 1 Z<|wa (aH bGu Z (Ct.fresh (λw a=>MR))) ?_;rintro _ _⟨_,rfl,d,g,j,l,m,jp,k,h,p,e,rfl,rfl⟩;refine aB Z<|aD Z<|aA<|aF<|kI 1<|eD<|aA<|aD Z<|aM Z<|aP<|aD Z<|aL [] 99<|⟨_,_,Z,Z,?_⟩;rfl
theorem sH {p i:Int} {acc:AH} (i0:0<=i) (hi:i<l.length) (a:0<=rd l i/\rd l i<257):bkL most (l.drop i.toNat) acc p=if 2<=rd l i then(if most<acc.length+1 then none else bkL most (l.drop (i+1).toNat) (acc++[rd l i-1]) 1) else if most<p\/most-acc.length<(rd l i+1)*p then none else bkL most (l.drop (i+1).toNat) (acc++List.replicate ((rd l i+1)*p).toNat 0) (p*2):=by
 rw[fK i0 hi,bkL,bq G]
theorem aCj {li:AF} {va ml:Nat} {l:AH} (u:R5 w li va ml l) (B: ∀z∈l,0<=z/\z<257) (Q:0<=most/\most<=100000) (P:l.length<=1000000):
  CF 188 #[sl li va ml,I most] w (λv R'=>(∃(q:AH) (A:AF) (c:Nat),bkL most l [] 1=some q/\v= .tuple #[sl A q.length c,bt]/\R'=[(ru 5 A q.length c q)])\/(bkL most l [] 1=none/\v= .tuple #[sl none 0 0,bf]/\R'=[])):=by
 obtain rfl:=u.lenI;refine fn2 func188 Z Z Z<|aD Z<|aA<|aK 1 Z<|wy (Yl.f (fD Z Z))<|aJ<|aM Z<|aG<|wq<|aX (bG .u8 [] ai zs5 Z Z Z) λC=>aB Z<|aD Z<|aA<|aD Z<|aF<|nX (λ(i:Int) (A1:AF) (a:Nat) (c1:Nat) (acc:AH) (p:Int)=>[(1,I most),(6,sl A1 a c1),(7,I p),(14,sl li l.length ml),(15,I (l.length:Int)),(16,I i)]) (λi A1 a c1 acc p=>[(ru 5 A1 a c1 acc)]) (λi A1 a c1 acc p=>(0<=i)/\(i<=l.length)/\(a=acc.length)/\(1<=p/\p<=200000)/\((acc.length:Int)<=most)/\(bkL most (l.drop i.toNat) acc p=bkL most l [] 1)) (λi A1 a c1 acc p=>(l.length-i).toNat) ?_ ?_
 ·exact⟨0,GG C,0,0,[],1,⟨G,G,(Z),G,(by show(0:Int)<=most;omega),(Z)⟩,KP⟩
 intro i A1 a c1 acc p ⟨g,O,r,hp,R,d⟩;refine aD Z<|aA<|aR Z ?_ ?_<;>intro ap
 ·have j:=B _ (bM (L:=l) (k:=i) g G);refine aG<|aA<|aF<|wq<|wy (aC ak sz3 Z Z (u.c _))<|wy (aQ av Z Z (u.c _))<|aB Z<|aA<|aF<|aK 1 Z<|wy (Yl.f (fD Z Z))<|bH 2 Z<|aN Z Z<|wy (Yl.f (pG Z Z))<|aB Z<|aM Z<|aD Z<|aR Z ?_ ?_<;>intro J
  ·refine aK 2 Z<|wS Z Z<|wy (eP av ay Z)<|aX (bG .u8 [((rd l i)-1)%256] ai zs5 Z Z Z) λf8=>dG (aO 1 Z ai zb5 Z Z Z (rdr 0 Z)) λjp y=>bC (v:=sl jp (a+1) y) Z<|aB Z<|sQ Z<|aD Z<|aR Z ?_ ?_<;>intro K
   ·refine aD Z<|aL [] 99<|⟨_,_,Z,Z,?_⟩;exact .inr ⟨by rw[<-d,sH g G j,cz G,cz G],rfl,rfl⟩
   exact aG<|bK<|wA Z Z<|aB Z<|⟨i+1,jp,a+1,y,acc++([((rd l i)-1)%256]),1,⟨G,G,(by rw[aa,r];simp),G,(by rw[aa,dw];omega),(by rw[kg G G,<-d,sH g G j,cz G,bq G])⟩,G,SA,λ_ h=>h.sel [1] cC Z⟩
  have D:(rd l i+1)*p=p\/(rd l i+1)*p=2*p:=by
   rcases(by omega:rd l i=0\/rd l i=1) with e|e<;>rw[e]<;>omega
  obtain⟨b,o⟩: ∃b:Nat,(rd l i+1)*p=(b:Int):=⟨((rd l i+1)*p).toNat,G⟩;refine aK 1 Z<|wA Z Z<|wm Z<|wy (Yl.is (jG Z Z) (by rw[o])) ?_;refine aB Z<|aA<|aK 4 Z<|bD 7 [1,6,7,10,14,15,16] 34 (.bool (decide ((most<p)\/((most-(a:Int))<(b:Int))))) Z ?_ ?_
  ·refine bB 27 Z ?_ ?_<;>intro M
   ·exact aB Z<|KP
   exact bH 4 Z<|aN Z Z<|wS Z Z<|aB Z<|KP
  refine aJ<|aR Z ?_ ?_<;>intro N
  ·refine aD Z<|aL [] 99<|⟨_,_,Z,Z,?_⟩;exact .inr ⟨by rw[<-d,sH g G j,bq G,cz (by rw[o];omega)],rfl,rfl⟩
  refine aG<|aK 2 Z<|dG (bIn (m:=b) 0 Z ai av zb5 Z Z G G G) λH F=>aB Z<|aT 1 Z<|wy (jG Z Z)<|aB Z<|aD Z<|aR Z ?_ ?_<;>intro pi
  ·refine aD Z<|aL [] 99<|⟨_,_,Z,Z,?_⟩;exfalso;omega
  exact aG<|bK<|wA Z Z<|aB Z<|⟨i+1,H,a+b,F,acc++List.replicate b 0,p*2,⟨G,G,(by rw[aa,r];simp),G,(by rw[aa,df];omega),(by rw[<-d,sH g G j,bq G,bq (by rw[o];omega),show((rd l i+1)*p).toNat=b by omega])⟩,G,KP⟩
 refine aP<|aD Z<|aL [0] 99<|⟨_,_,Z,Z,?_⟩;have x:l.drop i.toNat=[]:=vv G;rw[x] at d;subst r;exact .inl ⟨acc,_,_,d.symm,Z,Z⟩
theorem aLc (e:R4 w rm vb rp x) (p:aI x) (K:x.length<=1000000) (i:o=0\/o=1) (L:0<=most/\most<=100000):
  CF 133 #[sl rm vb rp,I o,I most] w (λv R'=>(∃(b:AH) (A:AF) (c:Nat),(aI b/\(b.length:Int)<=most)/\bT b o=x/\v= .tuple #[sl A b.length c,bt]/\R'=[(ru 5 A b.length c b)])\/(NoB x o most/\v= .tuple #[sl none 0 0,bf]/\R'=[])):=by
 obtain rfl:=e.lenI;refine fn2 func133 Z Z Z<|aD Z<|aA<|aK 1 Z<|dZ bQn Z (λw a=>KA i)<|bH 3 Z<|aN Z Z<|wy (Yl.f (fD Z Z))<|aB Z<|aM Z<|aG<|aK 1 Z<|wy (Yl.is (pQ Z Z) (by rw[show min most 100000=most by omega])) ?_;refine aB Z<|aK 3 Z ?_;refine(ry (4<=x.length)).elim ?_ ?_<;>intro y
 ·refine wa (aH bPw Z (Ct.fresh (λw a=>bJr ((e.c _) w a) p G i G y))) ?_;rintro _ _⟨_,rfl,⟨l,F,D,rfl,rfl,C,m⟩|⟨rfl,rfl,B⟩⟩
  ·refine aB Z<|aA<|aD Z<|aM Z<|aG<|aK 2 Z<|wa (aH bXm Z (Ct.fresh (λw a=>aCj ((rdr 0 Z) w a) C.2 G G))) ?_;rintro _ _⟨_,rfl,⟨q,H,J,d,rfl,rfl⟩|⟨d,rfl,rfl⟩⟩
   ·obtain ⟨j,r⟩:=LH G (λ_ h=>(by cases h)) (by show(0:Int)<=_;omega) d;have k:=RS j;have g:=qO q bQ;refine aB Z<|aA<|aD Z<|aM Z<|aG<|aK 1 Z<|bZ bXl Z (λw a=>aYl ((rdr 0 Z) w a) j G) λM N=>aB Z<|aA<|aK 2 Z<|bZ bGb Z (λw a=>xK ((rdr 0 Z) w a) k i G) λP O=>aB Z<|aK 2 Z<|dZ bGg Z (λw a=>MZ ((rdr 0 Z) w a) ((e.c _) w a) (lQ _ _) p)<|wy (pO Z)<|aJ<|aR Z ?_ ?_<;>intro ap
    ·refine aD Z<|aL [] 99<|⟨_,_,Z,Z,?_⟩;exact .inr ⟨m.other d ap,Z,Z⟩
    refine aG<|aD Z<|aL [1] 99<|⟨_,_,Z,Z,?_⟩;have u:bT (kR bQ q) o=x:=ol.1 ap;rw[<-g];exact .inl ⟨_,_,_,⟨k,G⟩,u,rfl,rfl⟩
   refine aB Z<|aA<|aD Z<|bA Z<|aD Z<|aL [] 99<|⟨_,_,Z,Z,?_⟩;exact .inr ⟨m.none d,Z,Z⟩
  refine aB Z<|aA<|aD Z<|bA Z<|aD Z<|aS<|⟨_,_,Z,Z,?_⟩;exact .inr ⟨B,Z,Z⟩
 refine dZ bPw Z (λw a=>bJq ((e.c _) w a) G)<|aB Z<|aA<|aD Z<|bA Z<|aD Z<|aS<|⟨_,_,Z,Z,?_⟩;exact .inr ⟨aHp G,Z,Z⟩
end
section
variable {w:World} {lf:AF} {rj lj:Nat} {b:AH}
theorem aUi {c:Int}:
  CF 185 #[.int .u8 c] w (λv R'=>v= .bool (decide (c<128))):=by
 refine fn1 func185 Z Z Z<|aD Z<|aD Z<|aS<|⟨_,Z,?_⟩;rfl
theorem bFs {w:World} (a:R4 w lf rj lj b) (go:aI b) (m:b.length<=1000000):
  CF 184 #[sl lf rj lj, .func (.func 185) #[] #[]] w (λv R'=>v=I (kD b)):=by
 obtain rfl:=a.lenI;refine fn1 func184 Z Z Z<|aD Z<|aA<|aD Z<|aF<|iK (λ(i:Int)=>[(0,sl lf b.length lj),(1, .func (.func 185) #[] #[]),(7,I (b.length:Int)),(8,I i)]) (λi=>[]) (λi=>(0<=i)/\(i<=b.length)/\(∀j:Int,0<=j->j<i-> ¬rd b j<128)) (λi=>(b.length-i).toNat) ?_ ?_
 ·exact⟨0,⟨G,G,(λj h1 d=>G)⟩,KP⟩
 intro i ⟨e,l,hn⟩;refine aD Z<|aA<|aR Z ?_ ?_<;>intro ap
 ·have g:=go.rd i;refine aG<|aA<|aF<|aD Z<|aK 3 Z<|wy (aC ai sz5 Z Z (a.c _))<|wy (aQ ay Z Z (a.c _))<|bJc (HV bXo Z Z (Ct.quiet (λw o=>aUi)))<|aJ<|aR Z ?_ ?_<;>intro k
  ·refine aD Z<|aS<|⟨_,Z,?_⟩;exact bi (Value.int .i64) (aSk e G cF hn).symm
  refine aG<|bK<|wA Z Z<|aB Z ?_
  exact⟨i+1,⟨G,G,(λj h1 d=>by
    rcases bz j i with h|h
    ·exact hn j h1 h
    obtain rfl:j=i:=G
    assumption)⟩,G,KP⟩
 refine aP<|aD Z<|aS<|⟨_,Z,?_⟩;exact bi (Value.int .i64) (aWy λj h1 d=>hn j h1 G).symm
theorem bNf {x:Int} (h:0<=x/\x<256):CF 186 #[.int .u8 x] w (λv R'=>v=I ((Lib.bitLen x.toNat:Nat):Int)):=λw' a=>(Tryz.bits_Len8 x w' h.1 G).mono (by rintro e d ⟨b,rfl⟩;exact⟨_,[],b,a,rfl⟩)
theorem bMm (a:R4 w lf rj lj b) (go:aI b) (C:b.length<=1000000):
  CF 131 #[sl lf rj lj] w (λv R'=>(∃(V:Int) (k:Nat),rJ b V k/\v= .tuple #[.int .u64 V,I (k:Int),bt])\/((¬ ∃V k,rJ b V k)/\v= .tuple #[.int .u64 0,I 0,bf])):=by
 obtain rfl:=a.lenI;refine fn3 func131 Z Z Z<|aD Z<|aK 1 Z<|dZ bXp Z (λw u=>bFs ((a.c _) w u) go C)<|aB Z<|aA<|aK 3 Z<|bD 3 [0,2,5] 15 (.bool (decide (((kD b)<0)\/(9<(kD b))))) Z ?_ ?_
 ·refine bB 12 Z ?_ ?_<;>intro ap
  ·exact aB Z<|KP
  exact aB Z<|KP
 refine aJ<|aR Z ?_ ?_<;>intro L
 ·refine aD Z<|aS<|⟨_,_,_,Z,Z,Z,?_⟩;exact .inr ⟨aNv go G,Z⟩
 obtain ⟨e,i⟩: ∃e:Nat,kD b=(e:Int):=⟨(kD b).toNat,G⟩;have D:=zC (b:=b) G;have K:=go.rd (kD b);have P:Lib.bitLen (rd b (kD b)).toNat<=8:=Lib.bitLen_le8 ⟨(rd b (kD b)).toNat,G⟩;refine aG<|aA<|aK 3 Z<|bD 6 [0,2,5] 24 (.bool (decide ((0<(kD b))/\((rd b (kD b))=0)))) Z ?_ ?_
 ·refine bB 18 Z ?_ ?_<;>intro M
  ·exact bH 2 Z<|aN Z Z<|wy (aC ai sz5 Z Z (a.c _))<|aN Z Z<|wy (aQ ay Z Z (a.c _))<|aB Z<|KP
  exact aB Z<|KP
 refine wm Z<|bD 10 [0,2,5] 35 (.bool (decide (((0<(kD b))/\((rd b (kD b))=0))\/(64<((7*(kD b))+((Lib.bitLen (rd b (kD b)).toNat:Nat):Int)))))) Z ?_ ?_
 ·refine bB 25 Z ?_ ?_<;>intro N
  ·exact aB Z<|KP
  exact bH 1 Z<|aN Z Z<|wy (jG Z Z)<|bH 2 Z<|aN Z Z<|wy (aC ai sz5 Z Z (a.c _))<|aN Z Z<|wy (aQ ay Z Z (a.c _))<|aN Z Z<|dZ bXn Z (λw u=>bNf (go.rd _))<|aN Z Z<|wA Z Z<|aB Z<|KP
 refine aJ<|aR Z ?_ ?_<;>intro g
 ·refine aD Z<|aS<|⟨_,_,_,Z,Z,Z,?_⟩;exact .inr ⟨aNv go (by first|exact .inr (.inr (g.imp id λh=>G))|omega),Z⟩
 have o:rJ b (iY (b.take (e+1))) (e+1):=by
  rw[i] at g;refine bMi go i ?_ G;rcases fe e with z|z
  ·exact .inl z
  exact .inr λc=>g (.inl ⟨G,c⟩)
 refine aG<|aA<|aK 2 Z<|wA Z Z<|wy (dV ai sz5 Z Z (a.c _))<|aB Z<|aF<|dF (λ(q:Nat) (x:Int)=>[(2, .int .u64 x),(5,I (kD b)),(39,sl lf (((kD b)+1).toNat) lj),(40,I ((((kD b)+1).toNat:Nat):Int)),(41,I (q:Int))]) (λq x=>[]) (λq x=>(q<=e+1)/\(x=iY (b.take q))) (λq x=>(e+1-q)) ?_ ?_
 ·exact⟨0,0,⟨G,(Z)⟩,KP⟩
 intro q x ⟨O,l⟩;refine aD Z<|aA<|aR Z ?_ ?_<;>intro pi
 ·have B:=go.rd (q:Int);have d:rd ((b).take ((kD b)+1).toNat) (q:Int)=rd b (q:Int):=QE G G;have r:=xC (b:=b) (q:=q) G;have F:=aFg (b:=b) (q:=q+1) (e+1) G G;have H:=o.1.2;have J:=rU (b.take q);have y:x<2^(7*q):=by rw[l];exact IM q G
  have A:0<=rd b (q:Int)%128*2^(7*q):=yz G (wz G);have j:0<=rd b (q:Int)%128*2^(7*q)/\rd b (q:Int)%128*2^(7*q)<18446744073709551616:=⟨A,G⟩;refine aG<|aA<|aF<|aK 1 Z<|wy (aC ai sz5 Z Z (RdC.toI (h:=((kD b)+1).toNat) (a.c _) G))<|wy (aQ ay Z Z (RdC.toI (h:=((kD b)+1).toNat) (a.c _) G))<|aB Z<|aT 2 Z<|wy (aTn Z Z (by rw[d];exact B)) ?_;refine wy (dO ay ic Z)<|wm Z<|wy (Yl.is (jG Z Z) (show Value.int .i64 (7*(q:Int))=Value.int .i64 ((7*q:Nat):Int) by simp))<|wy (pM (k:=7*q) (m:=2^(7*q)) rfl rfl rfl (by rw[d];exact j) (Nat.ble_eq_true_of_le G)) ?_;refine wy (bOl (p:=(rd ((b).take ((kD b)+1).toNat) (q:Int))%128) (m:=2^(7*q)) (7*q) Z Z Z (by rw[d];exact⟨G,G⟩) ⟨G,y⟩) ?_;exact aB Z<|bK<|wA Z Z<|aB Z<|⟨(q+1),(rd ((b).take ((kD b)+1).toNat) (q:Int))%128*2^(7*q)+x,⟨G,(by rw[d,xC G,<-l])⟩,G,KP⟩
 refine aP<|aK 2 Z<|wA Z Z<|aB Z<|aS<|⟨_,_,_,Z,Z,Z,?_⟩;have eq:q=e+1:=G
 subst eq;subst l;exact .inl ⟨_,e+1,o,by rw[i];rfl⟩
end
section
variable {ao:AF} {ar an B g:Nat} {u:AH} {w0:World} {R:List Row} {k:Int}
theorem KO {w:World} (am:R4 w ao ar an u) (d:u.length<=1000000):
  CF 16 #[sl ao ar an] w (λv R'=> ∃g A c,v=PG g/\R'=[(rc 80 1 g [sl A u.length c]),(ru 5 A u.length c u)]):=by
 obtain rfl:=am.lenI;exact fn1 func16 Z Z Z<|aD Z<|aK 1 Z<|bZ aXh Z (λw e=>uD ((am.c _) w e) d) λb a=>wy (bV (v:= .agg #[sl b u.length a]) Z (λw=>cA))<|aX (dC (sz:=1) rfl rfl) λh=>aB rfl<|aS<|⟨_,Z,_,_,_,Z,Z⟩
theorem aLm (am:R6 B w0 R ao ar an u) (ce:ar=u.length) (h:u.length<=1000000) (hk:0<=k/\k<=u.length):
  CT 69 #[PG g,I k] B w0 ((rc 80 1 g [sl ao ar an])::R) (λv R'=> ∃A1 c1,v= .tuple #[sl A1 k.toNat c1,bt]/\R'=(ru 5 A1 k.toNat c1 (u.take k.toNat))::(rc 80 1 g [sl ((lL ao k.toNat an 1)) (ar-k.toNat) (an-k.toNat)])::R):=by
 subst ce;refine fn2 func69 Z Z Z<|aD Z<|aA<|aK 1 Z<|wy (kT underlying47 Z Z)<|bH 2 Z<|aN Z Z<|wy (Yl.f (fD Z Z))<|iC [0] 8 Z<|aN Z Z<|wy (Yl.f (iL Z Z))<|aB Z<|aM Z<|aG<|cB [0] 5 Z<|wy (dV ai sz5 Z Z (RdC.right am [_]))<|bZ aXh Z (λw a=>uD ((RdC.toI (RdC.right am [_]) G) w a) (by rw[ax];omega)) λd b=> ?_;refine aB Z<|cB [1] 6 Z<|wy (dE ai sz5 Z Z)<|bH 2 Z<|bN (aV 1 Z Z Z iZ Z Z Z Z (ah Z))<|aJ<|aD Z<|aS<|⟨_,_,Z,Z,?_⟩;have e:(u.take k.toNat).length=k.toNat:=by rw[ax];omega
 rw[e];exact⟨_,_,Z,Z⟩
theorem aTx (am:R6 B w0 R ao ar an u) (ce:ar=u.length) (a:u.length<=1000000) (hk:k<0\/u.length<k):
  CT 69 #[PG g,I k] B w0 ((rc 80 1 g [sl ao ar an])::R) (λv R'=>v= .tuple #[sl none 0 0,bf]/\R'=(rc 80 1 g [sl ao ar an])::R):=by
 subst ce;refine fn2 func69 Z Z Z<|aD Z<|aA<|aK 1 Z<|wy (kT underlying47 Z Z)<|bH 5 Z<|bD 8 [0,1] 21 (.bool (decide ((k<0)\/((u.length:Int)<k)))) Z ?_ ?_
 ·refine bB 13 Z ?_ ?_<;>intro ap
  ·exact aB Z<|KP
  exact sJ [0] Z<|KP
 refine rO 21 Z G<|aJ<|bA Z<|aD Z<|aS<|⟨_,_,Z,Z,?_⟩;exact⟨Z,Z⟩
end
section
variable {B ju dq Bs:Nat} {w0 w:World} {R:List Row} {dt:AF} {s:AH}
theorem YP:
  CT 278 #[sl dt ju dq] B w0 R (λv R'=> ∃g,v= .func (.func 311) #[] #[PG g]/\R'=(rc 73 1 g [sl dt ju dq])::R):=by
 exact fn1 func278 Z Z Z<|wq<|aX (dC (sz:=1) Z Z) λg=>aB Z<|wq<|wy (oI Z Z)<|aB Z<|aS<|⟨_,Z,g,Z,Z⟩
theorem aKj:
  CT 195 #[sl dt ju dq] B w0 R (λv R'=> ∃g,v= .func (.func 227) #[] #[PG g]/\R'=(rc 73 1 g [sl dt ju dq])::R):=by
 exact fn1 func195 Z Z Z<|wq<|aX (dC (sz:=1) Z Z) λg=>aB Z<|wq<|wy (oI Z Z)<|aB Z<|aS<|⟨_,Z,g,Z,Z⟩
theorem bAa {l:AH} {k:Nat} (h:k<l.length):l.take k++[rd l (k:Int)]=l.take (k+1):=by
 rw[rf,au h,rd,bu,af,au h];rfl
theorem aEf {Bs:Nat} (g:R5 w dt ju dq s) (q:Rd w (GG Bs) 1 1 1 [sl dt ju dq]) (C:s.length<=1000000):
  CF 319 #[sl none 0 0, .func (.func 311) #[] #[PG Bs]] w (λv R'=> ∃A c,v=sl A (s).length c/\R'=[(ri 3 A ((s).length) c (s))]):=by
 refine fnV func319 Z Z ?_;obtain rfl:=g.lenI;refine eZ<|bK<|aX (dC (sz:=1) Z Z) λp=>dX (ri 3 none 0 0 ([]))<|aB Z<|NQ<|eZ<|sQ Z<|vH<|IP Z bWc (aLb (A:=dt) (c:=dq) (zs:=s)) Z (λ_=>Z) Gd.refl (λ(d:Nat) (A1:AF) (a:Nat) (c1:Nat) (acc:AH)=>[(ri 3 A1 a c1 acc),(rc 73 1 p [sl A1 a c1])]) (λd A1 a c1 acc=>(a=acc.length)/\(acc=s.take d)) ?_ ?_ ?_ ?_
 ·exact⟨none,0,0,[],⟨(Z),(yf.symm)⟩,λ_ h=>h⟩
 ·intro d A1 a c1 acc w ⟨e,b⟩ i;exact⟨(q.c _) w i,(g.c _) w i⟩
 ·intro lr d A1 a c1 acc o m ⟨e,b⟩ u;have H:acc.length<=s.length:=by rw[b,ax];omega
  refine sQ Z ?_;intro y D;exact aF<|nQ [1] 2 Z<|aX (bG .i64 [rd s (d:Int)] ak zs3 Z Z Z) λF=>dG (aO 1 Z ak zb3 Z Z Z (rdr 0 Z)) λj k=>bC (v:=sl j (a+1) k) Z<|bN (aV 2 Z Z Z XM Z Z Z Z (ah Z))<|aJ<|⟨j,(a+1),k,acc++([rd s (d:Int)]),⟨(by rw[aa,e];try rfl),(by rw[b];exact bAa m)⟩,λ_=>λ_ h=>h.sel [1,2] cC Z⟩
 intro B l A1 a c1 acc ⟨e,b⟩ x r;refine RQ<|aFh<|v_w<|lK [1] Z<|aL [0] 99<|bVi Z r ⟨_,Z,?_⟩;rw[qa] at b;subst e;subst b;exact⟨_,_,Z,Z⟩
theorem aOp {Bs:Nat} (b:R5 w dt ju dq s) (d:Rd w (GG Bs) 1 1 1 [sl dt ju dq]) (h:s.length<=1000000):
  CF 309 #[.func (.func 311) #[] #[PG Bs]] w (λv R'=> ∃A c,v=sl A (s).length c/\R'=[(ri 3 A ((s).length) c (s))]):=by
 exact fn1 func309 Z Z Z<|aD Z<|aK 1 Z<|bZ bWb Z (λw a=>aEf ((b.c _) w a) ((d.c _) w a) G) λg e=>aB Z<|aL [0] 99<|⟨_,Z,_,_,Z,Z⟩
theorem ZH {Bs:Nat} (b:R5 w dt ju dq s) (d:Rd w (GG Bs) 1 1 1 [sl dt ju dq]) (i:s.length<=1000000):
  CF 277 #[.func (.func 311) #[] #[PG Bs]] w (λv R'=> ∃A c,v=sl A (qM s).length c/\R'=[(ri 3 A ((qM s).length) c (qM s))]):=by
 refine fn1 func277 Z Z Z<|aD Z<|aK 1 Z<|bZ bWe Z (λw a=>aOp ((b.c _) w a) ((d.c _) w a) G) λh g=>aB Z<|aK 1 Z<|dD (aH bWd Z (aUe Tryz.slices_Sort_int Tryz.slices_Sort_int_none 0 Z G))<|aJ<|aD Z<|aL [0] 99<|⟨_,Z,?_⟩;have e:s.length=(qM s).length:=(oL s).length_eq.symm;rw[e];exact⟨_,_,Z,Z⟩
end
section
variable {s:AH} {w:World} {dt:AF} {ju dq:Nat}
theorem bRx {V:AH} {h:Nat} (hl:V.length=s.length) (a: ∀j:Int,0<=j->j<s.length->rd V j=rkS s h j.toNat):V=rkL s h:=
 bP (hl.trans (JK s h).symm) λj h1 b=>by rw[uO h1 G];exact a j h1 G
theorem aVh (a:R5 w dt ju dq s) (q:s.length<=100000):
  CF 258 #[sl dt ju dq] w (λv R'=> ∃A c,v=sl A (s.length) c/\R'=[(ri 3 A s.length c (rkL s 1))]):=by
 obtain rfl:=a.lenI;refine fn1 func258 Z Z Z<|aD Z<|aK 1 Z<|aX (aH bPh Z (YP)) λm=>bZ bPi Z (λw h=>ZH ((a.c _) w h) ((rdr 0 Z) w h) G) λd e=>aB Z<|aK 2 Z<|aX (dU ak zb3 Z Z) λb=>bC (v:=sl (GG b) s.length s.length) Z<|aB Z<|aA<|aD Z<|aF<|dF (λ(i:Int) (V:AH)=>[(3,sl d ((qM s).length) e),(4,sl (GG b) s.length s.length),(13,sl dt s.length dq),(14,I (s.length:Int)),(15,I i)]) (λi V=>[(ri 3 (GG b) s.length s.length V),(ri 3 d ((qM s).length) e (qM s)),(rc 73 1 m [sl dt s.length dq])]) (λi V=>(0<=i)/\(i<=s.length)/\(V.length=s.length)/\(∀j:Int,0<=j->j<i->rd V j=rkS s 1 j.toNat)) (λi V=>(s.length-i).toNat) ?_ ?_
 ·exact⟨0,List.replicate s.length (0:Int),⟨G,G,(by rw[df]),(λj h1 o=>G)⟩,KP⟩
 intro i V ⟨l,p,k,g⟩;refine aD Z<|aA<|aR Z ?_ ?_<;>intro ap
 ·refine aG<|aA<|aF<|aK 1 Z<|wy (aC ak sz3 Z Z (a.c _))<|wy (aQ av Z Z (a.c _))<|aB Z<|aT 4 Z<|dD (aH bWi Z (aWr Tryz.slices_BinarySearch_int Tryz.slices_BinarySearch_int_empty 1 Z (by rw[(oL s).length_eq];omega) (JD s))) ?_;exact bH 3 Z<|wy (aC ak sz3 Z Z (rdr 0 Z))<|bN (bJ 0 Z sz3 Z Z)<|aJ<|bK<|wA Z Z<|aB Z<|⟨i+1,upd V i (((qM s).countP λy=>decide (y<rd s i):Nat):Int),⟨G,G,(by rw[aW];exact k),(gG (f:=λj=>(rkS s 1 j.toNat:Int)) l G g (by rw[bRu G,(oL s).countP_eq];rfl))⟩,G,KP⟩
 refine aP<|aD Z<|aL [0] 99<|⟨_,Z,?_⟩;obtain rfl:V=rkL s 1:=bRx k (λj h1 o=>g j h1 G);exact⟨_,_,Z,Z⟩
theorem aMs {h:Int} (g:R5 w dt ju dq s) (B:0<=h) (k:s.length<=100000):
  CF 238 #[sl dt ju dq,I h] w (λv R'=> ∃A c,v=sl A (s.length) c/\R'=[(ri 3 A s.length c (rkL s h.toNat))]):=by
 obtain rfl:=g.lenI;refine fn1 func238 Z Z Z<|aD Z<|aA<|aK 3 Z<|bD 4 [0,1] 14 (.bool (decide ((h<0)\/(100000<(s.length:Int))))) Z ?_ ?_
 ·refine bB 10 Z ?_ ?_<;>intro ap
  ·exact aB Z<|KP
  exact aB Z<|KP
 refine pW 14 Z G<|aJ<|aM Z<|aG<|aK 2 Z<|aX (dU ak zb3 Z Z) λi=>bC (v:=sl (GG i) s.length s.length) Z<|aB Z<|aA<|aD Z<|aR Z ?_ ?_<;>intro q
 ·refine aD Z<|aL [0] 99<|⟨_,Z,?_⟩;have e:h.toNat=0:=G
  rw[e,bBe];exact⟨_,_,Z,Z⟩
 refine aG<|aK 1 Z<|bZ bWr Z (λw d=>aVh ((g.c _) w d) cE) λl m=>aB Z<|aK 3 Z<|wy (pQ Z Z)<|aB Z<|aA<|aD Z<|aF<|DD (λ(n:Int) (A1:AF) (c1:Nat) (L:AH)=>[(1,I (min h (s.length:Int))),(5,sl A1 s.length c1),(6,I n)]) (λn A1 c1 L=>[(ri 3 A1 s.length c1 L),(ri 3 (GG i) s.length s.length (List.replicate s.length (0:Int)))]) (λn A1 c1 L=>(1<=n)/\(n=1\/n<=min h (s.length:Int))/\(L=rkL s n.toNat)) (λn A1 c1 L=>(min h (s.length:Int)-n).toNat) ?_ ?_
 ·exact⟨1,l,m,rkL s 1,⟨G,G,(Z)⟩,KP⟩
 intro n A1 c1 L ⟨r,C,j⟩;refine aA<|aD Z<|aR Z ?_ ?_<;>intro u
 ·refine aG<|aF<|aK 3 Z<|wS Z Z<|wy (pQ Z Z)<|aB Z<|aK 2 Z<|wa (aH bWq Z (Ct.fresh (λw d=>aWd (s:=s) (n:=n.toNat) (b:=(min n (min h (s.length:Int)-n)).toNat) ((rdr 0 Z) w d) j G G G ⟨k,G⟩))) ?_;rintro _ _⟨_,rfl,p,o,y,x,rfl,rfl⟩;exact aB Z<|aT 2 Z<|wA Z Z<|aB Z<|⟨n+(min n ((min h (s.length:Int))-n)),p,o,rkL s (n.toNat+(min n (min h (s.length:Int)-n)).toNat),⟨G,G,(by congr 1;omega)⟩,G,SA,λ_ h=>h.sel [0,3] cC Z⟩
 refine aP<|aD Z<|aL [0] 99<|⟨_,Z,?_⟩
 have e:rkL s n.toNat=rkL s h.toNat:=by
  rcases fe s.length with z|z
  ·exact bBf z _ _
  rcases bz h s.length with a|a
  ·rw[show n.toNat=h.toNat by omega]
  rw[bRw (h:=h.toNat) G,show n.toNat=s.length by omega]
 rw[j,e];exact⟨_,_,Z,Z⟩
theorem aWh {s:AH} {k:Int} (b:R5 w dt ju dq s) (y:(0<=k/\k<=1048576)/\ ∀x∈s,0<=x/\x<k) (C:s.length<=100000):
  CF 210 #[sl dt ju dq,I k] w (λv R'=> ∃(out:AH) (A:AF) (c:Nat),v= .tuple #[sl A s.length c,I 0]/\out.length=s.length/\(∀q:Nat,q<s.length->rd out (rkS s s.length q)=q)/\R'=[(ri 3 A s.length c out)]):=by
 obtain rfl:=b.lenI;refine fn2 func210 Z Z Z<|aD Z<|aA<|aK 2 Z<|wy (Yl.f (iL Z Z))<|aJ<|aM Z<|aG<|aA<|aK 2 Z<|bZ aJc Z (λw d=>sD ((b.c _) w d) cE) λu r=>aB Z<|aD Z<|aM Z<|aG<|aK 2 Z<|aX (dU ak zb3 Z Z) λe=>bC (v:=sl (GG e) s.length s.length) Z<|aB Z<|aA<|aK 3 Z<|bZ bWy Z (λw d=>aMs ((b.c _) w d) G cE) λl o=>aB Z<|aF<|dF (λ(i:Int) (V:AH)=>[(8,sl (GG e) s.length s.length),(28,sl l ((s).length) o),(29,I (((s).length:Nat):Int)),(30,I i)]) (λi V=>[(ri 3 l ((s).length) o (rkL s ((s.length:Int)).toNat)),(ri 3 (GG e) s.length s.length V),(ri 3 u ((k).toNat) r (gF s k))]) (λi V=>(0<=i)/\(i<=s.length)/\(V.length=s.length)/\(∀q:Nat,(q:Int)<i->rd V (rkS s s.length q)=q)) (λi V=>(s.length-i).toNat) ?_ ?_
 ·exact⟨0,List.replicate s.length (0:Int),⟨G,G,(by rw[df]),(λq h=>G)⟩,KP⟩
 intro i V ⟨p,B,g,j⟩;refine aD Z<|aA<|aR Z ?_ ?_<;>intro ap
 ·have a:rd (rkL s (s.length:Int).toNat) i=(rkS s s.length i.toNat:Int):=by rw[bu];exact uO p G
  have D:=JI (s:=s) (h:=s.length) (i:=i.toNat) G;refine aG<|aA<|aF<|aK 1 Z<|wy (aC ak sz3 Z Z (rdr 0 Z))<|wy (aQ av Z Z (rdr 0 Z))<|aB Z<|aT 3 Z<|wy (aC ak sz3 Z Z (rdr 1 Z) (by rw[a];omega) (by rw[a];omega)) ?_;refine bN (bJ 1 Z sz3 Z Z (by rw[a];omega) (by rw[a];omega)) ?_;refine aJ<|bK<|wA Z Z<|aB Z ?_
  exact⟨i+1,upd V (rd (rkL s ((s.length:Int)).toNat) i) i,⟨G,G,(by rw[aW];exact g),(λq h=>by
    rw[a];have:=aGv (m:=i.toNat) G g (λq h=>j q G) q G
    rwa[show(i.toNat:Int)=i by omega] at this)⟩,G,KP⟩
 refine aP<|aD Z<|aL [1] 99<|⟨_,_,Z,Z,?_⟩;exact⟨V,_,_,Z,g,λq h=>j q G,Z⟩
theorem aPa {ao:AF} {ar an:Nat} {u:AH} (am:R4 w ao ar an u) (d:aI u) (D:u.length<=100000):
  CF 156 #[sl ao ar an] w (λv R'=> ∃(out:AH) (A:AF) (c:Nat),v= .tuple #[sl A u.length c,I 0]/\out.length=u.length/\(∀q:Nat,q<u.length->rd out (rkS u u.length q)=q)/\R'=[(ri 3 A u.length c out)]):=by
 obtain rfl:=am.lenI;refine fn2 func156 Z Z Z<|aD Z<|aA<|aK 2 Z<|wy (Yl.f (iL Z Z))<|aJ<|aM Z<|aG<|aK 2 Z<|aX (dU ak zb3 Z Z) λa=>bC (v:=sl (GG a) u.length u.length) Z<|aB Z<|aA<|aD Z<|aF<|dF (λ(i:Int) (V:AH)=>[(4,sl (GG a) u.length u.length),(13,sl ao u.length an),(14,I (u.length:Int)),(15,I i)]) (λi V=>[(ri 3 (GG a) u.length u.length V)]) (λi V=>(0<=i)/\(i<=u.length)/\(V.length=u.length)/\(∀j:Int,0<=j->j<i->rd V j=rd u j)) (λi V=>(u.length-i).toNat) ?_ ?_
 ·exact⟨0,List.replicate u.length (0:Int),⟨G,G,(by rw[df]),(λj h1 m=>G)⟩,KP⟩
 intro i V ⟨l,C,h,e⟩;refine aD Z<|aA<|aR Z ?_ ?_<;>intro ap
 ·have B:=d.rd i;exact aG<|aA<|aF<|aK 1 Z<|wy (aC ai sz5 Z Z (am.c _))<|wy (aQ ay Z Z (am.c _))<|aB Z<|aT 3 Z<|wy (gV ay av Z)<|wy (aC ak sz3 Z Z (rdr 0 Z))<|bN (bJ 0 Z sz3 Z Z)<|aJ<|bK<|wA Z Z<|aB Z<|⟨i+1,upd V i (rd u i),⟨G,G,(by rw[aW];exact h),(gG (f:=λj=>rd u j) l G e Z)⟩,G,KP⟩
 have b:V=u:=bP h (λj h1 m=>e j h1 G);refine aP<|aK 1 Z<|wa (aH bXf Z (Ct.fresh (λw o=>aWh ((rdr 0 Z) w o) ⟨G,λx g=>by rw[b] at g;have:=d x g;omega⟩ G))) ?_;rintro _ _⟨_,rfl,p,r,y,rfl,k,Os,rfl⟩;refine aB Z<|aL [0] 99<|⟨_,_,Z,Z,?_⟩;subst b;exact⟨p,_,_,Z,k,Os,Z⟩
end
section
variable {w:World} {ao:AF} {ar an:Nat} {u:AH}
theorem aKy {tk:AF} {wk tz:Nat} {t:AH} (am:R5 w ao ar an u) (b:R5 w tk wk tz t):
  CF 182 #[sl ao ar an,sl tk wk tz] w (λv R'=>v=I (cmpL u t)):=by
 obtain rfl:=am.lenI;obtain rfl:=b.lenI;refine fn1 func182 Z Z Z ?_;have l:=am.max;have e:=b.max;refine aD Z<|aA<|aD Z<|aF<|iK (λ(i:Int)=>[(0,sl ao u.length an),(1,sl tk t.length tz),(5,I i)]) (λi=>[]) (λi=>(0<=i)/\(i<=u.length)/\(i<=t.length)/\(cmpL u t=cmpL (u.drop i.toNat) (t.drop i.toNat))) (λi=>(u.length-i).toNat) ?_ ?_
 ·exact⟨0,⟨G,G,G,cD⟩,KP⟩
 intro i ⟨a,d,hit,hc⟩;refine aA<|aK 5 Z<|bD 5 [0,1,5] 15 (.bool (decide ((i<(u.length:Int))/\(i<(t.length:Int))))) Z ?_ ?_
 ·refine bB 10 Z ?_ ?_<;>intro ap
  ·exact aB Z<|KP
  exact aB Z<|KP
 refine aJ<|aR Z ?_ ?_<;>intro g
 ·refine aG<|aA<|aF<|aA<|aA<|bE mixed<|bF 0 2 Z<|wD 2 Z (aC ak sz3 Z Z (am.c _))<|wD 3 Z (aQ av Z Z (am.c _))<|bF 4 2 Z<|wD 6 Z (aC ak sz3 Z Z (b.c _))<|wD 7 Z (aQ av Z Z (b.c _))<|wD 8 Z (fD Z Z)<|wN<|aR Z ?_ ?_<;>intro h
  ·refine aD Z<|aS<|⟨_,Z,?_⟩;exact bi (Value.int .i64) (by rw[hc,uC a G G,cz G])
  refine aG<|aA<|bE mixed<|bF 0 2 Z<|wD 2 Z (aC ak sz3 Z Z (am.c _))<|wD 3 Z (aQ av Z Z (am.c _))<|bF 4 2 Z<|wD 6 Z (aC ak sz3 Z Z (b.c _))<|wD 7 Z (aQ av Z Z (b.c _))<|wD 8 Z (iL Z Z)<|wN<|aR Z ?_ ?_<;>intro j
  ·refine aD Z<|aS<|⟨_,Z,?_⟩;exact bi (Value.int .i64) (by rw[hc,uC a G G,bq G,cz G])
  exact aG<|aT 1 Z<|wA Z Z<|aB Z<|⟨i+1,⟨G,G,G,(by rw[hc,uC a G G,bq G,bq G])⟩,G,KP⟩
 refine aP<|aA<|aF<|aD Z<|aR Z ?_ ?_<;>intro k
 ·refine aD Z<|aS<|⟨_,Z,?_⟩;exact bi (Value.int .i64) (by rw[hc,xW a d hit G,cz G])
 refine aD Z<|aR Z ?_ ?_<;>intro pi
 ·refine aD Z<|aS<|⟨_,Z,?_⟩;exact bi (Value.int .i64) (by rw[hc,xW a d hit G,bq G,cz G])
 refine aG<|aD Z<|aS<|⟨_,Z,?_⟩;exact bi (Value.int .i64) (by rw[hc,xW a d hit G,bq G,bq G])
theorem VJ {li:AF} {va ml:Nat} {l:AH} {d:AF} {h g:Nat} {m:AH} (a:R5 w li va ml l) (g6:R5 w d h g m) (p:l.length<=1000000):
  CF 140 #[sl li va ml,sl d h g] w (λv R'=>v= .bool (decide (l=m))):=by
 obtain rfl:=a.lenI;obtain rfl:=g6.lenI;refine fn1 func140 Z Z Z<|aD Z<|aA<|aD Z<|aR Z ?_ ?_<;>intro ap
 ·refine aD Z<|aS<|⟨_,Z,?_⟩;exact bi Value.bool (mo (λe=>by rw[e] at ap;exact ap rfl)).symm
 refine aG<|aA<|aD Z<|aF<|iK (λ(k:Int)=>[(0,sl li l.length ml),(1,sl d m.length g),(5,I k)]) (λk=>[]) (λk=>(0<=k)/\(k<=l.length)/\(l.take k.toNat=m.take k.toNat)) (λk=>(l.length-k).toNat) ?_ ?_
 ·exact⟨0,⟨G,G,(Z)⟩,KP⟩
 intro k ⟨i,q,b⟩;refine aA<|aD Z<|aR Z ?_ ?_<;>intro o
 ·refine aG<|aA<|aF<|aA<|bE mixed<|bF 0 2 Z<|wD 2 Z (aC ak sz3 Z Z (a.c _))<|wD 3 Z (aQ av Z Z (a.c _))<|bF 4 2 Z<|wD 6 Z (aC ak sz3 Z Z (g6.c _))<|wD 7 Z (aQ av Z Z (g6.c _))<|wD 8 Z (gD Z Z)<|wN<|aR Z ?_ ?_<;>intro j
  ·refine aD Z<|aS<|⟨_,Z,?_⟩;exact bi Value.bool (mo (λe=>by subst e;exact j rfl)).symm
  exact aG<|aT 1 Z<|wA Z Z<|aB Z<|⟨k+1,⟨G,G,(by rw[dP i G,dP i G,b];exact bi (λz=>List.take k.toNat m++[z]) (pg.1 cF))⟩,G,KP⟩
 refine aP<|aD Z<|aS<|⟨_,Z,?_⟩;exact bi Value.bool (nz (by rw[bg G,bg G] at b;exact b)).symm
theorem aMz {dt:AF} {ju dq:Nat} {s:AH} (d:R5 w dt ju dq s) (hN:s.length<=1000000):
  CF 128 #[sl dt ju dq] w (λv R'=> ∃(b:AH) (A:AF) (c:Nat),v=sl A s.length c/\b.Perm (iota s.length)/\b.Pairwise (dA s)/\R'=[(ri 3 A s.length c b)]):=by
 obtain rfl:=d.lenI;refine fn1 func128 Z Z Z<|aD Z<|wq<|dX (ri 3 none 0 0 ([]))<|aB Z<|aA<|aD Z<|aF<|eT (λ(i:Int) (A1:AF) (a:Nat) (c1:Nat) (U:AH)=>[(0,sl dt s.length dq),(3,sl A1 a c1),(4,I i)]) (λi A1 a c1 U=>[(ri 3 A1 a c1 U)]) (λi A1 a c1 U=>(0<=i)/\(i<=s.length)/\(a=U.length)/\(U.Perm (iota i.toNat))/\(U.Pairwise (dA s))) (λi A1 a c1 U=>(s.length-i).toNat) ?_ ?_
 ·exact⟨0,none,0,0,[],⟨G,G,(Z),(.refl _),(.nil)⟩,KP⟩
 intro i A1 a c1 U ⟨C,gn,bx,hp,hs⟩;have T:U.length=i.toNat:=by rw[hp.length_eq,bI]
 refine aA<|aD Z<|aR Z ?_ ?_<;>intro ap
 ·refine aG<|aA<|aF<|aD Z<|aA<|aF<|iK (λ(j:Int)=>[(0,sl dt s.length dq),(3,sl A1 a c1),(4,I i),(5,I j)]) (λj=>[(ri 3 A1 a c1 U)]) (λj=>(0<=j)/\(j<=U.length)/\(∀q:Int,j<=q->q<U.length->dA s i (rd U q))) (λj=>j.toNat) ?_ ?_
  ·exact⟨(a:Int),⟨G,G,(λq h1 o=>G)⟩,KP⟩
  intro j ⟨R,v6,m7⟩;have gs: ∀q:Int,0<=q->q<U.length->0<=rd U q/\rd U q<i.toNat:=λq h1 o=>aY.1 (hp.subset (bM h1 o));have L:0<j->0<=rd U (j-1)/\rd U (j-1)<s.length:=λh=>by have:=gs (j-1) G G;omega
  refine aA<|lS [(0,sl dt s.length dq),(3,sl A1 a c1),(4,I i),(5,I j),(29, .bool (decide ((0<j)/\((cmpL ((s).drop (i).toNat) ((s).drop (rd U (j-1)).toNat))<0))))] [(ri 3 A1 a c1 U)] ?_ ?_
  ·refine bE mixed<|bF 0 3 Z<|gM 16 Z ?_ ?_<;>intro Y
   ·refine bF 3 2 Z<|wG 5 Z Z Z (dE ak sz3 Z Z)<|bF 6 3 Z<|wG 9 Z Z Z (oH Z Z)<|wG 10 Z Z Z (aC ak sz3 Z Z (rdr 0 Z))<|wG 11 Z Z Z (aQ av Z Z (rdr 0 Z))<|wG 12 Z Z Z (dE ak sz3 Z Z (by have:=gs (j-1) G G;omega) (by have:=gs (j-1) G G;omega)) ?_;refine aFd 13 Z cA Z Z Z (aH bXr Z (Ct.quiet (λw p=>aKy ((RdC.fromI (d.c _) G) w p) ((RdC.fromI (d.c _) G) w p)))) ?_;rintro _ _⟨rfl,rfl⟩;refine⟨.inr hiZ,?_⟩;exact bF 14 2 Z<|wN<|KP
   exact bF 3 13 Z<|wN<|KP
  refine aR Z ?_ ?_<;>intro m
  ·have B:=aWi (s:=s) m7 m;exact aG<|aF<|aT 1 Z<|wS Z Z<|aB Z<|⟨j-1,⟨G,G,(B)⟩,G,KP⟩
  have d4:=bEv (s:=s) C G hp hs R v6 m7 m;refine aP<|bE mixed<|bF 1 2 Z<|wD 3 Z (dV ak sz3 Z Z (rdr 0 Z))<|wD 5 Z (dI Z)<|bF 8 2 Z<|wD 10 Z (dE ak sz3 Z Z)<|LZ 0 6 cA ?_ ?_
  ·refine PD 0 Z Z (bG .i64 [] ak zs3 Z Z Z) ?_;rintro _ _⟨dg,rfl,rfl⟩;refine⟨.inr hrZ,?_⟩;refine LZ 4 6 cA ?_ ?_
   ·refine PD 4 Z Z (aO 0 Z ak zb3 Z Z Z (RdC.toI (h:=(j).toNat) (rdr 1 Z) cG)) ?_;rintro _ _⟨D,F,rfl,rfl⟩;refine⟨.inl cA,?_⟩;refine iA (v:=sl D (0+((j).toNat)) F) Z<|wC 6 Z (bG .i64 [i] ak zs3 Z Z Z) ?_;rintro _ _⟨sk,rfl,rfl⟩;refine⟨.inr hrZ,?_⟩;refine wC 7 Z (aO 1 Z ak zb3 Z Z Z (rdr 0 Z)) ?_;rintro _ _⟨O,J,rfl,rfl⟩;refine⟨.inl cA,?_⟩;refine iA (v:=sl O ((0+((j).toNat))+1) J) Z<|wC 11 Z (aO 1 Z ak zb3 Z Z Z (RdC.fromI (rdr 2 Z) cG)) ?_;rintro _ _⟨r,l,rfl,rfl⟩;refine⟨.inl cA,?_⟩;exact iA (v:=sl r (((0+((j).toNat))+1)+(a-(j).toNat)) l) Z<|wD 12 Z (bY Z)<|wN<|aT 1 Z<|wA Z Z<|aB Z<|⟨i+1,r,((0+((j).toNat))+1)+(a-(j).toNat),l,((([])++((U).take (j).toNat))++([i]))++((U).drop (j).toNat),⟨G,G,(by simp only[aa,ax,az,dh,iw];omega),(d4.1),(d4.2)⟩,G,SA,λ_ h=>h.sel [1] cC Z⟩
   refine PD 6 Z Z (bG .i64 [i] ak zs3 Z Z Z) ?_;rintro _ _⟨xf,rfl,rfl⟩;refine⟨.inr hrZ,?_⟩;refine wC 4 Z (aO 1 Z ak zb3 Z Z Z (RdC.toI (h:=(j).toNat) (rdr 2 Z) cG)) ?_;rintro _ _⟨H,K,rfl,rfl⟩;refine⟨.inl cA,?_⟩;refine iA (v:=sl H (0+((j).toNat)) K) Z<|wC 7 Z (aO 1 Z ak zb3 Z Z Z (rdr 0 Z)) ?_;rintro _ _⟨P,Q,rfl,rfl⟩;refine⟨.inl cA,?_⟩;refine iA (v:=sl P ((0+((j).toNat))+1) Q) Z<|wC 11 Z (aO 1 Z ak zb3 Z Z Z (RdC.fromI (rdr 2 Z) cG)) ?_;rintro _ _⟨i5,u,rfl,rfl⟩;refine⟨.inl cA,?_⟩;exact iA (v:=sl i5 (((0+((j).toNat))+1)+(a-(j).toNat)) u) Z<|wD 12 Z (bY Z)<|wN<|aT 1 Z<|wA Z Z<|aB Z<|⟨i+1,i5,((0+((j).toNat))+1)+(a-(j).toNat),u,((([])++((U).take (j).toNat))++([i]))++((U).drop (j).toNat),⟨G,G,(by simp only[aa,ax,az,dh,iw];omega),(d4.1),(d4.2)⟩,G,SA,λ_ h=>h.sel [1] cC Z⟩
  refine PD 6 Z Z (bG .i64 [i] ak zs3 Z Z Z) ?_;rintro _ _⟨S,rfl,rfl⟩;refine⟨.inr hrZ,?_⟩;refine wC 0 Z (bG .i64 [] ak zs3 Z Z Z) ?_;rintro _ _⟨X,rfl,rfl⟩;refine⟨.inr hrZ,?_⟩;refine wC 4 Z (aO 0 Z ak zb3 Z Z Z (RdC.toI (h:=(j).toNat) (rdr 2 Z) cG)) ?_;rintro _ _⟨M,N,rfl,rfl⟩;refine⟨.inl cA,?_⟩;refine iA (v:=sl M (0+((j).toNat)) N) Z<|wC 7 Z (aO 0 Z ak zb3 Z Z Z (rdr 1 Z)) ?_;rintro _ _⟨x,y,rfl,rfl⟩;refine⟨.inl cA,?_⟩;refine iA (v:=sl x ((0+((j).toNat))+1) y) Z<|wC 11 Z (aO 0 Z ak zb3 Z Z Z (RdC.fromI (rdr 2 Z) cG)) ?_;rintro _ _⟨g,k,rfl,rfl⟩;refine⟨.inl cA,?_⟩;exact iA (v:=sl g (((0+((j).toNat))+1)+(a-(j).toNat)) k) Z<|wD 12 Z (bY Z)<|wN<|aT 1 Z<|wA Z Z<|aB Z<|⟨i+1,g,((0+((j).toNat))+1)+(a-(j).toNat),k,((([])++((U).take (j).toNat))++([i]))++((U).drop (j).toNat),⟨G,G,(by simp only[aa,ax,az,dh,iw];omega),(d4.1),(d4.2)⟩,G,SA,λ_ h=>h.sel [0] cC Z⟩
 refine aP<|aD Z<|aL [0] 99<|⟨_,Z,?_⟩;obtain rfl:a=s.length:=G
 exact⟨U,_,_,Z,by have e:i.toNat=s.length:=G;rw[<-e];exact hp,hs,rfl⟩
theorem aDd (am:R4 w ao ar an u) (j:aI u) (p:u.length<=1000000):
  CF 129 #[sl ao ar an] w (λv R'=> ∃A c,v=sl A (u).length c/\R'=[(ri 3 A ((u).length) c (u))]):=by
 obtain rfl:=am.lenI;refine fn1 func129 Z Z Z<|aD Z<|wq<|dX (ri 3 none 0 0 ([]))<|aB Z<|aA<|aD Z<|aF<|eT (λ(A1:AF) (a:Nat) (c1:Nat) (acc:AH) (i:Int)=>[(0,sl ao u.length an),(3,sl A1 a c1),(4,I i)]) (λA1 a c1 acc i=>[(ri 3 A1 a c1 acc)]) (λA1 a c1 acc i=>(a=acc.length)/\(0<=i)/\(i<=u.length)/\(acc=u.take i.toNat)) (λA1 a c1 acc i=>(u.length-i).toNat) ?_ ?_
 ·exact⟨none,0,0,[],0,⟨(Z),G,G,(Z)⟩,KP⟩
 intro A1 a c1 acc i ⟨d,k,o,b⟩;refine aA<|aD Z<|aR Z ?_ ?_<;>intro ap
 ·have l:=j.rd i;refine aG<|aA<|aF<|aT 3 Z<|wy (aC ai sz5 Z Z (am.c _))<|wy (aQ ay Z Z (am.c _))<|wy (gV ay av Z)<|aX (bG .i64 [rd u i] ak zs3 Z Z Z) λm=>dG (aO 1 Z ak zb3 Z Z Z (rdr 0 Z) (by have:=bi List.length b;rw[ax] at this;omega)) λe g=> ?_;exact bC (v:=sl e (a+1) g) Z<|aB Z<|aT 1 Z<|wA Z Z<|aB Z<|⟨e,a+1,g,acc++([rd u i]),i+1,⟨(by rw[aa,d];try rfl),G,G,(by rw[dP k G,b])⟩,G,SA,λ_ h=>h.sel [1] cC Z⟩
 refine aP<|aD Z<|aL [0] 99<|⟨_,Z,?_⟩;rw[bg G] at b;subst b;obtain rfl:=d;exact⟨_,_,Z,Z⟩
theorem aPb (am:R4 w ao ar an u) (g:aI u) (j:u.length<=1000000):
  CF 67 #[sl ao ar an] w (λv R'=> ∃(b:AH) (A:AF) (c:Nat),v=sl A u.length c/\b.Perm (iota u.length)/\b.Pairwise (dA u)/\R'=[(ri 3 A u.length c b)]):=by
 obtain rfl:=am.lenI;refine fn1 func67 Z Z Z<|aD Z<|aK 1 Z<|bZ bYq Z (λw a=>aDd ((am.c _) w a) cE cE) λi h=>wa (aH bYr Z (Ct.fresh (λw a=>aMz ((rdr 0 Z) w a) cE))) ?_;rintro _ _⟨_,rfl,d,k,l,rfl,e,es,rfl⟩;exact aB Z<|aL [0] 99<|⟨_,Z,d,_,_,Z,e,es,Z⟩
end
section
variable {w:World} {p val i:Int} {N ju dq:Nat} {dt:AF} {s:AH}
theorem aBa {li:AF} {va ml:Nat} {l:AH} {d:AF} {h g:Nat} {m:AH} (a:R5 w li va ml l) (g6:R5 w d h g m) (p:l.length<=1000000):
  CF 279 #[sl li va ml,sl d h g] w (λv R'=>v= .bool (decide (l=m))):=by
 obtain rfl:=a.lenI;obtain rfl:=g6.lenI;refine fn1 func279 Z Z Z<|aD Z<|aA<|aD Z<|aR Z ?_ ?_<;>intro ap
 ·refine aD Z<|aS<|⟨_,Z,?_⟩;exact bi Value.bool (mo (λe=>by rw[e] at ap;exact ap rfl)).symm
 refine aG<|aA<|aD Z<|aF<|iK (λ(k:Int)=>[(0,sl li l.length ml),(1,sl d m.length g),(12,I (l.length:Int)),(13,I k)]) (λk=>[]) (λk=>(0<=k)/\(k<=l.length)/\(l.take k.toNat=m.take k.toNat)) (λk=>(l.length-k).toNat) ?_ ?_
 ·exact⟨0,⟨G,G,(Z)⟩,KP⟩
 intro k ⟨i,q,b⟩;refine aD Z<|aA<|aR Z ?_ ?_<;>intro o
 ·refine aG<|aA<|aF<|aD Z<|aA<|bE mixed<|bF 0 2 Z<|wD 2 Z (aC ak sz3 Z Z (a.c _))<|wD 3 Z (aQ av Z Z (a.c _))<|bF 4 2 Z<|wD 6 Z (aC ak sz3 Z Z (g6.c _))<|wD 7 Z (aQ av Z Z (g6.c _))<|wD 8 Z (gD Z Z)<|wN<|aR Z ?_ ?_<;>intro j
  ·refine aD Z<|aS<|⟨_,Z,?_⟩;exact bi Value.bool (mo (λe=>by subst e;exact j rfl)).symm
  exact aG<|bK<|wA Z Z<|aB Z<|⟨k+1,⟨G,G,(by rw[dP i G,dP i G,b];exact bi (λz=>List.take k.toNat m++[z]) (pg.1 cF))⟩,G,KP⟩
 refine aP<|aD Z<|aS<|⟨_,Z,?_⟩;exact bi Value.bool (nz (by rw[bg G,bg G] at b;exact b)).symm
theorem bSr {B:Nat} {w0:World} {R:List Row} (N:Nat) (h:N<=1000000):CT 97 #[.int .u64 1, .int .u64 (N:Int)] B w0 R (λv R'=>v= .tuple #[.int .u64 0, .int .u64 (N:Int)]/\R'=R):=by
 intro w a;have hc:=Tryz.bits_Mul 1 N G G w;rw[Ci,Fu G,lm G] at hc;refine hc.mono ?_;rintro e w' ⟨rfl,rfl⟩;exact⟨_,R,Z,a,Z,Z⟩
theorem aTo (h:0<=p/\p<=18446744073709551615):IntKind.u64.wrap p=p:=by rw[Fp];omega
theorem bBr {D:AH} (p1:1<=p) (hp:p<=N) (a:D=JM val p.toNat N):
  List.take p.toNat D++List.take (min p.toNat (N-p.toNat)) (List.take p.toNat D)++List.drop (p.toNat+min p.toNat (N-p.toNat)) D=JM val (p+((min p.toNat (N-p.toNat):Nat):Int)).toNat N:=by
 subst a;rw[show(p+((min p.toNat (N-p.toNat):Nat):Int)).toNat=p.toNat+min p.toNat (N-p.toNat) by omega];refine aAa G ?_;rw[ZZ,List.take_replicate];congr 1;omega
theorem bBt (h:1<=N):List.take 0 (List.replicate N (0:Int))++List.take (min ([val].length) (N-0)) [val]++List.drop (0+min ([val].length) (N-0)) (List.replicate N (0:Int))=JM val (((min ([val].length) (N-0):Nat):Int)).toNat N:=by
 have e:min ([val].length) (N-0)=1:=cJ
 rw[e,<-aUz val N];exact aAa (p:=0) (q:=1) G Z
theorem aMl {rm:AF} {vb rp:Nat} {x:AH} {d:Int} (i:R5 w rm vb rp x) (b:x=[val]) (j:d=(N:Int)) (g:1<=N/\N<=1000000):
  CF 280 #[sl rm vb rp,I d] w (λv R'=> ∃A c,v=sl A N c/\R'=[(ri 3 A N c (List.replicate N val))]):=by
 obtain rfl:=i.lenI;refine fn1 func280 Z Z Z<|aD Z<|aA<|aK 1 Z<|wy (Yl.f (fD Z Z))<|aJ<|aM Z<|aG<|aK 2 Z<|wy (Yl.is (pV av Bv Z) (by rw[b])) ?_;refine wm Z<|wy (Yl.is (pV av Bv Z) (by rw[aTo G,j])) ?_;refine dD (aH bVj Z (bSr N g.2))<|aB Z<|aA<|aK 1 Z<|wy (Yl.f (iL Z Z))<|bH 2 Z<|aN Z Z<|wy (Yl.f (iL Z Z))<|aB Z<|aM Z<|aG<|aK 1 Z<|wy (gV Bv av Z)<|aX (dU ak zb3 Z Z) λa=>bC (v:=sl (GG a) N N) Z<|aB Z<|aK 2 Z<|dD (aEo (lo:=0) 0 Z ak sz3 Z Z bHc Z G (i.c _))<|aB Z<|aA<|aF<|dF (λ(p:Int) (D:AH)=>[(7,sl (GG a) N N),(8,I p)]) (λp D=>[(ri 3 (GG a) N N D)]) (λp D=>(1<=p)/\(p<=N)/\(D=JM val p.toNat N)) (λp D=>(N-p).toNat) ?_ ?_
 ·exact⟨((min x.length (N-0):Nat):Int),List.take 0 (List.replicate N (0:Int))++List.take (min x.length (N-0)) x++List.drop (0+min x.length (N-0)) (List.replicate N (0:Int)),⟨(by subst b;simp;omega),G,(by subst b;exact bBt g.1)⟩,KP⟩
 intro p D ⟨k,l,e⟩;refine aA<|aD Z<|aR Z ?_ ?_<;>intro ap
 ·refine aG<|aF<|bE mixed<|bF 0 3 Z<|wD 3 Z (dE ak sz3 Z Z)<|bF 4 2 Z<|wD 6 Z (dV ak sz3 Z Z (rdr 0 Z))<|wC 7 Z (aEo (lo:=p.toNat) 0 Z ak sz3 Z Z Z Z G (RdC.toI (h:=(p).toNat) (rdr 0 Z) cG)) ?_;rintro _ _⟨rfl,rfl⟩;refine⟨.inl cA,?_⟩;exact wD 8 Z (dJ Z Z)<|wD 9 Z (bY Z)<|wN<|⟨p+((min ((p).toNat) (N-p.toNat):Nat):Int),List.take p.toNat D++List.take (min ((p).toNat) (N-p.toNat)) ((D).take (p).toNat)++List.drop (p.toNat+min ((p).toNat) (N-p.toNat)) D,⟨G,G,(bBr k l e)⟩,G,KP⟩
 refine aP<|aD Z<|aL [0] 99<|⟨_,Z,?_⟩;obtain rfl:D=List.replicate N val:=by rw[e,show p.toNat=N by omega];exact bBq _ _
 exact⟨_,_,Z,Z⟩
theorem aFz (d:R5 w dt ju dq s) (u:s.length<=1000000):
  CF 276 #[sl dt ju dq] w (λv R'=> ∃A c,v=sl A s.length c/\R'=[⟨4,1,A,s.length,c,bools (smL s),false⟩]):=by
 obtain rfl:=d.lenI;refine fn1 func276 Z Z Z<|aD Z<|aK 2 Z<|aX (QW oz zb4 Z Z G G G) λl=>bC (v:=sl (GG l) s.length s.length) Z<|aB Z<|aA<|aK 2 Z<|wS Z Z<|aB Z<|aF<|dF (λ(i:Int) (m:List Bool)=>[(0,sl dt s.length dq),(3,sl (GG l) s.length s.length),(4,I i)]) (λi m=>[⟨4,1,(GG l),s.length,s.length,bools m,false⟩]) (λi m=>(-2<=i)/\(i+2<=s.length)/\(m.length=s.length)/\(∀j:Int,0<=j->i<j->j<s.length->rdb m j=smB s j)) (λi m=>(i+1).toNat) ?_ ?_
 ·exact⟨(s.length:Int)-2,List.replicate s.length false,⟨G,G,(by rw[df]),(λj e h1 g=>by rw[QD,uL e G])⟩,KP⟩
 intro i m ⟨o,r,hl,k⟩;refine aA<|aD Z<|aR Z ?_ ?_<;>intro ap
 ·refine aG<|aA<|aF<|bE mixed<|bF 0 4 Z<|wD 4 Z (aC ak sz3 Z Z (d.c _))<|wD 5 Z (aQ av Z Z (d.c _))<|bF 6 2 Z<|wD 8 Z (dJ Z Z)<|wD 9 Z (aC ak sz3 Z Z (d.c _))<|wD 10 Z (aQ av Z Z (d.c _))<|bF 11 2 Z<|gM 27 Z ?_ ?_<;>intro p
  ·refine bF 13 18 Z<|wD 31 Z (aC oz sz4 Z Z (rdr 0 Z))<|qN 32 Z cA (yB 0 Z sz4 Z Z) ?_;rintro _ _ rfl;refine⟨.inl cA,?_⟩;exact wN<|aT 1 Z<|wS Z Z<|aB Z<|⟨i-1,sV m i true,⟨G,G,(by rw[mW];exact hl),(λj e h1 g=>aCg G G hl (λj a b=>k j G a b) (⟨λ_=> .inl G,λ_=>Z⟩) j G g)⟩,G,KP⟩
  refine bF 13 2 Z<|wG 15 Z Z Z (aC ak sz3 Z Z (d.c _))<|wG 16 Z Z Z (aQ av Z Z (d.c _))<|bF 17 2 Z<|wG 19 Z Z Z (dJ Z Z)<|wG 20 Z Z Z (aC ak sz3 Z Z (d.c _))<|wG 21 Z Z Z (aQ av Z Z (d.c _))<|bF 22 2 Z<|gM 38 Z ?_ ?_<;>intro q
  ·refine bF 24 2 Z<|wG 26 Z Z Z (dJ Z Z)<|wG 27 Z Z Z (aC oz sz4 Z Z (rdr 0 Z))<|wG 28 Z Z Z (IC Bc Z Z (rdr 0 Z))<|bF 29 2 Z<|wD 31 Z (aC oz sz4 Z Z (rdr 0 Z))<|qN 32 Z cA (yB 0 Z sz4 Z Z) ?_;rintro _ _ rfl;refine⟨.inl cA,?_⟩;exact wN<|aT 1 Z<|wS Z Z<|aB Z<|⟨i-1,sV m i (decide (rdb m (i+1)=true)),⟨G,G,(by rw[mW];exact hl),(λj e h1 g=>aCg G G hl (λj a b=>k j G a b) (by rw[iy];exact⟨λh=> .inr ⟨G,h⟩,λh=>(h.resolve_left G).2⟩) j G g)⟩,G,KP⟩
  refine bF 24 7 Z<|wD 31 Z (aC oz sz4 Z Z (rdr 0 Z))<|qN 32 Z cA (yB 0 Z sz4 Z Z) ?_;rintro _ _ rfl;refine⟨.inl cA,?_⟩;exact wN<|aT 1 Z<|wS Z Z<|aB Z<|⟨i-1,sV m i false,⟨G,G,(by rw[mW];exact hl),(λj e h1 g=>aCg G G hl (λj a b=>k j G a b) (⟨λh=>(by cases h),λh=>absurd h G⟩) j G g)⟩,G,KP⟩
 refine aP<|aD Z<|aL [0] 99<|⟨_,Z,?_⟩;obtain rfl:m=smL s:=bRp hl λj e h1=>k j e G h1;exact⟨_,_,Z,Z⟩
theorem bMn (d:0<=i) (hi:i<s.length) (h1:0<i) (a:rdb (smL s) i=true) (b: ¬rdb (smL s) (i-1)=true):iU s i=true:=by
 rw[qC d hi] at a;rw[qC G G] at b;exact qG.2 ⟨h1,a,by simpa using b⟩
theorem bTc (a:0<=i) (hi:i<s.length) (h: ¬(0<i/\rdb (smL s) i=true/\ ¬rdb (smL s) (i-1)=true)): ¬iU s i=true:=λe=>by
 obtain⟨h1,b,d⟩:=qG.1 e;exact h ⟨h1,by rw[qC a hi];exact b,by rw[qC G G,d];simp⟩
theorem bFc (s:AH):VR s 1=[]:=by
 show VR s (0+1)=[];rw[MW G,bq (λh=>by have:=(qG.1 h).1;omega)];rfl
theorem bFd (h:i=s.length\/i=1/\s.length=0):VR s i=bX s:=by
 rcases h with rfl|⟨rfl,h⟩
 ·exact VQ
 rw[bFc,<-VQ,h];rfl
theorem aIn (k:R5 w dt ju dq s) (u:s.length<=1000000):
  CF 251 #[sl dt ju dq] w (λv R'=> ∃A c,v=sl A (bX s).length c/\R'=[(ri 3 A ((bX s).length) c (bX s))]):=by
 obtain rfl:=k.lenI;refine fn1 func251 Z Z Z<|aD Z<|wq<|dX (ri 3 none 0 0 ([]))<|aB Z<|aK 1 Z<|bZ bPj Z (λw m=>aFz ((k.c _) w m) cE) λj g=>aB Z<|aA<|aD Z<|aF<|eT (λ(A1:AF) (a:Nat) (c1:Nat) (acc:AH) (i:Int)=>[(3,sl A1 a c1),(4,sl j s.length g),(9,I (s.length:Int)),(10,I i)]) (λA1 a c1 acc i=>[⟨4,1,j,s.length,g,bools (smL s),false⟩,(ri 3 A1 a c1 acc)]) (λA1 a c1 acc i=>(a=acc.length)/\(0<=i)/\(i<=s.length)/\(acc=VR s i)) (λA1 a c1 acc i=>(s.length-i).toNat) ?_ ?_
 ·exact⟨none,0,0,[],0,⟨(Z),G,G,(Z)⟩,KP⟩
 intro A1 a c1 acc i ⟨e,o,r,b⟩;refine aD Z<|aA<|aR Z ?_ ?_<;>intro ap
 ·refine aG<|aA<|aF<|aD Z<|aK 3 Z<|bD 5 [3,4,5,9,10] 20 (.bool (decide ((0<i)/\(rdb (smL s) i=true)))) Z ?_ ?_
  ·refine bB 15 Z ?_ ?_<;>intro p
   ·exact bH 2 Z<|aN Z Z<|wy (aC oz sz4 Z Z (rdr 0 Z))<|aN Z Z<|wy (IC Bc Z Z (rdr 0 Z))<|aB Z<|KP
   exact aB Z<|KP
  refine wm Z<|bD 7 [3,4,5,9,10] 28 (.bool (decide (((0<i)/\(rdb (smL s) i=true))/\(¬(rdb (smL s) (i-1)=true))))) Z ?_ ?_
  ·refine bB 21 Z ?_ ?_<;>intro q
   ·exact bH 2 Z<|aN Z Z<|wS Z Z<|aN Z Z<|wy (aC oz sz4 Z Z (rdr 0 Z))<|aN Z Z<|wy (IC Bc Z Z (rdr 0 Z))<|aN Z Z<|wy (pO Z)<|aB Z<|KP
   exact aB Z<|KP
  refine aJ<|aR Z ?_ ?_<;>intro d
  ·refine aT 2 Z<|aX (bG .i64 [i] ak zs3 Z Z Z) λf8=>dG (aO 2 Z ak zb3 Z Z Z (rdr 0 Z) (by have:=bi List.length b;have:=aIj (s:=s) i;omega)) λjp l=> ?_;exact bC (v:=sl jp (a+1) l) Z<|aB Z<|bK<|wA Z Z<|aB Z<|⟨jp,a+1,l,acc++([i]),i+1,⟨(by rw[aa,e];try rfl),G,G,(by rw[MW G,cz (bMn G G d.1.1 d.1.2 d.2),b])⟩,G,SA,λ_ h=>h.sel [1,2] cC Z⟩
  exact aG<|bK<|wA Z Z<|aB Z<|⟨A1,a,c1,acc,i+1,⟨(e),G,G,(by rw[MW G,bq (bTc G G (λh=>d ⟨⟨h.1,h.2.1⟩,h.2.2⟩)),ik,b])⟩,G,KP⟩
 refine aP<|aD Z<|aL [1] 99<|⟨_,Z,?_⟩;rw[bFd G] at b;subst b;obtain rfl:=e;exact⟨_,_,Z,Z⟩
end
theorem aWw {cs V:AH} {i:Int} (a:0<=i) (hi:i<cs.length) (hl:V.length=cs.length) (d: ∀j:Int,0<=j->j<cs.length->rd V j=if j<i then ps cs (j+1) else ps cs j):
  ∀j:Int,0<=j->j<cs.length->rd (upd V i (rd V i+rd cs i)) j=if j<i+1 then ps cs (j+1) else ps cs j:=by
 intro j j0 k;have g:rd (upd V i (rd V i+rd cs i)) j=if j=i then rd V i+rd cs i else rd V j:=iQ a j0 G
 have b:=d i a hi;rw[bq G] at b;rw[g,b,d j j0 k];by_cases e:j=i
 ·subst e;rw[cz rfl,cz G,nY a hi]
 rw [bq e];by_cases h:j<i
 ·rw[cz h,cz G]
 rw[bq h,bq G]
theorem aSx {s:AH} {k:Int} (hk:0<=k) (hs: ∀x∈s,0<=x/\x<k):(gF s k).sum=s.length:=by
 have h:=WJ (order:=iota s.length) (keys:=s) (k:=k) hk λi hi=>hs _ (bM (aY.1 hi).1 (aY.1 hi).2);rwa[oU,bI] at h
theorem aWx {cs V:AH} (hl:V.length=cs.length) (a: ∀j:Int,0<=j->j<cs.length->rd V j=if j<cs.length then ps cs (j+1) else ps cs j):V=uX cs:=
 bP (hl.trans (NB cs).symm) λj h1 b=>by rw[TW h1 G,a j h1 G,cz G]
theorem aSi {B:Nat} {w0:World} {R:List Row} {o:Nat} {dt D a tj:AF} {dq F b tx:Nat} {s:AH} {k:Int} (r:RdC B w0 R (GG o) 1 1 4 [sl dt s.length dq,sl D s.length F,sl a k.toNat b,sl tj s.length tx]) (d:RdC B w0 R a k.toNat b 1 (ints .i64 (gF s k))) (hk:0<=k/\k<=1048576) (hs: ∀x∈s,0<=x/\x<k) (M:s.length<=1000000):
  CT 281 #[PG o] B w0 (R) (λv R'=> ∃A c,v=sl A k.toNat c/\R'=(ri 3 A k.toNat c (uX (gF s k)))::R):=by
 refine fn1 func281 Z Z Z ?_;have mt:(gF s k).length=k.toNat:=fG _ _;have m4:(gF s k).sum=s.length:=aSx G hs;have f9:(eF (gF s k)).length=k.toNat:=by rw[gT,mt]
 refine aD Z<|aK 3 Z<|wy (gY (RdC.right r []) ak Z Z Z)<|bZ aSp Z (λw y=>DK ((RdC.right d []) w y) (oW _ _) (by rw[m4];omega) (by rw[mt];omega)) λq p=> ?_;refine aB Z<|aA<|aK 3 Z<|wy (gY (RdC.right r [_]) ak Z Z Z)<|aB Z<|aF<|dF (λ(i:Int) (V:AH)=>[(3,sl q ((eF (gF s k)).length) p),(14,sl a k.toNat b),(15,I (k.toNat:Int)),(16,I i)]) (λi V=>((ri 3 q ((eF (gF s k)).length) p V)::R)) (λi V=>(0<=i)/\(i<=(gF s k).length)/\(V.length=(gF s k).length)/\(∀j:Int,0<=j->j<(gF s k).length->rd V j=if j<i then ps (gF s k) (j+1) else ps (gF s k) j)) (λi V=>((gF s k).length-i).toNat) ?_ ?_
 ·exact⟨0,eF (gF s k),⟨G,G,(by rw[gT]),(λj h1 g=>by rw[bq G];exact qV h1 g)⟩,KP⟩
 intro i V ⟨e,K,m,h⟩;refine aD Z<|aA<|aR Z ?_ ?_<;>intro ap
 ·have C:=BA (oW s k) i;have H:=BA (oW s k) (i+1);rw[m4] at C H;have l:=h i e G;rw[bq G] at l;have J:=nY (L:=gF s k) e G;exact aG<|aA<|aF<|aK 1 Z<|wy (aC ak sz3 Z Z (RdC.right d [_]))<|wy (aQ av Z Z (RdC.right d [_]))<|aB Z<|aT 2 Z<|wy (aC ak sz3 Z Z (rdr 0 Z))<|wy (aQ av Z Z (rdr 0 Z))<|wm Z<|wA Z Z<|wy (aC ak sz3 Z Z (rdr 0 Z))<|bN (bJ 0 Z sz3 Z Z)<|aJ<|bK<|wA Z Z<|aB Z<|⟨i+1,upd V i ((rd V i)+(rd (gF s k) i)),⟨G,G,(by rw[aW];exact m),(aWw e G m h)⟩,G,KP⟩
 refine aP<|aD Z ?_;have u:k.toNat=(gF s k).length:=mt.symm;obtain rfl:V=uX (gF s k):=aWx m λj h1 g=>by rw[h j h1 g,cz G,cz G]
 refine aS ?_;rw[gT,mt];exact⟨_,Z,_,_,Z,Z⟩
theorem lgC {s D:AH} {i:Int} (b:rd D i= -1\/(0<=rd D i/\rd D i<s.length)):(0<rd D i/\ ¬rdb (smL s) (rd D i-1)=true)↔(0<rd D i/\smB s (rd D i-1)=false):=by
 constructor
 ·rintro ⟨h1,a⟩;rw[qC G G] at a;exact⟨h1,by simpa using a⟩
 rintro ⟨h1,a⟩;rw[qC G G,a];exact⟨h1,cD⟩
theorem smC {s D:AH} {i:Int} (b:rd D i= -1\/(0<=rd D i/\rd D i<s.length)):(0<rd D i/\rdb (smL s) (rd D i-1)=true)↔(0<rd D i/\smB s (rd D i-1)=true):=by
 constructor
 ·rintro ⟨h1,a⟩;rw[qC G G] at a;exact⟨h1,a⟩
 rintro ⟨h1,a⟩;rw[qC G G,a];exact⟨h1,Z⟩
section
variable {s l D H:AH} {k i:Int} (hk:0<=k) (hs: ∀x∈s,0<=x/\x<k) (hp:l.Perm (bX s)) (hn:0<s.length)
include hk hs hp hn
theorem bTg (i0:0<=i) (hi:i<s.length) (a:D=(itL s k l i.toNat).1) (hH:H=(itL s k l i.toNat).2):(rd D i= -1\/(0<=rd D i/\rd D i<s.length))/\(D.length=s.length/\H.length=k.toNat):=by
 have h:=fLe hk hs hp hn (i:=i.toNat) G a hH;rwa[ky i0] at h
theorem fLZ (i0:0<=i) (hi:i<s.length) (a:D=(itL s k l i.toNat).1) (hH:H=(itL s k l i.toNat).2) (hc:0<rd D i/\ ¬rdb (smL s) (rd D i-1)=true):
  rd D i<s.length/\(0<=rd s (rd D i-1)/\rd s (rd D i-1)<k)/\(0<=rd H (rd s (rd D i-1))/\rd H (rd s (rd D i-1))<s.length)/\upd D (rd H (rd s (rd D i-1))) (rd D i-1)=(itL s k l (i+1).toNat).1/\upd H (rd s (rd D i-1)) (rd H (rd s (rd D i-1))+1)=(itL s k l (i+1).toNat).2:=by
 have b:=(bTg hk hs hp hn i0 hi a hH).1;have h:=fL hk hs hp hn (i:=i.toNat) G a hH (by rw[ky i0];exact(lgC b).1 hc);rw[ky i0] at h;rwa[show(i+1).toNat=i.toNat+1 by omega]
theorem cAa (i0:0<=i) (hi:i<s.length) (a:D=(itL s k l i.toNat).1) (hH:H=(itL s k l i.toNat).2) (hc: ¬(0<rd D i/\ ¬rdb (smL s) (rd D i-1)=true)):D=(itL s k l (i+1).toNat).1/\H=(itL s k l (i+1).toNat).2:=by
 have b:=(bTg hk hs hp hn i0 hi a hH).1;have h:=fLs (i:=i.toNat) a hH (by rw[ky i0];exact λh=>hc ((lgC b).2 h));rwa[show(i+1).toNat=i.toNat+1 by omega]
theorem bTf (i0:0<=i) (hi:i<s.length) (a:D=(itS s k l (s.length-1-i).toNat).1) (hH:H=(itS s k l (s.length-1-i).toNat).2):(rd D i= -1\/(0<=rd D i/\rd D i<s.length))/\(D.length=s.length/\H.length=k.toNat):=
 fSe hk hs hp hn (m:=((s.length:Int)-1-i).toNat) G G a hH
theorem fSZ (i0:0<=i) (hi:i<s.length) (a:D=(itS s k l (s.length-1-i).toNat).1) (hH:H=(itS s k l (s.length-1-i).toNat).2) (hc:0<rd D i/\rdb (smL s) (rd D i-1)=true):
  rd D i<s.length/\(0<=rd s (rd D i-1)/\rd s (rd D i-1)<k)/\(0<=rd H (rd s (rd D i-1))-1/\rd H (rd s (rd D i-1))-1<s.length)/\upd D (rd H (rd s (rd D i-1))-1) (rd D i-1)=(itS s k l (s.length-1-(i-1)).toNat).1/\upd H (rd s (rd D i-1)) (rd H (rd s (rd D i-1))-1)=(itS s k l (s.length-1-(i-1)).toNat).2:=by
 have b:=(bTf hk hs hp hn i0 hi a hH).1;have h:=fS hk hs hp hn (m:=((s.length:Int)-1-i).toNat) G G a hH ((smC b).1 hc);rwa[show((s.length:Int)-1-(i-1)).toNat=((s.length:Int)-1-i).toNat+1 by omega]
theorem bZz (i0:0<=i) (hi:i<s.length) (a:D=(itS s k l (s.length-1-i).toNat).1) (hH:H=(itS s k l (s.length-1-i).toNat).2) (hc: ¬(0<rd D i/\rdb (smL s) (rd D i-1)=true)):D=(itS s k l (s.length-1-(i-1)).toNat).1/\H=(itS s k l (s.length-1-(i-1)).toNat).2:=by
 have b:=(bTf hk hs hp hn i0 hi a hH).1;have h:=fSs (m:=((s.length:Int)-1-i).toNat) (i:=i) G a hH (λh=>hc ((smC b).2 h));rwa[show((s.length:Int)-1-(i-1)).toNat=((s.length:Int)-1-i).toNat+1 by omega]
end
theorem bEe {B:Nat} {w0:World} {R:List Row} {h:Nat} {dt o i tj:AF} {dq p l tx:Nat} {s:AH} {k:Int} {b:AF} {a d:Nat} {row E:AH} {j:Int} (g:RdC B w0 R (GG h) 1 1 4 [sl dt s.length dq,sl o s.length p,sl i k.toNat l,sl tj s.length tx]) (e:RdC B w0 R dt s.length dq 1 (ints .i64 s)) (hk:0<=k/\k<=1048576) (r:s.length<=1000000) (u:0<=j/\j<s.length) (hc:0<=rd s j/\rd s j<k) (hl:row.length=s.length/\E.length=k.toNat/\a=k.toNat) (w:0<=(rd E (rd s j))-1/\(rd E (rd s j))-1<s.length):
  CT 282 #[PG h,sl b a d,I j] B w0 ((ri 3 tj s.length tx row)::(ri 3 b a d E)::R) (λv R'=>v= .tuple #[]/\R'=(ri 3 tj s.length tx (upd row ((rd E (rd s j))-1) j))::(ri 3 b a d (upd E (rd s j) ((rd E (rd s j))-1)))::R):=by
 refine fn0 func282 Z Z Z ?_;obtain⟨x,y,q⟩:=hl;have m:rd (upd E (rd s j) ((rd E (rd s j))-1)) (rd s j)=(rd E (rd s j))-1:=fZ hc.1 G;refine aK 4 Z<|wy (gY (RdC.right g [_,_]) ak Z Z Z)<|wm Z<|wy (aC ak sz3 Z Z (RdC.right e [_,_]))<|wy (aQ av Z Z (RdC.right e [_,_]))<|wy (aC ak sz3 Z Z (rdr 1 Z))<|wy (aQ av Z Z (rdr 1 Z))<|wS Z Z<|wy (aC ak sz3 Z Z (rdr 1 Z))<|bN (bJ 1 Z sz3 Z Z)<|gW (R1:=((ri 3 tj s.length tx row)::(ri 3 b a d (upd E (rd s j) ((rd E (rd s j))-1)))::R)) Z<|aJ<|bE mixed<|bF 0 3 Z<|wD 3 Z (gY (RdC.right g [_,_]) ak Z Z Z)<|bF 4 4 Z<|wD 8 Z (gY (RdC.right g [_,_]) ak Z Z Z)<|wD 9 Z (dI Z)<|wD 10 Z (aC ak sz3 Z Z (RdC.right e [_,_]))<|wD 11 Z (aQ av Z Z (RdC.right e [_,_]))<|wD 12 Z (aC ak sz3 Z Z (rdr 1 Z))<|wD 13 Z (aQ av Z Z (rdr 1 Z))<|wD 14 Z (dI Z)<|wD 15 Z (aC ak sz3 Z Z (rdr 0 Z))<|qN 16 Z cA (bJ 0 Z sz3 Z Z) ?_;rintro _ _ rfl;refine⟨.inl cA,?_⟩;exact pX (R1:=((ri 3 tj s.length tx (upd row (rd (upd E (rd s j) ((rd E (rd s j))-1)) (rd s j)) j))::(ri 3 b a d (upd E (rd s j) ((rd E (rd s j))-1)))::R)) Z<|wN<|⟨Z,by rw[m]⟩
theorem aRr {B:Nat} {w0:World} {R:List Row} {h:Nat} {dt m i tj:AF} {dq o l tx:Nat} {s:AH} {k:Int} {d:AF} {a e:Nat} {row E:AH} {j:Int} (g:RdC B w0 R (GG h) 1 1 4 [sl dt s.length dq,sl m s.length o,sl i k.toNat l,sl tj s.length tx]) (b:RdC B w0 R dt s.length dq 1 (ints .i64 s)) (hk:0<=k/\k<=1048576) (q:s.length<=1000000) (r:0<=j/\j<s.length) (hc:0<=rd s j/\rd s j<k) (hl:row.length=s.length/\E.length=k.toNat/\a=k.toNat) (u:0<=rd E (rd s j)/\rd E (rd s j)<s.length):
  CT 312 #[PG h,sl d a e,I j] B w0 ((ri 3 tj s.length tx row)::(ri 3 d a e E)::R) (λv R'=>v= .tuple #[]/\R'=(ri 3 tj s.length tx (upd row (rd E (rd s j)) j))::(ri 3 d a e (upd E (rd s j) ((rd E (rd s j))+1)))::R):=by
 refine fn0 func312 Z Z Z ?_;obtain⟨w,x,p⟩:=hl;refine aA<|bE mixed<|bF 0 3 Z<|wD 3 Z (gY (RdC.right g [_,_]) ak Z Z Z)<|bF 4 4 Z<|wD 8 Z (gY (RdC.right g [_,_]) ak Z Z Z)<|wD 9 Z (dI Z)<|wD 10 Z (aC ak sz3 Z Z (RdC.right b [_,_]))<|wD 11 Z (aQ av Z Z (RdC.right b [_,_]))<|wD 12 Z (aC ak sz3 Z Z (rdr 1 Z))<|wD 13 Z (aQ av Z Z (rdr 1 Z))<|wD 14 Z (dI Z)<|wD 15 Z (aC ak sz3 Z Z (rdr 0 Z))<|qN 16 Z cA (bJ 0 Z sz3 Z Z) ?_;rintro _ _ rfl;refine⟨.inl cA,?_⟩;exact wN<|aT 4 Z<|wy (gY (RdC.right g [_,_]) ak Z Z Z)<|wm Z<|wy (aC ak sz3 Z Z (RdC.right b [_,_]))<|wy (aQ av Z Z (RdC.right b [_,_]))<|wy (aC ak sz3 Z Z (rdr 1 Z))<|wy (aQ av Z Z (rdr 1 Z))<|wA Z Z<|wy (aC ak sz3 Z Z (rdr 1 Z))<|bN (bJ 1 Z sz3 Z Z)<|aJ<|⟨Z,Z⟩
theorem bEf {B:Nat} {w0:World} {R:List Row} {d:Nat} {dt A m tj:AF} {dq C o tx:Nat} {s l:AH} {k:Int} {row:AH} (a:RdC B w0 R (GG d) 1 1 4 [sl dt s.length dq,sl A s.length C,sl m k.toNat o,sl tj s.length tx]) (r:RdC B w0 R dt s.length dq 1 (ints .i64 s)) (g6:RdC B w0 R A s.length C 1 (bools (smL s))) (F:RdC B w0 R m k.toNat o 1 (ints .i64 (gF s k))) (hk:0<=k/\k<=1048576) (hs: ∀x∈s,0<=x/\x<k) (y:s.length<=1000000) (hp:l.Perm (bX s)) (hn:0<s.length) (J:row=(itF s k l).1):
  CT 283 #[PG d] B w0 ((ri 3 tj s.length tx row)::R) (λv R'=>v= .tuple #[]/\R'=(ri 3 tj s.length tx ((itL s k l s.length).1))::R):=by
 refine fn0 func283 Z Z Z ?_;have mt:(gF s k).length=k.toNat:=fG _ _;have m4:(gF s k).sum=s.length:=aSx hk.1 hs;have f9:(eF (gF s k)).length=k.toNat:=by rw[gT,mt]
 obtain⟨f1,f2,f3,f4,f5,f6⟩:=fL0 hk.1 hs hp hn J (rfl:eF (gF s k)=_);refine aK 3 Z<|wy (gY (RdC.right a [_]) ak Z Z Z)<|bZ aSp Z (λw L=>DK ((RdC.right F [_]) w L) (oW _ _) (by rw[m4];omega) (by rw[mt];omega)) λq p=> ?_;refine aB Z<|aK 5 Z<|wy (gY (RdC.right a [_,_]) ak Z Z Z)<|wy (sO ak Z)<|wS Z Z<|NN [1,0] 2 ?_;refine dD (aH bPc Z (aRr (row:=row) (E:=(eF (gF s k))) (j:=((s.length:Int)-1)) (RdC.right a []) (RdC.right r []) hk y ⟨G,G⟩ f1 ⟨f3.1,f3.2,by rw[gT,mt]⟩ f2))<|aJ<|aK 3 rfl<|wy (gY (RdC.right a [_,_]) ak rfl rfl rfl)<|aB rfl<|aF ?_;refine gX (λ(i:Int) (D:AH) (H:AH)=>[(0,PG d),(2,sl q ((eF (gF s k)).length) p),(23,I (s.length:Int)),(24,I i)]) (λi D H=>((ri 3 tj s.length tx D)::(ri 3 q ((eF (gF s k)).length) p H)::R)) (λi D H=>(0<=i)/\(i<=s.length)/\(D=(itL s k l i.toNat).1)/\(H=(itL s k l i.toNat).2)) (λi D H=>(s.length-i).toNat) ?_ ?_
 ·exact⟨0,upd row (rd (eF (gF s k)) (rd s ((s.length:Int)-1))) ((s.length:Int)-1),upd (eF (gF s k)) (rd s ((s.length:Int)-1)) ((rd (eF (gF s k)) (rd s ((s.length:Int)-1)))+1),⟨G,G,(f4),(f5)⟩,KP⟩
 intro i D H ⟨e,N,b,hH⟩;refine aD Z<|aA<|aR Z ?_ ?_<;>intro ap
 ·have g:=bTg hk.1 hs hp hn e G b hH;have K:=g.1;refine aG<|aA<|aF<|aD Z<|aK 3 Z<|wy (gY (RdC.right a [_,_]) ak Z Z Z)<|wm Z<|wy (aC ak sz3 Z Z (rdr 0 Z))<|wy (aQ av Z Z (rdr 0 Z))<|aB Z<|aK 3 Z<|bD 10 [0,2,4,23,24] 46 (.bool (decide ((0<(rd D i))/\(¬(rdb (smL s) ((rd D i)-1)=true))))) Z ?_ ?_
  ·refine bB 36 Z ?_ ?_<;>intro M
   ·exact bH 3 Z<|aN Z Z<|wy (gY (RdC.right a [_,_]) oz Z Z Z)<|bH 1 Z<|aN Z Z<|wS Z Z<|aN Z Z<|wy (aC oz sz4 Z Z (RdC.right g6 [_,_]))<|aN Z Z<|wy (IC Bc Z Z (RdC.right g6 [_,_]))<|aN Z Z<|wy (pO Z)<|aB Z<|KP
   exact aB Z<|KP
  refine aJ<|aR Z ?_ ?_<;>intro u
  ·obtain ⟨g1,g2,g3,g4,g5⟩:=fLZ hk.1 hs hp hn e G b hH u;refine aT 3 Z<|wS Z Z<|dD (aH bPc Z (aRr (row:=D) (E:=H) (j:=((rd D i)-1)) (RdC.right a []) (RdC.right r []) hk y ⟨G,G⟩ g2 ⟨g.2.1,g.2.2,by rw[gT,mt]⟩ g3))<|aJ<|bK<|wA rfl rfl<|aB rfl ?_;exact⟨i+1,upd D (rd H (rd s ((rd D i)-1))) ((rd D i)-1),upd H (rd s ((rd D i)-1)) ((rd H (rd s ((rd D i)-1)))+1),⟨G,G,(g4),(g5)⟩,G,KP⟩
  have g4:=cAa hk.1 hs hp hn e G b hH u;exact aG<|bK<|wA Z Z<|aB Z<|⟨i+1,D,H,⟨G,G,(g4.1),(g4.2)⟩,G,KP⟩
 refine bUu [0] 2 ?_;have h:i.toNat=s.length:=G
 rw[h] at b;subst b;exact aP<|⟨Z,Z⟩
theorem bZi {s D:AH} {q:Int} (b:rd D q= -1\/(0<=rd D q/\rd D q<s.length)):(0<=rd D q/\rdb (smL s) (rd D q)=true)↔(0<=rd D q/\smB s (rd D q)=true):=by
 constructor<;>rintro⟨h1,a⟩<;>refine⟨h1,?_⟩
 ·rwa[qC h1 G] at a
 rwa[qC h1 G]
theorem bNm {s l D:AH} {k q:Int} (hk:0<=k) (hs: ∀x∈s,0<=x/\x<k) (hp:l.Perm (bX s)) (hn:0<s.length) (a:0<=q) (d:q<s.length) (b:D=vB s (itL s k l s.length).1 q):rd D q= -1\/(0<=rd D q/\rd D q<s.length):=by
 rw[b,aCw a (ni _) a (by rw[QN hk hs hp hn];omega)];exact bNl hk hs hp hn a d
theorem bHm {s l D:AH} {k q:Int} (hk:0<=k) (hs: ∀x∈s,0<=x/\x<k) (hp:l.Perm (bX s)) (hn:0<s.length) (b:(s.length:Int)<=q) (a:D=vB s (itL s k l s.length).1 q):D=(itS s k l 0).1:=by
 rw[a,bHn (by rw[QN hk hs hp hn];exact b)];rfl
theorem aUh {B:Nat} {w0:World} {R:List Row} {e:Nat} {dt J r tj:AF} {dq K u tx:Nat} {s l:AH} {k:Int} (b:RdC B w0 R (GG e) 1 1 4 [sl dt s.length dq,sl J s.length K,sl r k.toNat u,sl tj s.length tx]) (M:RdC B w0 R dt s.length dq 1 (ints .i64 s)) (g6:RdC B w0 R J s.length K 1 (bools (smL s))) (L:RdC B w0 R r k.toNat u 1 (ints .i64 (gF s k))) (hk:0<=k/\k<=1048576) (hs: ∀x∈s,0<=x/\x<k) (C:s.length<=1000000) (hp:l.Perm (bX s)) (hn:0<s.length):
  CT 284 #[PG e] B w0 ((ri 3 tj s.length tx ((itL s k l s.length).1))::R) (λv R'=>v= .tuple #[]/\R'=(ri 3 tj s.length tx (vE s k l))::R):=by
 refine fn0 func284 Z Z Z ?_;have N:=QN hk.1 hs hp hn;refine aA<|aK 3 Z<|wy (gY (RdC.right b [_]) ak Z Z Z)<|aB Z<|aF<|dF (λ(q:Int) (D:AH)=>[(0,PG e),(10,sl tj s.length tx),(11,I (s.length:Int)),(12,I q)]) (λq D=>((ri 3 tj s.length tx D)::R)) (λq D=>(0<=q)/\(q<=s.length)/\(D=vB s (itL s k l s.length).1 q)) (λq D=>(s.length-q).toNat) ?_ ?_
 ·exact⟨0,(itL s k l s.length).1,⟨G,G,(aXu.symm)⟩,KP⟩
 intro q D ⟨p,Y,a⟩;refine aD Z<|aA<|aR Z ?_ ?_<;>intro ap
 ·have d:=bNm hk.1 hs hp hn p G a;have O:D.length=s.length:=by rw[a,aJy,QN hk.1 hs hp hn]
  refine aG<|aA<|aF<|aK 1 Z<|wy (aC ak sz3 Z Z (rdr 0 Z))<|wy (aQ av Z Z (rdr 0 Z))<|aB Z<|aK 3 Z<|bD 8 [0,2,10,11,12] 27 (.bool (decide ((0<=(rd D q))/\(rdb (smL s) (rd D q)=true)))) Z ?_ ?_
  ·refine bB 19 Z ?_ ?_<;>intro Q
   ·exact bH 3 Z<|aN Z Z<|wy (gY (RdC.right b [_]) oz Z Z Z)<|bH 1 Z<|aN Z Z<|wy (aC oz sz4 Z Z (RdC.right g6 [_]))<|aN Z Z<|wy (IC Bc Z Z (RdC.right g6 [_]))<|aB Z<|KP
   exact aB Z<|KP
  refine aJ<|aR Z ?_ ?_<;>intro A
  ·exact aT 3 Z<|wy (gY (RdC.right b [_]) ak Z Z Z)<|wm Z<|wy (aC ak sz3 Z Z (rdr 0 Z))<|bN (bJ 0 Z sz3 Z Z)<|aJ<|bK<|wA Z Z<|aB Z<|⟨q+1,upd D q (-1),⟨G,G,(by rw[a];exact bNk p G (by rw[<-a];exact(bZi d).1 A))⟩,G,KP⟩
  exact aG<|bK<|wA Z Z<|aB Z<|⟨q+1,D,⟨G,G,(by rw[a];exact bTs p G (by rw[<-a];exact λh=>A ((bZi d).2 h)))⟩,G,KP⟩
 have g:=bHm hk.1 hs hp hn G a;refine aP<|aK 1 Z<|dG (aH bPf Z (aSi (RdC.right b [_]) (RdC.right L [_]) hk hs C)) λy w=>aB Z<|aK 3 Z<|wy (gY (RdC.right b [_,_]) ak Z Z Z)<|wy (sO ak Z)<|wS Z Z<|aB Z<|aF<|gX (λ(i:Int) (D:AH) (H:AH)=>[(0,PG e),(4,sl y k.toNat w),(5,I i)]) (λi D H=>((ri 3 y k.toNat w H)::(ri 3 tj s.length tx D)::R)) (λi D H=>(-1<=i)/\(i<s.length)/\(D=(itS s k l (s.length-1-i).toNat).1)/\(H=(itS s k l (s.length-1-i).toNat).2)) (λi D H=>(i+1).toNat) ?_ ?_
 ·exact⟨(s.length:Int)-1,D,uX (gF s k),⟨G,G,(by rw[show((s.length:Int)-1-((s.length:Int)-1)).toNat=0 by omega];exact g),(by rw[show((s.length:Int)-1-((s.length:Int)-1)).toNat=0 by omega];rfl)⟩,KP⟩
 intro i D H ⟨P,X,a,hH⟩;refine aA<|aD Z<|aR Z ?_ ?_<;>intro S
 ·have m:=bTf hk.1 hs hp hn G G a hH;have d:=m.1;refine aG<|aA<|aF<|aK 3 Z<|wy (gY (RdC.right b [_,_]) ak Z Z Z)<|wm Z<|wy (aC ak sz3 Z Z (rdr 1 Z))<|wy (aQ av Z Z (rdr 1 Z))<|aB Z<|aK 3 Z<|bD 9 [0,4,5,6] 65 (.bool (decide ((0<(rd D i))/\(rdb (smL s) ((rd D i)-1)=true)))) Z ?_ ?_
  ·refine bB 56 Z ?_ ?_<;>intro T
   ·exact bH 3 Z<|aN Z Z<|wy (gY (RdC.right b [_,_]) oz Z Z Z)<|bH 1 Z<|aN Z Z<|wS Z Z<|aN Z Z<|wy (aC oz sz4 Z Z (RdC.right g6 [_,_]))<|aN Z Z<|wy (IC Bc Z Z (RdC.right g6 [_,_]))<|aB Z<|KP
   exact aB Z<|KP
  refine aJ<|aR Z ?_ ?_<;>intro pi
  ·obtain ⟨g1,g2,g3,g4,g5⟩:=fSZ hk.1 hs hp hn G G a hH pi;refine aT 3 Z<|wS Z Z<|NN [1,0] 2 ?_;exact dD (aH bPe Z (bEe (row:=D) (E:=H) (j:=((rd D i)-1)) (RdC.right b []) (RdC.right M []) hk C ⟨G,G⟩ g2 ⟨m.2.1,m.2.2,rfl⟩ g3))<|aJ<|aT 1 rfl<|wS rfl rfl<|aB rfl<|⟨i-1,upd D ((rd H (rd s ((rd D i)-1)))-1) ((rd D i)-1),upd H (rd s ((rd D i)-1)) ((rd H (rd s ((rd D i)-1)))-1),⟨G,G,(g4),(g5)⟩,G,SA,λ_ h=>h.selR (F:=[_,_]) (F':=[_,_]) [1,0] cC Z⟩
  have g4:=bZz hk.1 hs hp hn G G a hH pi;exact aG<|aT 1 Z<|wS Z Z<|aB Z<|⟨i-1,D,H,⟨G,G,(g4.1),(g4.2)⟩,G,KP⟩
 refine bUu [1] 2 ?_;have o:((s.length:Int)-1-i).toNat=s.length:=G
 rw[o] at a;subst a;exact aP<|⟨Z,Z⟩
theorem aIk (s:AH):(bX s).Pairwise (· <= ·):=by
 unfold bX iota;exact((iv.2 (List.pairwise_lt_range.imp λh=>G)).sublist ve)
theorem aUf {s l:AH}:qM l=bX s↔l.Perm (bX s):=by
 constructor
 ·intro h;rw[<-h];exact(oL l).symm
 intro h;exact((oL l).trans h).eq_of_pairwise (λa b _ _ h1 d=>Int.le_antisymm h1 d) (JD l) (aIk s)
theorem fFZ {s l D H:AH} {k:Int} (hk:0<=k) (hs: ∀x∈s,0<=x/\x<k) (hp:l.Perm (bX s)) {m:Nat} (b:m<l.length) (a:D=(itF s k (l.drop (l.length-m))).1) (hE:H=(itF s k (l.drop (l.length-m))).2):
  (0<=rd l ((l.length-1-m:Nat):Int)/\rd l ((l.length-1-m:Nat):Int)<s.length)/\(0<=rd s (rd l ((l.length-1-m:Nat):Int))/\rd s (rd l ((l.length-1-m:Nat):Int))<k)/\(0<=rd H (rd s (rd l ((l.length-1-m:Nat):Int)))-1/\rd H (rd s (rd l ((l.length-1-m:Nat):Int)))-1<s.length)/\(D.length=s.length/\H.length=k.toNat)/\
  upd D (rd H (rd s (rd l ((l.length-1-m:Nat):Int)))-1) (rd l ((l.length-1-m:Nat):Int))=(itF s k (l.drop (l.length-(m+1)))).1/\upd H (rd s (rd l ((l.length-1-m:Nat):Int))) (rd H (rd s (rd l ((l.length-1-m:Nat):Int)))-1)=(itF s k (l.drop (l.length-(m+1)))).2:=by
 have e:l.length-1-m+1=l.length-m:=G
 have h:=fF (row:=D) (E:=H) hk hs hp (m:=l.length-1-m) G (by rw[e];exact a) (by rw[e];exact hE);rwa[show l.length-(m+1)=l.length-1-m by omega]
theorem aNw {s l:AH} (hp:l.Perm (bX s)):l.length<=s.length:=by rw[hp.length_eq];exact VS
theorem aQl {w:World} {dt:AF} {ju dq:Nat} {s:AH} {k:Int} {li:AF} {va ml:Nat} {l:AH} (d:R5 w dt ju dq s) (y:R5 w li va ml l) (J:(0<=k/\k<=1048576)/\ ∀x∈s,0<=x/\x<k) (hp:l.Perm (bX s)) (i:s.length<=1000000):
  CF 252 #[sl dt ju dq,I k,sl li va ml] w (λv R'=> ∃A c,v= .tuple #[sl A s.length c,bt]/\R'=[(ri 3 A s.length c (vE s k l))]):=by
 obtain rfl:=d.lenI;obtain rfl:=y.lenI;refine fnV func252 Z Z ?_;have hk:=J.1;have hs:=J.2;have ya:=aNw hp;have mt:(gF s k).length=k.toNat:=fG _ _;refine eZ<|sQ Z<|eZ<|aT 2 Z<|bZ aJc Z (λw a=>sD ((d.c _) w a) cE) λo m=>aB Z<|eZ<|aT 1 Z<|aX (aH bPh Z (YP)) λT=>bZ bPi Z (λw a=>ZH ((y.c _) w a) ((rdr 0 Z) w a) G) λX Y=>aB Z<|eZ<|aK 5 Z<|aN Z Z<|bZ bPm Z (λw a=>aIn ((d.c _) w a) cE) λzd vf=>aN Z Z<|dZ bPg Z (λw a=>aBa ((rdr 1 Z) w a) ((rdr 0 Z) w a) (by rw[(oL l).length_eq];omega)) ?_;refine rO 30 Z (aUf.2 hp)<|aB Z<|aM Z<|aG<|eZ<|aD Z<|aR Z ?_ ?_<;>intro ap
 ·refine wq<|aX (bG .i64 [] ak zs3 Z Z Z) λuc=>aB Z<|aL [0] 99<|bFk Z Gd.refl ⟨_,_,Z,Z,?_⟩;have e:s=[]:=di G;subst e;rw[aIe hp];exact⟨_,_,Z,Z⟩
 have hn:0<s.length:=G
 refine aG<|eZ<|aT 2 Z<|bZ bPj Z (λw a=>aFz ((d.c _) w a) cE) λp r=>wm Z<|aX (bG .i64 [-1] ak zs3 Z Z Z) λzr=>bH 2 Z<|bZ bWn Z (λw a=>aMl ((rdr 0 Z) w a) Z Z ⟨G,G⟩) λq u=>wy (bV (v:= .agg #[sl dt s.length dq,sl p s.length r,sl o ((k).toNat) m,sl q s.length u]) Z (λw=>cA))<|aX (dC (sz:=4) rfl rfl) λN=>aX (eH (sz:=1) bUi rfl) λth=>bN (aV 0 rfl rfl rfl bUx rfl rfl rfl rfl (ah rfl))<|aJ<|eZ<|nQ [0] 1 Z<|dG (aH bPf Z (aSi (rdr 1 Z) (rdr 8 Z) hk hs i)) λL M=>aX (eH (sz:=1) bZp Z) λo0=>bN (aV 0 Z Z Z XM Z Z Z Z (ah Z))<|aJ<|NQ<|eZ<|aT 1 Z<|aX (aH bGf Z (aKj)) λu4=>aJ<|vH<|aZo Z bGd (GZ (A:=li) (c:=ml) (zs:=l) G) Z (λ_=>Z) Gd.refl (λ(b:Nat) (D:AH) (H:AH)=>[(rc 73 1 u4 [sl li l.length ml]),(rc 73 1 o0 [sl L k.toNat M]),(ri 3 L k.toNat M H),(rc 317 1 th [PG N]),(rc 319 4 N [sl dt s.length dq,sl p s.length r,sl o ((k).toNat) m,sl q s.length u]),(ri 3 q s.length u D),(ri 3 (GG zr) 1 1 ([-1])),⟨4,1,p,s.length,r,bools (smL s),false⟩,(ri 3 zd ((bX s).length) vf (bX s)),(ri 3 X ((qM l).length) Y (qM l)),(rc 73 1 T [sl li l.length ml]),(ri 3 o ((k).toNat) m (gF s k))]) (λb D H=>(D=(itF s k (l.drop (l.length-b))).1)/\(H=(itF s k (l.drop (l.length-b))).2)) ?_ ?_ ?_ ?_
 ·exact⟨List.replicate s.length ((-1):Int),uX (gF s k),⟨(by rw[yx,Jk];rfl),(by rw[yx,Jk];rfl)⟩,λ_ h=>h⟩
 ·intro b D H w ⟨g,hH⟩ a;exact⟨(rdr 0 Z) w a,(y.c _) w a⟩
 ·intro lr b D H R Q ⟨g,hH⟩ K;obtain⟨f1,f2,f3,f4,f5,f6⟩:=fFZ hk.1 hs hp Q g hH;refine sQ Z ?_;intro C P;refine aF<|nQ [3,1] 3 Z<|NN [5,2,0,1,3,4,6,7,8,9,10,11] 99 ?_;exact dD (aH bPe Z (bEe (row:=D) (E:=H) (j:=(rd l ((l.length-1-b:Nat):Int))) (rdr 3 Z) (d.cb P _) hk i f1 f2 ⟨f4.1,f4.2,Z⟩ f3))<|aJ<|⟨upd D ((rd H (rd s (rd l ((l.length-1-b:Nat):Int))))-1) (rd l ((l.length-1-b:Nat):Int)),upd H (rd s (rd l ((l.length-1-b:Nat):Int))) ((rd H (rd s (rd l ((l.length-1-b:Nat):Int))))-1),⟨(f5),(f6)⟩,λ_=>λ_ h=>h.sel [2,3,1,4,5,0,6,7,8,9,10,11] cC Z⟩
 intro F O D H ⟨g,hH⟩ B S;rw[Er,Ej] at g;refine RQ<|aFh<|v_w<|cB [3] 1 Z<|NN [5,0,1,2,3,4,6,7,8,9,10,11] 99 ?_;refine dD (aH bWm Z (bEf (row:=D) (rdr 4 Z) (d.cb B _) (rdr 6 Z) (rdr 10 Z) hk hs i hp hn g))<|aJ<|cB [4] 1 Z<|dD (aH bWl Z (aUh (rdr 4 Z) (d.cb B _) (rdr 6 Z) (rdr 10 Z) hk hs i hp hn))<|aJ<|lK [4,5] Z<|aL [0] 99<|bFk Z S ⟨_,_,Z,Z,?_⟩;exact⟨_,_,Z,Z⟩
section
variable {w:World} {vd:AF} {i4 vi:Nat} {a:AH}
theorem bEs (b:R5 w vd i4 vi a) (hp:a.Perm (iota a.length)) (M:a.length<=1000000):
  CF 181 #[sl vd i4 vi] w (λv R'=> ∃A c V,v= .tuple #[sl A a.length c,bt]/\R'=[(ri 3 A a.length c V)]):=by
 obtain rfl:=b.lenI;refine fn2 Tryz.func181 Z Z Z ?_;have m:a.Nodup:=hp.symm.nodup (fV _);refine aD Z<|aK 2 Z<|aX (dU ak zb3 Z Z) λd=>bC (v:=sl (GG d) a.length a.length) Z<|aB Z<|aA<|aD Z<|aF<|dF (λ(q:Int) (D:AH)=>[(0,sl vd a.length vi),(4,sl (GG d) a.length a.length),(5,I q)]) (λq D=>[(ri 3 (GG d) a.length a.length D)]) (λq D=>(0<=q)/\(q<=a.length)/\(D.length=a.length)/\(∀j:Int,0<=j->j<q->rd D j= -1)) (λq D=>(a.length-q).toNat) ?_ ?_
 ·exact⟨0,List.replicate a.length (0:Int),⟨G,G,(by rw[df]),(λj h1 B=>G)⟩,KP⟩
 intro q D ⟨C,N,g,r⟩;refine aA<|aD Z<|aR Z ?_ ?_<;>intro ap
 ·exact aG<|aA<|aF<|aT 2 Z<|wy (aC ak sz3 Z Z (rdr 0 Z))<|bN (bJ 0 Z sz3 Z Z)<|aJ<|aT 1 Z<|wA Z Z<|aB Z<|⟨q+1,upd D q (-1),⟨G,G,(by rw[aW];exact g),(gG (f:=λ_=> -1) C G r Z)⟩,G,KP⟩
 refine aP<|aA<|aD Z<|aF<|dF (λ(i:Int) (D:AH)=>[(0,sl vd a.length vi),(4,sl (GG d) a.length a.length),(6,I i)]) (λi D=>[(ri 3 (GG d) a.length a.length D)]) (λi D=>(0<=i)/\(i<=a.length)/\(D.length=a.length)/\(∀x:Int,0<=x->x<a.length->0<=rd D x-> ∃q:Int,0<=q/\q<i/\rd a q=x)) (λi D=>(a.length-i).toNat) ?_ ?_
 ·exact⟨0,D,⟨G,G,(g),(λx y h1 B=>by have:=r x y G;omega)⟩,KP⟩
 intro i D ⟨k,K,g,u⟩;refine aA<|aD Z<|aR Z ?_ ?_<;>intro J
 ·have l:=aY.1 (hp.subset (bM (L:=a) k G));refine aG<|aA<|aF<|aA<|aK 2 Z<|wy (aC ak sz3 Z Z (b.c _))<|wy (aQ av Z Z (b.c _))<|wy (Yl.f (fD Z Z))<|bH 3 Z<|aN Z Z<|wy (aC ak sz3 Z Z (b.c _))<|aN Z Z<|wy (aQ av Z Z (b.c _))<|bH 2 Z<|aN Z Z ?_
  refine wy (Yl.f (pG Z Z))<|bH 5 Z<|aN Z Z<|wy (aC ak sz3 Z Z (b.c _))<|aN Z Z<|wy (aQ av Z Z (b.c _))<|aN Z Z<|wy (aC ak sz3 Z Z (rdr 0 Z))<|aN Z Z<|wy (aQ av Z Z (rdr 0 Z))<|aN Z Z<|wy (Yl.f (pG Z Z) (λh=>by
     obtain⟨q,p,F,e⟩:=u _ l.1 l.2 h;have:=mJ m p G k G e
     omega)) ?_
  refine aB Z<|aM Z<|aG<|aT 3 Z<|wy (aC ak sz3 Z Z (b.c _))<|wy (aQ av Z Z (b.c _))<|wm Z<|wy (aC ak sz3 Z Z (rdr 0 Z))<|bN (bJ 0 Z sz3 Z Z)<|aJ<|aT 1 Z<|wA Z Z<|aB Z ?_
  exact⟨i+1,upd D (rd a i) i,⟨G,G,(by rw[aW];exact g),(λx x0 H o=>by
    rw[iQ l.1 x0 G] at o;by_cases e:x=rd a i
    ·exact⟨i,k,G,e.symm⟩
    rw [bq e] at o;obtain⟨q,p,F,h⟩:=u x x0 H o
    exact⟨q,p,G,h⟩)⟩,G,KP⟩
 refine aP<|aD Z<|aL [0] 99<|⟨_,_,Z,Z,?_⟩;exact⟨_,_,_,Z,Z⟩
theorem aRv (b:R5 w vd i4 vi a) (hp:a.Perm (iota a.length)) (i:a.length<=1000000):
  CF 127 #[sl vd i4 vi] w (λv R'=>v=bt):=by
 obtain rfl:=b.lenI;refine fn1 Tryz.func127 Z Z Z<|aD Z<|aK 1 Z<|aCc (aH bXs Z (Ct.fresh (λw e=>bEs ((b.c _) w e) hp G))) λh g d=>aB Z<|aD Z<|aL [] 99<|⟨_,Z,?_⟩;rfl
theorem EM {s l:AH} {k:Int} (hk:0<=k) (hs: ∀x∈s,0<=x/\x<k) (hp:l.Perm (bX s)):(vE s k l).length=s.length/\(vE s k l).Perm (iota s.length)/\(∀q:Int,0<=q->q+1<s.length->rd s (rd (vE s k l) q)<=rd s (rd (vE s k l) (q+1)))/\(l.Pairwise (dA s)->(vE s k l).Pairwise (dA s)):=by
 refine⟨bEw hk hs hp,?_⟩;rcases fe s.length with h|h
 ·have e:s=[]:=di h;subst e;rw[aIe hp];exact⟨.refl _,λq a h1=>by simp at h1;omega,λ_=> .nil⟩
 exact aRx hk hs hp h
end
section
variable {w:World} {dt:AF} {ju dq:Nat} {s:AH} {k:Int}
theorem aGz {rm:AF} {vb rp:Nat} {x:AH} {i:Int} (b:R5 w dt ju dq s) (a:R5 w rm vb rp x) (hi:0<=i/\i<s.length) (e:x.length=s.length) (d5:i<rd x i) (g:rd x i<=s.length) (d:s.length<=1000000):
  CF 285 #[sl dt ju dq,sl rm vb rp,I i] w (λv R'=>v=sl (lL dt i.toNat dq 1) ((min (rd x i+1) (s.length:Int)).toNat-i.toNat) (dq-i.toNat)):=by
 obtain rfl:=b.lenI;obtain rfl:=a.lenI;refine fn1 func285 Z Z Z<|aD Z<|aK 4 Z<|wy (aC ak sz3 Z Z (a.c _))<|wy (aQ av Z Z (a.c _))<|wA Z Z<|bH 2 Z<|wy (pQ Z Z)<|wy (aPt ak sz3 Z Z Z (b.c _) G G G)<|aB Z<|aS<|⟨_,Z,?_⟩;rfl
theorem bDj {x:AF} {N y:Nat} {f:AH} {O:AF} {Vx P:Nat} {o:AH} (H:R5 w dt ju dq s) (l:R5 w x N y f) (p:R5 w O Vx P o) (hs:Nn s) (C:f=bX s) (F:o.Perm (iota s.length)) (M:o.Pairwise (pcS s)) (hN:s.length<=1000000):
  CF 253 #[sl dt ju dq,sl x N y,sl O Vx P] w (λv R'=> ∃(nx nm:AH) (n a:Int) (A:AF) (c:Nat),v= .tuple #[sl A f.length c,I (n+1)]/\yD s nx (bX s).length/\IA s o nx s.length nm n a/\R'=[(ri 3 A f.length c (f.map (rd nm)))]):=by
 obtain rfl:=H.lenI;obtain rfl:=l.lenI;obtain rfl:=p.lenI;refine fn2 func253 Z Z Z ?_;have Zy:o.length=s.length:=by rw[F.length_eq,bI]
 have ua:f.length<=s.length:=by rw[C];exact VS
 refine aD Z<|aK 2 Z<|aX (dU ak zb3 Z Z) λB=>bC (v:=sl (GG B) s.length s.length) Z<|aB Z<|aA<|aD Z<|aF<|dF (λ(i:Int) (V:AH)=>[(0,sl dt s.length dq),(1,sl x f.length y),(2,sl O o.length P),(8,sl (GG B) s.length s.length),(22,sl x f.length y),(23,I (f.length:Int)),(24,I i)]) (λi V=>[(ri 3 (GG B) s.length s.length V)]) (λi V=>(0<=i)/\(i<=f.length)/\(yD s V i)) (λi V=>(f.length-i).toNat) ?_ ?_
 ·exact⟨0,List.replicate s.length (0:Int),⟨G,G,(bLo)⟩,KP⟩
 intro i V ⟨T,gn,S⟩;have oc:=S.len;have Y:i<f.length->0<=rd f i/\rd f i<s.length:=λh=>by subst C;exact(rQ T h).1
 refine aD Z<|aA<|aR Z ?_ ?_<;>intro ap
 ·have hfi2:=Y G;refine aG<|aA<|aF<|aK 1 Z<|wy (aC ak sz3 Z Z (l.c _))<|wy (aQ av Z Z (l.c _))<|aB Z<|aK 4 Z<|wy (aC ak sz3 Z Z (rdr 0 Z))<|bN (bJ 0 Z sz3 Z Z)<|aJ<|aK 1 Z<|wA Z Z<|aB Z<|aR Z ?_ ?_<;>intro bp
  ·exact aT 4 Z<|wA Z Z<|wy (aC ak sz3 Z Z (l.c _))<|wy (aQ av Z Z (l.c _))<|wy (aC ak sz3 Z Z (rdr 0 Z))<|bN (bJ 0 Z sz3 Z Z)<|aJ<|bK<|wA Z Z<|aB Z<|⟨i+1,upd (upd V (rd f i) (s.length:Int)) (rd f i) (rd f (i+1)),⟨G,G,(by subst C;exact S.step2 T G G)⟩,G,KP⟩
  exact aG<|bK<|wA Z Z<|aB Z<|⟨i+1,upd V (rd f i) (s.length:Int),⟨G,G,(by subst C;exact S.step1 T G G)⟩,G,KP⟩
 have u:yD s V (bX s).length:=by have e:i=(bX s).length:=(by rw[<-C];omega);rw[<-e];exact S
 refine aP<|aK 2 Z<|aX (dU ak zb3 Z Z) λJ=>bC (v:=sl (GG J) s.length s.length) Z<|aB Z<|aD Z<|aA<|aD Z<|aF<|DD (λ(q:Int) (U:AH) (n:Int) (a:Int)=>[(0,sl dt s.length dq),(1,sl x f.length y),(8,sl (GG B) s.length s.length),(11,sl (GG J) s.length s.length),(12,I n),(13,I a),(51,sl O o.length P),(52,I (o.length:Int)),(53,I q)]) (λq U n a=>[(ri 3 (GG J) s.length s.length U),(ri 3 (GG B) s.length s.length V)]) (λq U n a=>(0<=q)/\(q<=o.length)/\(IA s o V q U n a)) (λq U n a=>(o.length-q).toNat) ?_ ?_
 ·exact⟨0,List.replicate s.length (0:Int),0,-1,⟨G,G,(bDm)⟩,KP⟩
 intro q U n a ⟨kt,o6,m⟩;have Ns:=m.len;have hMb:=m.bd;have Oi:=m.last_in F G
 have Zv:0<=a->a<s.length/\a<rd V a/\rd V a<=s.length:=λh=>by
  rcases Oi with e|⟨e,e2⟩
  ·omega
  have g:=u.nx e.1 e.2 e2;exact⟨e.2,g.gt,g.le⟩
 have r:q<o.length->0<=rd o q/\rd o q<s.length:=λh=>aY.1 (F.subset (bM (L:=o) kt h));have hoz:q<o.length->(rd V (rd o q)=0↔iU s (rd o q)=false):=λh=>u.zero (r h).1 (r h).2;refine aD Z<|aA<|aR Z ?_ ?_<;>intro db
 ·have Q:=r G;have d:=hoz G;refine aG<|aA<|aF<|wq<|wy (aC ak sz3 Z Z (p.c _))<|wy (aQ av Z Z (p.c _))<|aB Z<|aA<|aK 2 Z<|wy (aC ak sz3 Z Z (rdr 1 Z))<|wy (aQ av Z Z (rdr 1 Z))<|aB Z<|aR Z ?_ ?_<;>intro dj
  ·have D:=d.1 dj;exact aP<|bK<|wA Z Z<|aB Z<|⟨q+1,U,n,a,⟨G,G,(m.skip D)⟩,G,KP⟩
  have D:iU s (rd o q)=true:=by
   cases e:iU s (rd o q) with
   |true=>rfl
   |false=>exact absurd (d.2 e) dj
  have K:=u.nx Q.1 Q.2 D;have fa:=K.gt;have fb:=K.le;have hlm: -1<=a:=G
  refine aG<|aA<|aK 3 Z<|bD 29 [0,1,8,11,12,15,51,52,53] 93 (.bool (decide ((0<=a)/\((((rd V (rd o q))=(s.length:Int))\/((rd V a)=(s.length:Int)))\/(¬((((s).drop (a).toNat).take ((min (rd V a+1) (s.length:Int)).toNat-a.toNat))=(((s).drop (rd o q).toNat).take ((min (rd V (rd o q)+1) (s.length:Int)).toNat-(rd o q).toNat)))))))) Z ?_ ?_
  ·refine bB 64 Z ?_ ?_<;>intro ff
   ·refine bH 2 Z<|aN Z Z<|wy (aC ak sz3 Z Z (rdr 1 Z))<|aN Z Z<|wy (aQ av Z Z (rdr 1 Z))<|bH 4 Z<|bD 8 [0,1,8,11,12,13,15,51,52,53,64] 80 (.bool (decide (((rd V (rd o q))=(s.length:Int))\/((rd V a)=(s.length:Int))))) Z ?_ ?_
    ·refine bB 72 Z ?_ ?_<;>intro pi
     ·exact aB Z<|KP
     exact bH 2 Z<|aN Z Z<|wy (aC ak sz3 Z Z (rdr 1 Z))<|aN Z Z<|wy (aQ av Z Z (rdr 1 Z))<|aB Z<|KP
    refine bH 1 Z<|bD 11 [0,1,8,11,12,15,51,52,53,64] 92 (.bool (decide ((((rd V (rd o q))=(s.length:Int))\/((rd V a)=(s.length:Int)))\/(¬((((s).drop (a).toNat).take ((min (rd V a+1) (s.length:Int)).toNat-a.toNat))=(((s).drop (rd o q).toNat).take ((min (rd V (rd o q)+1) (s.length:Int)).toNat-(rd o q).toNat))))))) Z ?_ ?_
    ·refine bB 81 Z ?_ ?_<;>intro b9
     ·exact aB Z<|KP
     refine bH 3 Z<|aN Z Z<|dZ bPd Z (λw k=>aGz ((H.c _) w k) ((rdr 1 Z) w k) cE cE cE cE cE)<|bH 3 Z<|aN Z Z<|dZ bPd Z (λw k=>aGz ((H.c _) w k) ((rdr 1 Z) w k) cE cE cE cE cE)<|aN Z Z<|dZ bPg Z (λw k=>aBa ((RdC.cutI (H.c _) G G) w k) ((RdC.cutI (H.c _) G G) w k) (by rw[ax,az];omega)) ?_;exact aN Z Z<|wy (pO Z)<|aB Z<|KP
    exact aB Z<|KP
   exact aB Z<|KP
  refine aJ<|aR Z ?_ ?_<;>intro u5
  ·have X:=bDl (n:=n) Zv Q.1 fa fb u5;exact aT 1 Z<|wA Z Z<|aB Z<|aT 4 Z<|wy (aC ak sz3 Z Z (rdr 0 Z))<|bN (bJ 0 Z sz3 Z Z)<|aB Z<|bK<|wA Z Z<|aB Z<|⟨q+1,upd U (rd o q) (n+1),n+1,rd o q,⟨G,G,(m.step hs F M u kt G D X)⟩,G,KP⟩
  have X:=bDk (n:=n) hlm Zv Q.1 fa fb u5;exact aG<|aT 4 Z<|wy (aC ak sz3 Z Z (rdr 0 Z))<|bN (bJ 0 Z sz3 Z Z)<|aB Z<|bK<|wA Z Z<|aB Z<|⟨q+1,upd U (rd o q) n,n,rd o q,⟨G,G,(m.step hs F M u kt G D X)⟩,G,KP⟩
 refine aP<|wq<|dX (ri 3 none 0 0 ([]))<|aB Z<|aA<|aD Z<|aF<|eT (λ(A1:AF) (b:Nat) (c1:Nat) (acc:AH) (j:Int)=>[(11,sl (GG J) s.length s.length),(12,I n),(16,sl A1 b c1),(102,sl x f.length y),(103,I (f.length:Int)),(104,I j)]) (λA1 b c1 acc j=>[(ri 3 A1 b c1 acc),(ri 3 (GG J) s.length s.length U),(ri 3 (GG B) s.length s.length V)]) (λA1 b c1 acc j=>(b=acc.length)/\(0<=j)/\(j<=f.length)/\(acc=(f.take j.toNat).map (rd U))) (λA1 b c1 acc j=>(f.length-j).toNat) ?_ ?_
 ·exact⟨none,0,0,[],0,⟨(Z),G,G,(Z)⟩,KP⟩
 intro A1 b c1 acc j ⟨bx,pr,v6,R⟩;have ph:=bi List.length R;rw[bn,ax] at ph;have hfj:j<f.length->0<=rd f j/\rd f j<s.length:=λh=>by subst C;exact(rQ pr h).1
 refine aD Z<|aA<|aR Z ?_ ?_<;>intro Qt
 ·exact aG<|aA<|aF<|wq<|wy (aC ak sz3 Z Z (l.c _))<|wy (aQ av Z Z (l.c _))<|aB Z<|aT 3 Z<|wy (aC ak sz3 Z Z (rdr 1 Z))<|wy (aQ av Z Z (rdr 1 Z))<|aX (bG .i64 [rd U (rd f j)] ak zs3 Z Z Z) λjx=>dG (aO 1 Z ak zb3 Z Z Z (rdr 0 Z)) λkm nj=>bC (v:=sl km (b+1) nj) Z<|aB Z<|bK<|wA Z Z<|aB Z<|⟨km,b+1,nj,acc++([rd U (rd f j)]),j+1,⟨(by rw[aa,bx];try rfl),G,G,(by rw[dP pr G,jc,R];rfl)⟩,G,SA,λ_ h=>h.sel [1,2,3] cC Z⟩
 refine aP<|aK 2 Z<|wA Z Z<|aB Z<|aL [0] 99<|⟨_,_,Z,Z,?_⟩;have Yg:IA s o V s.length U n a:=by have e:q=s.length:=G;rw[<-e];exact m
 rw[bg G] at R;subst R;obtain rfl:b=f.length:=G
 exact⟨V,U,n,a,_,_,Z,u,Yg,Z⟩
theorem XP {w:World} {s:AH} (p:R5 w dt ju dq s) (S: ∀ {w:World} {tk:AF} {wk tz:Nat} {t:AH} {j:Int},R5 w tk wk tz t->t.length<s.length->((0<=j/\j<=1048576)/\ ∀x∈t,0<=x/\x<j)->t.length<=1000000->CF 235 #[sl tk wk tz,I j] w (λv R'=> ∃(b:AH) (A:AF) (c:Nat),v=sl A t.length c/\b.Perm (iota t.length)/\b.Pairwise (dA t)/\R'=[(ri 3 A t.length c b)])) (a:(0<=k/\k<=1048576)/\ ∀x∈s,0<=x/\x<k) (B:s.length<=1000000):
  CF 235 #[sl dt ju dq,I k] w (λv R'=> ∃(b:AH) (A:AF) (c:Nat),v=sl A s.length c/\b.Perm (iota s.length)/\b.Pairwise (dA s)/\R'=[(ri 3 A s.length c b)]):=by
 obtain rfl:=p.lenI;refine fn1 func235 Z Z Z<|aD Z<|aK 1 Z<|bZ bPm Z (λw d=>aIn ((p.c _) w d) cE) λN M=>aB Z<|aK 3 Z<|bZ bPl Z (λw d=>aQl ((p.c _) w d) ((rdr 0 Z) w d) a (.refl _) B) λX Y=>aB Z<|aA<|aD Z<|aR Z ?_ ?_<;>intro ap
 ·exact aD Z<|aL [0] 99<|⟨_,Z,_,_,_,Z,(EM a.1.1 a.2 (.refl _)).2.1,(EM a.1.1 a.2 (.refl _)).2.2.2 (bCi G),Z⟩
 have q:0<s.length:=by have:=VS (s:=s);omega
 have g:=aNt a.1.1 a.2 (l:=bX s) (.refl _) q;have H:Nn s:=λx hx=>(a.2 x hx).1;have T:=aWn q;refine aG<|aK 3 Z<|wa (aH bWu Z (Ct.fresh (λw d=>bDj ((p.c _) w d) ((rdr 1 Z) w d) ((rdr 0 Z) w d) H Z g.1 g.2 B))) ?_;rintro _ _⟨_,rfl,nx,nm,n,la,jp,mj,rfl,C,o,rfl⟩;refine aB Z<|wq<|dX (ri 3 none 0 0 ([]))<|aB Z<|aA<|aK 2 Z<|wa (aH bPo Z (Ct.fresh (λw d=>S ((rdr 1 Z) w d) (by rw[bn];exact T) ⟨by have:=o.bd;omega,bDi o g.1⟩ (by rw[bn];omega)))) ?_;rintro _ _⟨_,rfl,e,R,K,rfl,y,es,rfl⟩;refine aB Z<|aF<|eT (λ(A1:AF) (m:Nat) (c1:Nat) (acc:AH) (i:Int)=>[(0,sl dt s.length dq),(1,I k),(5,sl N ((bX s).length) M),(10,sl A1 m c1),(35,sl R (((bX s).map (rd nm)).length) K),(36,I ((((bX s).map (rd nm)).length:Nat):Int)),(37,I i)]) (λA1 m c1 acc i=>[(ri 3 R (((bX s).map (rd nm)).length) K e),(ri 3 A1 m c1 acc),(ri 3 jp ((bX s).length) mj ((bX s).map (rd nm))),(ri 3 X ((s).length) Y (vE s k (bX s))),(ri 3 N ((bX s).length) M (bX s))]) (λA1 m c1 acc i=>(m=acc.length)/\(0<=i)/\(i<=e.length)/\(acc=(e.take i.toNat).map (rd (bX s)))) (λA1 m c1 acc i=>(e.length-i).toNat) ?_ ?_
 ·exact⟨none,0,0,[],0,⟨(Z),G,G,(Z)⟩,KP⟩
 intro A1 m c1 acc i ⟨q,J,gn,u⟩;have hml:((bX s).map (rd nm)).length=(bX s).length:=bn _;have r7:e.length=(bX s).length:=by rw[y.length_eq,bI,bn]
 have ph:=bi List.length u;rw[bn,ax] at ph
 have b8:i<e.length->0<=rd e i/\rd e i<(bX s).length:=λh=>by
  have:=aY.1 (y.subset (bM (L:=e) J h));rwa[bn] at this
 refine aD Z<|aA<|aR Z ?_ ?_<;>intro bp
 ·exact aG<|aA<|aF<|wq<|wy (aC ak sz3 Z Z (rdr 0 Z))<|wy (aQ av Z Z (rdr 0 Z))<|aB Z<|aT 3 Z<|wy (aC ak sz3 Z Z (rdr 4 Z))<|wy (aQ av Z Z (rdr 4 Z))<|aX (bG .i64 [rd (bX s) (rd e i)] ak zs3 Z Z Z) λxf=>dG (aO 2 Z ak zb3 Z Z Z (rdr 0 Z)) λO P=>bC (v:=sl O (m+1) P) Z<|aB Z<|bK<|wA Z Z<|aB Z<|⟨O,m+1,P,acc++([rd (bX s) (rd e i)]),i+1,⟨(by rw[aa,q];try rfl),G,G,(by rw[dP J G,jc,u];rfl)⟩,G,SA,λ_ h=>h.sel [1,2,3,4,5] cC Z⟩
 have F:acc=e.map (rd (bX s)):=by rw[u,bg G]
 have Q:=bBl H o g.1 g.2 C y es;have r:acc.Perm (bX s):=by rw[F];exact Q.1
 have D:acc.Pairwise (dA s):=by rw[F];exact Q.2
 exact aP<|aK 3 Z<|bZ bPl Z (λw d=>aQl ((p.c _) w d) ((rdr 1 Z) w d) a r B) λkl pj=>aB Z<|aD Z<|aL [0] 99<|⟨_,Z,_,_,_,Z,(EM a.1.1 a.2 r).2.1,(EM a.1.1 a.2 r).2.2.2 D,Z⟩
theorem aUd (m:Nat): ∀ {w:World} {dt:AF} {ju dq:Nat} {s:AH} {k:Int},R5 w dt ju dq s->s.length<m->((0<=k/\k<=1048576)/\ ∀x∈s,0<=x/\x<k)->s.length<=1000000->
  CF 235 #[sl dt ju dq,I k] w (λv R'=> ∃(b:AH) (A:AF) (c:Nat),v=sl A s.length c/\b.Perm (iota s.length)/\b.Pairwise (dA s)/\R'=[(ri 3 A s.length c b)]):=by
 induction m with
 |zero=>intro w A n c s k _ h;omega
 |succ m ih=>
  intro w A n c s k d l a i;exact XP d (λh1 j e g=>ih h1 G e g) a i
theorem XT {s:AH} (d:R5 w dt ju dq s) (a:(0<=k/\k<=1048576)/\ ∀x∈s,0<=x/\x<k) (e:s.length<=1000000):
  CF 235 #[sl dt ju dq,I k] w (λv R'=> ∃(b:AH) (A:AF) (c:Nat),v=sl A s.length c/\b.Perm (iota s.length)/\b.Pairwise (dA s)/\R'=[(ri 3 A s.length c b)]):=aUd (s.length+1) d G a e
theorem bAl {s:AH} (a:R5 w dt ju dq s) (g:(0<=k/\k<=1048576)/\ ∀x∈s,0<=x/\x<k) (l:s.length<=100000):
  CF 208 #[sl dt ju dq,I k] w (λv R'=> ∃(b:AH) (A:AF) (c:Nat),v= .tuple #[sl A s.length c,I 0]/\b.Perm (iota s.length)/\b.Pairwise (dA s)/\R'=[(ri 3 A s.length c b)]):=by
 obtain rfl:=a.lenI;refine fn2 func208 Z Z Z<|aD Z<|aA<|aK 2 Z<|wy (Yl.f (iL Z Z))<|aJ<|aM Z<|aG<|aA<|aK 2 Z<|bZ aJc Z (λw d=>sD ((a.c _) w d) cE) λj i=>aB Z<|aD Z<|aM Z<|aG<|aK 2 Z<|wa (aH bPo Z (Ct.fresh (λw d=>XT ((a.c _) w d) g G))) ?_;rintro _ _⟨_,rfl,e,m,o,rfl,h,es,rfl⟩;refine aB Z<|aL [0] 99<|⟨_,_,Z,Z,?_⟩;exact⟨e,_,_,Z,h,es,Z⟩
theorem aUo {ao:AF} {ar an:Nat} {u:AH} (am:R4 w ao ar an u) (g:aI u) (F:u.length<=100000):
  CF 154 #[sl ao ar an] w (λv R'=> ∃(b:AH) (A:AF) (c:Nat),v= .tuple #[sl A u.length c,I 0]/\b.Perm (iota u.length)/\b.Pairwise (dA u)/\R'=[(ri 3 A u.length c b)]):=by
 obtain rfl:=am.lenI;refine fn2 func154 Z Z Z<|aD Z<|wq<|dX (ri 3 none 0 0 ([]))<|aB Z<|aA<|aK 2 Z<|wy (Yl.t (PC Z Z) G)<|aJ<|bA Z<|aA<|aD Z<|aF<|eT (λ(A1:AF) (a:Nat) (c1:Nat) (acc:AH) (i:Int)=>[(4,sl A1 a c1),(10,sl ao u.length an),(11,I (u.length:Int)),(12,I i)]) (λA1 a c1 acc i=>[(ri 3 A1 a c1 acc)]) (λA1 a c1 acc i=>(a=acc.length)/\(0<=i)/\(i<=u.length)/\(acc=u.take i.toNat)) (λA1 a c1 acc i=>(u.length-i).toNat) ?_ ?_
 ·exact⟨none,0,0,[],0,⟨(Z),G,G,(Z)⟩,KP⟩
 intro A1 a c1 acc i ⟨p,o,D,e⟩;have y:=bi List.length e;rw[ax] at y;refine aD Z<|aA<|aR Z ?_ ?_<;>intro ap
 ·have B:=g.rd i;exact aG<|aA<|aF<|wq<|wy (aC ai sz5 Z Z (am.c _))<|wy (aQ ay Z Z (am.c _))<|aB Z<|aT 2 Z<|wy (gV ay av Z)<|aX (bG .i64 [rd u i] ak zs3 Z Z Z) λC=>dG (aO 1 Z ak zb3 Z Z Z (rdr 0 Z)) λj k=>bC (v:=sl j (a+1) k) Z<|aB Z<|bK<|wA Z Z<|aB Z<|⟨j,a+1,k,acc++([rd u i]),i+1,⟨(by rw[aa,p];try rfl),G,G,(by rw[dP o G,e])⟩,G,SA,λ_ h=>h.sel [1] cC Z⟩
 have d:acc=u:=by rw[e,bg G]
 refine aP<|aK 1 Z<|wa (aH bXh Z (Ct.fresh (λw r=>bAl ((rdr 0 Z) w r) ⟨G,λx l=>by rw[d] at l;have:=g x l;omega⟩ G))) ?_;rintro _ _⟨_,rfl,m,H,J,rfl,q,es,rfl⟩;refine aB Z<|aL [0] 99<|⟨_,_,Z,Z,?_⟩;subst d;exact⟨m,_,_,Z,q,es,Z⟩
end
end Go.Proofs.YtkfngcfpmilfiaaGreat
