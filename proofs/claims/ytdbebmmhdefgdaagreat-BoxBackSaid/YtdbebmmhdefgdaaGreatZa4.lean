/- Own work. -/
import Derived.Ground.SlsfProg
import Derived.Shelf.SlSortCmp.WholeK
import Derived.Test.YtdbebmmhdefgdaaGreatProg
import Derived.Tactics
import Derived.Tactics2
import Derived.Defers
import Derived.Laws.Pointers
import Derived.Laws.LoneSync
import Derived.RegionTactic
import Derived.RegionCalls
import Derived.ChangeAlike
import Derived.Lib.MakeNoZero
import Derived.Shelf.SlSortCmp.NoneTotal
import Derived.Test.YtdbebmmhdefgdaaGreatZa3
set_option linter.unusedVariables false
set_option linter.unusedSimpArgs false
set_option maxHeartbeats 8000000
namespace Go.Proofs.YtdbebmmhdefgdaaGreat
open Go Go.Eng Go.Pure
open Tryz
set_option maxRecDepth 100000
theorem aMc {cs V:AH} {i:Int} (h0:0<=i) (hi:i<cs.length) (hl:V.length=cs.length) (hV: ∀j:Int,0<=j->j<cs.length->rd V j=if j<i then ps cs (j+1) else ps cs j):
  ∀j:Int,0<=j->j<cs.length->rd (upd V i (rd V i+rd cs i)) j=if j<i+1 then ps cs (j+1) else ps cs j:=by
 intro j j0 j1;have e1:rd (upd V i (rd V i+rd cs i)) j=if j=i then rd V i+rd cs i else rd V j:=gG h0 j0 G
 have e2:=hV i h0 hi;rw[df G] at e2;rw[e1,e2,hV j j0 j1];by_cases e:j=i
 ·subst e;rw[di rfl,di G,mP h0 hi]
 ·rw [df e];by_cases h:j<i
  ·rw[di h,di G]
  ·rw[df h,df G]
theorem aHz {s:AH} {k:Int} (hk:0<=k) (hs: ∀x∈s,0<=x/\x<k):(dY s k).sum=s.length:=by
 have h:=MH (order:=iota s.length) (keys:=s) (k:=k) hk λi hi=>hs _ (bF (aV.1 hi).1 (aV.1 hi).2);rwa[lX,bC] at h
theorem aMd {cs V:AH} (hl:V.length=cs.length) (hV: ∀j:Int,0<=j->j<cs.length->rd V j=if j<cs.length then ps cs (j+1) else ps cs j):V=qV cs:=
 bE (hl.trans (EE cs).symm) λj h1 h2=>by rw[JX h1 G,hV j h1 G,di G]
theorem aHf {B:Nat} {w0:World} {R:List Row} {xb:Nat} {dg vb l9 lz:AF} {de vl m7 mc:Nat} {s:AH} {k:Int} (kp:RdC B w0 R (GG xb) 1 1 4 [sl dg s.length de,sl vb s.length vl,sl l9 k.toNat m7,sl lz s.length mc]) (Oy:RdC B w0 R l9 k.toNat m7 1 (ints .i64 (dY s k))) (hk:0<=k/\k<=1048576) (hs: ∀x∈s,0<=x/\x<k) (hN:s.length<=1000000):
  CT 317 #[PG xb] B w0 (R) (λv R'=> ∃A c,v=sl A k.toNat c/\R'=(ri 3 A k.toNat c (qV (dY s k)))::R):=by
 refine fn1 Tryz.func317 Z Z Z ?_;have ki:(dY s k).length=k.toNat:=dV _ _;have Is:(dY s k).sum=s.length:=aHz G hs;have Ls:(cK (dY s k)).length=k.toNat:=by rw[eQ,ki]
 refine wq<|wn Z<|wq<|wm Z<|wy (aF Z)<|wy (yF 2 2 oq iL Z)<|wy (fC (RdC.right kp []) aa Z Z Z)<|wa (aC aHm Z (Ct.fresh (λw hw=>xA ((RdC.right Oy []) w hw) (mE _ _) (by rw[Is];omega) (by rw[ki];omega)))) ?_;rintro _ _⟨_,rfl,cr,co,rfl,rfl⟩;refine wn Z<|aD<|wq<|wm Z<|wy (aF Z)<|wy (yF 2 2 oq iL Z)<|wy (fC (RdC.right kp [_]) aa Z Z Z)<|wy (aO aa Z)<|wm Z<|aA<|aI ?_;refine dS (λ(i:Int) (V:AH)=>[(3,sl cr ((cK (dY s k)).length) co),(14,sl l9 k.toNat m7),(15,I (k.toNat:Int)),(16,I i)]) (λi V=>((ri 3 cr ((cK (dY s k)).length) co V)::R)) (λi V=>(0<=i)/\(i<=(dY s k).length)/\(V.length=(dY s k).length)/\(∀j:Int,0<=j->j<(dY s k).length->rd V j=if j<i then ps (dY s k) (j+1) else ps (dY s k) j)) (λi V=>((dY s k).length-i).toNat) ?_ ?_
 ·exact⟨0,cK (dY s k),⟨G,G,(by rw[eQ]),(λj h1 h2=>by rw[df G];exact nN h1 h2)⟩,KP⟩
 intro i V ⟨bb,ij,kd,hV⟩;refine wq<|wL Z Z<|aA<|aD<|bA Z (λbc=> ?_) (λbc=> ?_)
 ·have pj:=vM (mE s k) i;have rr:=vM (mE s k) (i+1);rw[Is] at pj rr;have hvi:=hV i bb G;rw[df G] at hvi;have Py:=mP (L:=dY s k) bb G;refine aH<|aD<|aI<|wq<|wm Z<|wy (aG aa sz3 Z Z (RdC.right Oy [_]))<|wy (aW au Z Z (RdC.right Oy [_]))<|wg Z<|wn Z<|aJ<|wm Z<|wm Z<|wy (aG aa sz3 Z Z (rdr 0 Z)) ?_;refine wy (aW au Z Z (rdr 0 Z))<|wm Z<|wA Z Z<|wy (aG aa sz3 Z Z (rdr 0 Z))<|bY (bG 0 Z sz3 Z Z) ?_;rintro _ _ rfl;refine aA<|aJ<|wA Z Z<|wm Z<|aA ?_;exact⟨i+1,upd V i ((rd V i)+(rd (dY s k) i)),⟨G,G,(by rw[aT];exact kd),(aMc bb G kd hV)⟩,G,KP⟩
 ·refine aS<|wq<|wm Z<|wn Z ?_;have Zj:k.toNat=(dY s k).length:=ki.symm;obtain rfl:V=qV (dY s k):=aMd kd λj h1 h2=>by rw[hV j h1 h2,di G,di G]
  refine bT ?_;rw[eQ,ki];exact⟨_,Z,_,_,Z,Z⟩
theorem lgC {s D:AH} {i:Int} (Mh:rd D i= -1\/(0<=rd D i/\rd D i<s.length)):(0<rd D i/\ ¬rdb (smL s) (rd D i-1)=true)↔(0<rd D i/\smB s (rd D i-1)=false):=by
 constructor
 ·rintro ⟨h1,h2⟩;rw[mO G G] at h2;exact⟨h1,by simpa using h2⟩
 ·rintro ⟨h1,h2⟩;rw[mO G G,h2];exact⟨h1,cD⟩
theorem smC {s D:AH} {i:Int} (Mh:rd D i= -1\/(0<=rd D i/\rd D i<s.length)):(0<rd D i/\rdb (smL s) (rd D i-1)=true)↔(0<rd D i/\smB s (rd D i-1)=true):=by
 constructor
 ·rintro ⟨h1,h2⟩;rw[mO G G] at h2;exact⟨h1,h2⟩
 ·rintro ⟨h1,h2⟩;rw[mO G G,h2];exact⟨h1,Z⟩
section
variable {s l D H:AH} {k i:Int} (hk:0<=k) (hs: ∀x∈s,0<=x/\x<k) (hp:l.Perm (bJ s)) (hn:0<s.length)
include hk hs hp hn
theorem bEu (i0:0<=i) (hi:i<s.length) (hD:D=(itL s k l i.toNat).1) (hH:H=(itL s k l i.toNat).2):(rd D i= -1\/(0<=rd D i/\rd D i<s.length))/\(D.length=s.length/\H.length=k.toNat):=by
 have h:=fLe hk hs hp hn (i:=i.toNat) G hD hH;rwa[lc i0] at h
theorem fLZ (i0:0<=i) (hi:i<s.length) (hD:D=(itL s k l i.toNat).1) (hH:H=(itL s k l i.toNat).2) (hc:0<rd D i/\ ¬rdb (smL s) (rd D i-1)=true):
  rd D i<s.length/\(0<=rd s (rd D i-1)/\rd s (rd D i-1)<k)/\(0<=rd H (rd s (rd D i-1))/\rd H (rd s (rd D i-1))<s.length)/\upd D (rd H (rd s (rd D i-1))) (rd D i-1)=(itL s k l (i+1).toNat).1/\upd H (rd s (rd D i-1)) (rd H (rd s (rd D i-1))+1)=(itL s k l (i+1).toNat).2:=by
 have he:=(bEu hk hs hp hn i0 hi hD hH).1;have h:=fL hk hs hp hn (i:=i.toNat) G hD hH (by rw[lc i0];exact(lgC he).1 hc);rw[lc i0] at h;rwa[show(i+1).toNat=i.toNat+1 by omega]
theorem bKp (i0:0<=i) (hi:i<s.length) (hD:D=(itL s k l i.toNat).1) (hH:H=(itL s k l i.toNat).2) (hc: ¬(0<rd D i/\ ¬rdb (smL s) (rd D i-1)=true)):D=(itL s k l (i+1).toNat).1/\H=(itL s k l (i+1).toNat).2:=by
 have he:=(bEu hk hs hp hn i0 hi hD hH).1;have h:=fLs (i:=i.toNat) hD hH (by rw[lc i0];exact λh=>hc ((lgC he).2 h));rwa[show(i+1).toNat=i.toNat+1 by omega]
theorem bEt (i0:0<=i) (hi:i<s.length) (hD:D=(itS s k l (s.length-1-i).toNat).1) (hH:H=(itS s k l (s.length-1-i).toNat).2):(rd D i= -1\/(0<=rd D i/\rd D i<s.length))/\(D.length=s.length/\H.length=k.toNat):=
 fSe hk hs hp hn (m:=((s.length:Int)-1-i).toNat) G G hD hH
theorem fSZ (i0:0<=i) (hi:i<s.length) (hD:D=(itS s k l (s.length-1-i).toNat).1) (hH:H=(itS s k l (s.length-1-i).toNat).2) (hc:0<rd D i/\rdb (smL s) (rd D i-1)=true):
  rd D i<s.length/\(0<=rd s (rd D i-1)/\rd s (rd D i-1)<k)/\(0<=rd H (rd s (rd D i-1))-1/\rd H (rd s (rd D i-1))-1<s.length)/\upd D (rd H (rd s (rd D i-1))-1) (rd D i-1)=(itS s k l (s.length-1-(i-1)).toNat).1/\upd H (rd s (rd D i-1)) (rd H (rd s (rd D i-1))-1)=(itS s k l (s.length-1-(i-1)).toNat).2:=by
 have he:=(bEt hk hs hp hn i0 hi hD hH).1;have h:=fS hk hs hp hn (m:=((s.length:Int)-1-i).toNat) G G hD hH ((smC he).1 hc);rwa[show((s.length:Int)-1-(i-1)).toNat=((s.length:Int)-1-i).toNat+1 by omega]
theorem bKo (i0:0<=i) (hi:i<s.length) (hD:D=(itS s k l (s.length-1-i).toNat).1) (hH:H=(itS s k l (s.length-1-i).toNat).2) (hc: ¬(0<rd D i/\rdb (smL s) (rd D i-1)=true)):D=(itS s k l (s.length-1-(i-1)).toNat).1/\H=(itS s k l (s.length-1-(i-1)).toNat).2:=by
 have he:=(bEt hk hs hp hn i0 hi hD hH).1;have h:=fSs (m:=((s.length:Int)-1-i).toNat) (i:=i) G hD hH (λh=>hc ((smC he).2 h));rwa[show((s.length:Int)-1-(i-1)).toNat=((s.length:Int)-1-i).toNat+1 by omega]
end
theorem aSk {B:Nat} {w0:World} {R:List Row} {xb:Nat} {dg vb l9 lz:AF} {de vl m7 mc:Nat} {s:AH} {k:Int} {Le:AF} {Kc Lk:Nat} {row E:AH} {j:Int} (kp:RdC B w0 R (GG xb) 1 1 4 [sl dg s.length de,sl vb s.length vl,sl l9 k.toNat m7,sl lz s.length mc]) (ci:RdC B w0 R dg s.length de 1 (ints .i64 s)) (hk:0<=k/\k<=1048576) (hN:s.length<=1000000) (hj:0<=j/\j<s.length) (hc:0<=rd s j/\rd s j<k) (hl:row.length=s.length/\E.length=k.toNat/\Kc=k.toNat) (hv:0<=(rd E (rd s j))-1/\(rd E (rd s j))-1<s.length):
  CT 318 #[PG xb,sl Le Kc Lk,I j] B w0 ((ri 3 lz s.length mc row)::(ri 3 Le Kc Lk E)::R) (λv R'=>v= .tuple #[]/\R'=(ri 3 lz s.length mc (upd row ((rd E (rd s j))-1) j))::(ri 3 Le Kc Lk (upd E (rd s j) ((rd E (rd s j))-1)))::R):=by
 refine fn0 Tryz.func318 Z Z Z ?_;obtain⟨wb,sr,yv⟩:=hl;have he:rd (upd E (rd s j) ((rd E (rd s j))-1)) (rd s j)=(rd E (rd s j))-1:=eT hc.1 G;refine wq<|wm Z<|wm Z<|wy (aF Z)<|wy (yF 0 0 oq iL Z)<|wy (fC (RdC.right kp [_,_]) aa Z Z Z)<|wm Z<|wy (aG aa sz3 Z Z (RdC.right ci [_,_]))<|wy (aW au Z Z (RdC.right ci [_,_]))<|wy (aG aa sz3 Z Z (rdr 1 Z))<|wy (aW au Z Z (rdr 1 Z))<|wS Z Z<|wy (aG aa sz3 Z Z (rdr 1 Z))<|bY (bG 1 Z sz3 Z Z) ?_;rintro _ _ rfl;refine fA (R1:=((ri 3 lz s.length mc row)::(ri 3 Le Kc Lk (upd E (rd s j) ((rd E (rd s j))-1)))::R)) Z<|aA<|bL mixed<|wD 0 Z (aK Z)<|wD 1 Z (aF Z)<|wD 2 Z (yF 3 3 oq iL Z)<|wD 3 Z (fC (RdC.right kp [_,_]) aa Z Z Z)<|wD 4 Z (aK Z)<|wD 5 Z (aK Z)<|wD 6 Z (aF Z)<|wD 7 Z (yF 0 0 oq iL Z)<|wD 8 Z (fC (RdC.right kp [_,_]) aa Z Z Z)<|wD 9 Z (aK Z)<|wD 10 Z (aG aa sz3 Z Z (RdC.right ci [_,_]))<|wD 11 Z (aW au Z Z (RdC.right ci [_,_])) ?_;refine wD 12 Z (aG aa sz3 Z Z (rdr 1 Z))<|wD 13 Z (aW au Z Z (rdr 1 Z))<|wD 14 Z (aK Z)<|wD 15 Z (aG aa sz3 Z Z (rdr 0 Z))<|qG 16 Z cA (bG 0 Z sz3 Z Z) ?_;rintro _ _ rfl;refine⟨.inl cA,?_⟩;refine mK (R1:=((ri 3 lz s.length mc (upd row (rd (upd E (rd s j) ((rd E (rd s j))-1)) (rd s j)) j))::(ri 3 Le Kc Lk (upd E (rd s j) ((rd E (rd s j))-1)))::R)) Z<|wN ?_;exact⟨Z,by rw[he]⟩
theorem aGs {B:Nat} {w0:World} {R:List Row} {xb:Nat} {dg vb l9 lz:AF} {de vl m7 mc:Nat} {s:AH} {k:Int} {Le:AF} {Kc Lk:Nat} {row E:AH} {j:Int} (kp:RdC B w0 R (GG xb) 1 1 4 [sl dg s.length de,sl vb s.length vl,sl l9 k.toNat m7,sl lz s.length mc]) (ci:RdC B w0 R dg s.length de 1 (ints .i64 s)) (hk:0<=k/\k<=1048576) (hN:s.length<=1000000) (hj:0<=j/\j<s.length) (hc:0<=rd s j/\rd s j<k) (hl:row.length=s.length/\E.length=k.toNat/\Kc=k.toNat) (hv:0<=rd E (rd s j)/\rd E (rd s j)<s.length):
  CT 347 #[PG xb,sl Le Kc Lk,I j] B w0 ((ri 3 lz s.length mc row)::(ri 3 Le Kc Lk E)::R) (λv R'=>v= .tuple #[]/\R'=(ri 3 lz s.length mc (upd row (rd E (rd s j)) j))::(ri 3 Le Kc Lk (upd E (rd s j) ((rd E (rd s j))+1)))::R):=by
 refine fn0 Tryz.func347 Z Z Z ?_;obtain⟨wb,sr,yv⟩:=hl;refine aD<|bL mixed<|wD 0 Z (aK Z)<|wD 1 Z (aF Z)<|wD 2 Z (yF 3 3 oq iL Z)<|wD 3 Z (fC (RdC.right kp [_,_]) aa Z Z Z)<|wD 4 Z (aK Z)<|wD 5 Z (aK Z)<|wD 6 Z (aF Z)<|wD 7 Z (yF 0 0 oq iL Z)<|wD 8 Z (fC (RdC.right kp [_,_]) aa Z Z Z)<|wD 9 Z (aK Z)<|wD 10 Z (aG aa sz3 Z Z (RdC.right ci [_,_]))<|wD 11 Z (aW au Z Z (RdC.right ci [_,_]))<|wD 12 Z (aG aa sz3 Z Z (rdr 1 Z)) ?_;refine wD 13 Z (aW au Z Z (rdr 1 Z))<|wD 14 Z (aK Z)<|wD 15 Z (aG aa sz3 Z Z (rdr 0 Z))<|qG 16 Z cA (bG 0 Z sz3 Z Z) ?_;rintro _ _ rfl;refine⟨.inl cA,?_⟩;refine wN<|aJ<|wm Z<|wm Z<|wy (aF Z)<|wy (yF 0 0 oq iL Z)<|wy (fC (RdC.right kp [_,_]) aa Z Z Z)<|wm Z<|wy (aG aa sz3 Z Z (RdC.right ci [_,_]))<|wy (aW au Z Z (RdC.right ci [_,_]))<|wy (aG aa sz3 Z Z (rdr 1 Z))<|wy (aW au Z Z (rdr 1 Z))<|wA Z Z<|wy (aG aa sz3 Z Z (rdr 1 Z))<|bY (bG 1 Z sz3 Z Z) ?_;rintro _ _ rfl;refine aA ?_;exact⟨Z,Z⟩
theorem aSl {B:Nat} {w0:World} {R:List Row} {xb:Nat} {dg vb l9 lz:AF} {de vl m7 mc:Nat} {s l:AH} {k:Int} {row:AH} (kp:RdC B w0 R (GG xb) 1 1 4 [sl dg s.length de,sl vb s.length vl,sl l9 k.toNat m7,sl lz s.length mc]) (ci:RdC B w0 R dg s.length de 1 (ints .i64 s)) (yq:RdC B w0 R vb s.length vl 1 (bools (smL s))) (Oy:RdC B w0 R l9 k.toNat m7 1 (ints .i64 (dY s k))) (hk:0<=k/\k<=1048576) (hs: ∀x∈s,0<=x/\x<k) (hN:s.length<=1000000) (hp:l.Perm (bJ s)) (hn:0<s.length) (fm:row=(itF s k l).1):
  CT 319 #[PG xb] B w0 ((ri 3 lz s.length mc row)::R) (λv R'=>v= .tuple #[]/\R'=(ri 3 lz s.length mc ((itL s k l s.length).1))::R):=by
 refine fn0 Tryz.func319 Z Z Z ?_;have ki:(dY s k).length=k.toNat:=dV _ _;have Is:(dY s k).sum=s.length:=aHz hk.1 hs;have Ls:(cK (dY s k)).length=k.toNat:=by rw[eQ,ki]
 obtain⟨f1,f2,f3,f4,f5,f6⟩:=fL0 hk.1 hs hp hn fm (rfl:cK (dY s k)=_);refine wq<|wm Z<|wy (aF Z)<|wy (yF 2 2 oq iL Z)<|wy (fC (RdC.right kp [_]) aa Z Z Z)<|wa (aC aHm Z (Ct.fresh (λw hw=>xA ((RdC.right Oy [_]) w hw) (mE _ _) (by rw[Is];omega) (by rw[ki];omega)))) ?_;rintro _ _⟨_,rfl,cr,co,rfl,rfl⟩;refine wn Z<|wq<|wm Z<|wm Z<|wm Z<|wy (aF Z)<|wy (yF 0 0 oq iL Z)<|wy (fC (RdC.right kp [_,_]) aa Z Z Z)<|wy (aO aa Z)<|wS Z Z<|bR (R1:=((ri 3 lz s.length mc row)::(ri 3 cr ((cK (dY s k)).length) co (cK (dY s k)))::R)) (Sub.refl _) (λ_ h=>h.selR (F:=[_,_]) (F':=[_,_]) [1,0] cC Z)<|wa (aC bBv Z (aGs (row:=row) (E:=(cK (dY s k))) (j:=((s.length:Int)-1)) (RdC.right kp []) (RdC.right ci []) hk hN ⟨G,G⟩ f1 ⟨f3.1,f3.2,by rw[eQ,ki]⟩ f2)) ?_;rintro _ _⟨rfl,rfl⟩;refine aA<|wq<|wm Z<|wy (aF Z)<|wy (yF 3 3 oq iL Z)<|wy (fC (RdC.right kp [_,_]) aa Z Z Z)<|wy (aO aa Z)<|wm Z<|aA<|aI ?_;refine gW (λ(i:Int) (D:AH) (H:AH)=>[(0,PG xb),(2,sl cr ((cK (dY s k)).length) co),(23,I (s.length:Int)),(24,I i)]) (λi D H=>((ri 3 lz s.length mc D)::(ri 3 cr ((cK (dY s k)).length) co H)::R)) (λi D H=>(0<=i)/\(i<=s.length)/\(D=(itL s k l i.toNat).1)/\(H=(itL s k l i.toNat).2)) (λi D H=>(s.length-i).toNat) ?_ ?_
 ·exact⟨0,upd row (rd (cK (dY s k)) (rd s ((s.length:Int)-1))) ((s.length:Int)-1),upd (cK (dY s k)) (rd s ((s.length:Int)-1)) ((rd (cK (dY s k)) (rd s ((s.length:Int)-1)))+1),⟨G,G,(f4),(f5)⟩,KP⟩
 intro i D H ⟨bb,ij,hD,hH⟩;refine wq<|wL Z Z<|aA<|aD<|bA Z (λbc=> ?_) (λbc=> ?_)
 ·have hf:=bEu hk.1 hs hp hn bb G hD hH;have Wg:=hf.1;refine aH<|aD<|aI<|wq<|wm Z<|wn Z<|wq<|wm Z<|wy (aF Z)<|wy (yF 3 3 oq iL Z)<|wy (fC (RdC.right kp [_,_]) aa Z Z Z)<|wm Z ?_;refine wy (aG aa sz3 Z Z (rdr 0 Z))<|wy (aW au Z Z (rdr 0 Z))<|wn Z<|wq<|wm Z<|wy (dN Z Z)<|wm Z<|dD 10 [(0,PG xb),(2,sl cr ((cK (dY s k)).length) co),(4,I (rd D i)),(23,I (s.length:Int)),(24,I i),(46, .bool (decide ((0<(rd D i))/\(¬(rdb (smL s) ((rd D i)-1)=true)))))] ((ri 3 lz s.length mc D)::(ri 3 cr ((cK (dY s k)).length) co H)::R) ?_ ?_
  ·refine bP 36 Z (λda=> ?_) (λda=> ?_)
   ·refine aB Z Z<|wm Z<|aB Z Z<|wy (aF Z)<|aB Z Z<|wy (yF 1 1 oq aPa Z)<|aB Z Z<|wy (fC (RdC.right kp [_,_]) oz Z Z Z)<|aB Z Z<|wm Z<|aB Z Z<|wS Z Z<|aB Z Z<|wy (aG oz sz4 Z Z (RdC.right yq [_,_]))<|aB Z Z ?_;refine wy (EO Bn Z Z (RdC.right yq [_,_]))<|aB Z Z<|wy (uU Z)<|wy (aQ Z Z)<|aA ?_;exact KP
   ·refine aM Z Z Z Z<|aM Z Z Z Z<|aM Z Z Z Z<|aM Z Z Z Z<|aM Z Z Z Z<|aM Z Z Z Z<|aM Z Z Z Z<|aM Z Z Z Z<|aM Z Z Z Z<|wy (aP Z Z)<|aA ?_;exact KP
  refine aA<|bA Z (λfk=> ?_) (λfk=> ?_)
  ·obtain ⟨g1,g2,g3,g4,g5⟩:=fLZ hk.1 hs hp hn bb G hD hH fk;refine aJ<|wm Z<|wm Z<|wm Z<|wS Z Z<|wa (aC bBv Z (aGs (row:=D) (E:=H) (j:=((rd D i)-1)) (RdC.right kp []) (RdC.right ci []) hk hN ⟨G,G⟩ g2 ⟨hf.2.1,hf.2.2,by rw[eQ,ki]⟩ g3)) ?_;rintro _ _⟨rfl,rfl⟩;refine aA<|aJ<|wA Z Z<|wm Z<|aA ?_;exact⟨i+1,upd D (rd H (rd s ((rd D i)-1))) ((rd D i)-1),upd H (rd s ((rd D i)-1)) ((rd H (rd s ((rd D i)-1)))+1),⟨G,G,(g4),(g5)⟩,G,KP⟩
  ·have g4:=bKp hk.1 hs hp hn bb G hD hH fk;refine aH<|aJ<|wA Z Z<|wm Z<|aA ?_;exact⟨i+1,D,H,⟨G,G,(g4.1),(g4.2)⟩,G,KP⟩
 ·refine aFc (R1:=((ri 3 lz s.length mc D)::R)) (Sub.refl _) (λ_ h=>h.selR (F:=[_,_]) (F':=[_]) [0] cC Z) ?_;have Qv:i.toNat=s.length:=G
  rw[Qv] at hD;subst hD;refine aS ?_;exact⟨Z,Z⟩
theorem bJz {s D:AH} {q:Int} (Mh:rd D q= -1\/(0<=rd D q/\rd D q<s.length)):(0<=rd D q/\rdb (smL s) (rd D q)=true)↔(0<=rd D q/\smB s (rd D q)=true):=by
 constructor<;>rintro⟨h1,h2⟩<;>refine⟨h1,?_⟩
 ·rwa[mO h1 G] at h2
 ·rwa[mO h1 G]
theorem bAh {s l D:AH} {k q:Int} (hk:0<=k) (hs: ∀x∈s,0<=x/\x<k) (hp:l.Perm (bJ s)) (hn:0<s.length) (q0:0<=q) (hq:q<s.length) (hD:D=qY s (itL s k l s.length).1 q):rd D q= -1\/(0<=rd D q/\rd D q<s.length):=by
 rw[hD,SY q0 (lq _) q0 (by rw[IB hk hs hp hn];omega)];exact bAg hk hs hp hn q0 hq
theorem aUy {s l D:AH} {k q:Int} (hk:0<=k) (hs: ∀x∈s,0<=x/\x<k) (hp:l.Perm (bJ s)) (hn:0<s.length) (hq:(s.length:Int)<=q) (hD:D=qY s (itL s k l s.length).1 q):D=(itS s k l 0).1:=by
 rw[hD,aUz (by rw[IB hk hs hp hn];exact hq)];rfl
theorem aJl {B:Nat} {w0:World} {R:List Row} {xb:Nat} {dg vb l9 lz:AF} {de vl m7 mc:Nat} {s l:AH} {k:Int} (kp:RdC B w0 R (GG xb) 1 1 4 [sl dg s.length de,sl vb s.length vl,sl l9 k.toNat m7,sl lz s.length mc]) (ci:RdC B w0 R dg s.length de 1 (ints .i64 s)) (yq:RdC B w0 R vb s.length vl 1 (bools (smL s))) (Oy:RdC B w0 R l9 k.toNat m7 1 (ints .i64 (dY s k))) (hk:0<=k/\k<=1048576) (hs: ∀x∈s,0<=x/\x<k) (hN:s.length<=1000000) (hp:l.Perm (bJ s)) (hn:0<s.length):
  CT 320 #[PG xb] B w0 ((ri 3 lz s.length mc ((itL s k l s.length).1))::R) (λv R'=>v= .tuple #[]/\R'=(ri 3 lz s.length mc (qU s k l))::R):=by
 refine fn0 Tryz.func320 Z Z Z ?_;have u4:=IB hk.1 hs hp hn;refine aD<|wq<|wm Z<|wy (aF Z)<|wy (yF 3 3 oq iL Z)<|wy (fC (RdC.right kp [_]) aa Z Z Z)<|wy (aO aa Z)<|wm Z<|aA<|aI ?_;refine dS (λ(q:Int) (D:AH)=>[(0,PG xb),(10,sl lz s.length mc),(11,I (s.length:Int)),(12,I q)]) (λq D=>((ri 3 lz s.length mc D)::R)) (λq D=>(0<=q)/\(q<=s.length)/\(D=qY s (itL s k l s.length).1 q)) (λq D=>(s.length-q).toNat) ?_ ?_
 ·exact⟨0,(itL s k l s.length).1,⟨G,G,(aMy.symm)⟩,KP⟩
 intro q D ⟨io,i8,hD⟩;refine wq<|wL Z Z<|aA<|aD<|bA Z (λbc=> ?_) (λbc=> ?_)
 ·have Wg:=bAh hk.1 hs hp hn io G hD;have hDl:D.length=s.length:=by rw[hD,ZL,IB hk.1 hs hp hn]
  refine aH<|aD<|aI<|wq<|wm Z<|wy (aG aa sz3 Z Z (rdr 0 Z))<|wy (aW au Z Z (rdr 0 Z))<|wg Z<|wn Z<|wq<|wm Z<|wy (jN Z Z) ?_;refine wm Z<|dD 8 [(0,PG xb),(2,I q),(10,sl lz s.length mc),(11,I (s.length:Int)),(12,I q),(27, .bool (decide ((0<=(rd D q))/\(rdb (smL s) (rd D q)=true))))] ((ri 3 lz s.length mc D)::R) ?_ ?_
  ·refine bP 19 Z (λda=> ?_) (λda=> ?_)
   ·refine aB Z Z<|wm Z<|aB Z Z<|wy (aF Z)<|aB Z Z<|wy (yF 1 1 oq aPa Z)<|aB Z Z<|wy (fC (RdC.right kp [_]) oz Z Z Z)<|aB Z Z<|wm Z<|aB Z Z<|wy (aG oz sz4 Z Z (RdC.right yq [_]))<|aB Z Z<|wy (EO Bn Z Z (RdC.right yq [_]))<|wy (aQ Z Z) ?_;refine aA ?_;exact KP
   ·refine aM Z Z Z Z<|aM Z Z Z Z<|aM Z Z Z Z<|aM Z Z Z Z<|aM Z Z Z Z<|aM Z Z Z Z<|aM Z Z Z Z<|wy (aP Z Z)<|aA ?_;exact KP
  refine aA<|bA Z (λfk=> ?_) (λfk=> ?_)
  ·refine aJ<|wm Z<|wy (aF Z)<|wy (yF 3 3 oq iL Z)<|wy (fC (RdC.right kp [_]) aa Z Z Z)<|wm Z<|wy (aG aa sz3 Z Z (rdr 0 Z))<|bY (bG 0 Z sz3 Z Z) ?_;rintro _ _ rfl;refine aA<|aJ<|wA Z Z<|wm Z<|aA ?_;exact⟨q+1,upd D q (-1),⟨G,G,(by rw[hD];exact bAf io G (by rw[<-hD];exact(bJz Wg).1 fk))⟩,G,KP⟩
  ·refine aH<|aJ<|wA Z Z<|wm Z<|aA ?_;exact⟨q+1,D,⟨G,G,(by rw[hD];exact bFg io G (by rw[<-hD];exact λh=>fk ((bJz Wg).2 h)))⟩,G,KP⟩
 ·have hD0:=aUy hk.1 hs hp hn G hD;refine aS<|wq<|wm Z<|wa (aC bBy Z (aHf (RdC.right kp [_]) (RdC.right Oy [_]) hk hs hN)) ?_;rintro _ _⟨cr,co,rfl,rfl⟩;refine wn Z<|wq<|wm Z<|wy (aF Z)<|wy (yF 3 3 oq iL Z)<|wy (fC (RdC.right kp [_,_]) aa Z Z Z)<|wy (aO aa Z)<|wS Z Z<|wn Z<|aI ?_;refine gW (λ(i:Int) (D:AH) (H:AH)=>[(0,PG xb),(4,sl cr k.toNat co),(5,I i)]) (λi D H=>((ri 3 cr k.toNat co H)::(ri 3 lz s.length mc D)::R)) (λi D H=>(-1<=i)/\(i<s.length)/\(D=(itS s k l (s.length-1-i).toNat).1)/\(H=(itS s k l (s.length-1-i).toNat).2)) (λi D H=>(i+1).toNat) ?_ ?_
  ·exact⟨(s.length:Int)-1,D,qV (dY s k),⟨G,G,(by rw[show((s.length:Int)-1-((s.length:Int)-1)).toNat=0 by omega];exact hD0),(by rw[show((s.length:Int)-1-((s.length:Int)-1)).toNat=0 by omega];rfl)⟩,KP⟩
  intro i D H ⟨bb,ij,hD,hH⟩;refine aD<|wq<|wm Z<|wy (jN Z Z)<|aA<|bA Z (λiu=> ?_) (λiu=> ?_)
  ·have hf:=bEt hk.1 hs hp hn G G hD hH;have Wg:=hf.1;refine aH<|aD<|aI<|wq<|wm Z<|wy (aF Z)<|wy (yF 3 3 oq iL Z)<|wy (fC (RdC.right kp [_,_]) aa Z Z Z)<|wm Z<|wy (aG aa sz3 Z Z (rdr 1 Z))<|wy (aW au Z Z (rdr 1 Z))<|wn Z<|aD ?_;refine aJ<|wm Z<|wy (dN Z Z)<|wm Z<|dD 9 [(0,PG xb),(4,sl cr k.toNat co),(5,I i),(6,I (rd D i)),(65, .bool (decide ((0<(rd D i))/\(rdb (smL s) ((rd D i)-1)=true))))] ((ri 3 cr k.toNat co H)::(ri 3 lz s.length mc D)::R) ?_ ?_
   ·refine bP 56 Z (λkt=> ?_) (λkt=> ?_)
    ·refine aB Z Z<|wm Z<|aB Z Z<|wy (aF Z)<|aB Z Z<|wy (yF 1 1 oq aPa Z)<|aB Z Z<|wy (fC (RdC.right kp [_,_]) oz Z Z Z)<|aB Z Z<|wm Z<|aB Z Z<|wS Z Z<|aB Z Z<|wy (aG oz sz4 Z Z (RdC.right yq [_,_]))<|aB Z Z ?_;refine wy (EO Bn Z Z (RdC.right yq [_,_]))<|wy (aQ Z Z)<|aA ?_;exact KP
    ·refine aM Z Z Z Z<|aM Z Z Z Z<|aM Z Z Z Z<|aM Z Z Z Z<|aM Z Z Z Z<|aM Z Z Z Z<|aM Z Z Z Z<|aM Z Z Z Z<|wy (aP Z Z)<|aA ?_;exact KP
   refine aA<|bA Z (λxr=> ?_) (λxr=> ?_)
   ·obtain ⟨g1,g2,g3,g4,g5⟩:=fSZ hk.1 hs hp hn G G hD hH xr;refine aJ<|wm Z<|wm Z<|wm Z<|wS Z Z<|bR (R1:=((ri 3 lz s.length mc D)::(ri 3 cr k.toNat co H)::R)) (Sub.refl _) (λ_ h=>h.selR (F:=[_,_]) (F':=[_,_]) [1,0] cC Z)<|wa (aC bBx Z (aSk (row:=D) (E:=H) (j:=((rd D i)-1)) (RdC.right kp []) (RdC.right ci []) hk hN ⟨G,G⟩ g2 ⟨hf.2.1,hf.2.2,rfl⟩ g3)) ?_;rintro _ _⟨rfl,rfl⟩;refine aA<|aJ<|wm Z<|wS Z Z<|wn Z ?_;exact⟨i-1,upd D ((rd H (rd s ((rd D i)-1)))-1) ((rd D i)-1),upd H (rd s ((rd D i)-1)) ((rd H (rd s ((rd D i)-1)))-1),⟨G,G,(g4),(g5)⟩,G,SA,λ_ h=>h.selR (F:=[_,_]) (F':=[_,_]) [1,0] cC Z⟩
   ·have g4:=bKo hk.1 hs hp hn G G hD hH xr;refine aH<|aJ<|wm Z<|wS Z Z<|wn Z ?_;exact⟨i-1,D,H,⟨G,G,(g4.1),(g4.2)⟩,G,KP⟩
  ·refine aFc (R1:=((ri 3 lz s.length mc D)::R)) (Sub.refl _) (λ_ h=>h.selR (F:=[_,_]) (F':=[_]) [1] cC Z) ?_;have Qv:((s.length:Int)-1-i).toNat=s.length:=G
   rw[Qv] at hD;subst hD;refine aS ?_;exact⟨Z,Z⟩
theorem XW (s:AH):(bJ s).Pairwise (· <= ·):=by
 unfold bJ iota;exact((ib.2 (List.pairwise_lt_range.imp λh=>G)).sublist ui)
theorem aJj {s l:AH}:kV l=bJ s↔l.Perm (bJ s):=by
 constructor
 ·intro h;rw[<-h];exact(lN l).symm
 ·intro h;exact((lN l).trans h).eq_of_pairwise (λa b _ _ h1 h2=>Int.le_antisymm h1 h2) (zT l) (XW s)
theorem fFZ {s l D H:AH} {k:Int} (hk:0<=k) (hs: ∀x∈s,0<=x/\x<k) (hp:l.Perm (bJ s)) {m:Nat} (hm:m<l.length) (hr:D=(itF s k (l.drop (l.length-m))).1) (hE:H=(itF s k (l.drop (l.length-m))).2):
  (0<=rd l ((l.length-1-m:Nat):Int)/\rd l ((l.length-1-m:Nat):Int)<s.length)/\(0<=rd s (rd l ((l.length-1-m:Nat):Int))/\rd s (rd l ((l.length-1-m:Nat):Int))<k)/\(0<=rd H (rd s (rd l ((l.length-1-m:Nat):Int)))-1/\rd H (rd s (rd l ((l.length-1-m:Nat):Int)))-1<s.length)/\(D.length=s.length/\H.length=k.toNat)/\
  upd D (rd H (rd s (rd l ((l.length-1-m:Nat):Int)))-1) (rd l ((l.length-1-m:Nat):Int))=(itF s k (l.drop (l.length-(m+1)))).1/\upd H (rd s (rd l ((l.length-1-m:Nat):Int))) (rd H (rd s (rd l ((l.length-1-m:Nat):Int)))-1)=(itF s k (l.drop (l.length-(m+1)))).2:=by
 have e:l.length-1-m+1=l.length-m:=G
 have h:=fF (row:=D) (E:=H) hk hs hp (m:=l.length-1-m) G (by rw[e];exact hr) (by rw[e];exact hE);rwa[show l.length-(m+1)=l.length-1-m by omega]
theorem aDb {s l:AH} (hp:l.Perm (bJ s)):l.length<=s.length:=by rw[hp.length_eq];exact LU
theorem aFk {w:World} {dg:AF} {gr de:Nat} {s:AH} {k:Int} {ln:AF} {py ml:Nat} {l:AH} (ci:Rd w dg gr de 1 (ints .i64 s)) (lj:Rd w ln py ml 1 (ints .i64 l)) (dr:(0<=k/\k<=1048576)/\ ∀x∈s,0<=x/\x<k) (hp:l.Perm (bJ s)) (hN:s.length<=1000000):
  CF 291 #[sl dg gr de,I k,sl ln py ml] w (λv R'=> ∃A c,v= .tuple #[sl A s.length c,bt]/\R'=[(ri 3 A s.length c (qU s k l))]):=by
 obtain rfl:=ci.lenI;obtain rfl:=lj.lenI;refine fnV Tryz.func291 Z Z ?_;have d8:=ci.max;have Vh:=lj.max;have hk:=dr.1;have hs:=dr.2;have ua:=aDb hp;have ki:(dY s k).length=k.toNat:=dV _ _;refine dL ?_;refine aJ<|wg Z<|wn Z ?_;refine dL ?_;refine aJ<|wm Z<|wm Z<|wa (aC YQ Z (Ct.fresh (λw hw=>oU ((ci.c _) w hw) cE))) ?_;rintro _ _⟨_,rfl,cr,co,rfl,rfl⟩;refine wm Z<|wX Z Z<|wX Z Z<|wg Z<|wn Z ?_;refine dL ?_;refine aJ<|wm Z<|wa (aC bBz Z (OG)) ?_;rintro _ _⟨ew,rfl,rfl⟩;refine wa (aC bCa Z (Ct.fresh (λw hw=>OW ((lj.c _) w hw) ((rdr 0 Z) w hw) G))) ?_;rintro _ _⟨_,rfl,fz,mj,rfl,rfl⟩;refine wn Z ?_;refine dL ?_;refine wq<|wm Z<|wy (dH Z)<|wm Z<|aB Z Z<|wm Z<|aB Z Z<|wm Z<|aB Z Z<|wa (aC bCe Z (Ct.fresh (λw hw=>XY ((ci.c _) w hw) cE))) ?_;rintro _ _⟨_,rfl,jj,na,rfl,rfl⟩;refine aB Z Z<|wa (aC bGz Z (Ct.quiet (λw hw=>QK ((rdr 1 Z) w hw) ((rdr 0 Z) w hw) (by rw[(lN l).length_eq];omega)))) ?_;rintro _ _⟨rfl,rfl⟩;refine oG 30 Z (aJj.2 hp)<|aB Z Z<|wy (dH Z)<|wy (aP Z Z)<|aA<|aN Z<|aH ?_;refine dL ?_;refine wq<|wm Z<|wy (aO aa Z)<|wy (gT Z Z)<|aA<|bA Z (λbc=> ?_) (λbc=> ?_)
 ·refine wq<|wa (bQ .i64 [] aa zs3 Z Z Z) ?_;rintro _ _⟨n5,rfl,rfl⟩;refine wg Z<|wn Z<|aX [0] 99 cC Z ?_;refine aLx Z Gd.refl ⟨_,_,Z,Z,?_⟩;have e:s=[]:=dx G;subst e;rw[XT hp];exact⟨_,_,Z,Z⟩
 ·have hn:0<s.length:=G
  refine aH ?_;refine dL ?_;refine aJ<|wm Z<|wm Z<|wa (aC bCb Z (Ct.fresh (λw hw=>WC ((ci.c _) w hw) cE))) ?_;rintro _ _⟨_,rfl,fa,fb,rfl,rfl⟩;refine wm Z<|wa (bQ .i64 [-1] aa zs3 Z Z Z) ?_;rintro _ _⟨tj,rfl,rfl⟩;refine wm Z<|wy (aO aa Z)<|wa (aC bHq Z (Ct.fresh (λw hw=>aBv ((rdr 0 Z) w hw) Z Z ⟨G,G⟩))) ?_;rintro _ _⟨_,rfl,gn,go,rfl,rfl⟩;refine wy (gV (v:= .agg #[sl dg s.length de,sl fa s.length fb,sl cr ((k).toNat) co,sl gn s.length go]) Z (λw=>cA))<|wa (dC (sz:=4) rfl rfl) ?_;rintro _ _⟨sf,rfl,rfl⟩;refine wa (eH (sz:=1) bGa Z) ?_;rintro _ _⟨km,rfl,rfl⟩;refine bY (aZ 0 Z Z Z bGn Z Z Z Z (ak Z)) ?_;rintro _ _ rfl;refine aA ?_;refine dL ?_;refine aJ<|wy (yL 0 Ff Z Z Z)<|wa (aC bBy Z (aHf (rdr 1 Z) (rdr 8 Z) hk hs hN)) ?_;rintro _ _⟨gi,gl,rfl,rfl⟩;refine wa (eH (sz:=1) bKf Z) ?_;rintro _ _⟨vn,rfl,rfl⟩;refine bY (aZ 0 Z Z Z iL Z Z Z Z (ak Z)) ?_;rintro _ _ rfl;refine aA ?_;refine ES ?_;refine dL ?_;refine aJ<|wm Z<|wa (aC aUd Z (ZZ)) ?_;rintro _ _⟨zr,rfl,rfl⟩;refine aA ?_;refine rJ ?_;refine aOn Z aTz (zB (A:=ln) (c:=ml) (zs:=l) G) Z (λ_=>Z) Gd.refl (λ(kr:Nat) (D:AH) (H:AH)=>[(rc 52 1 zr [sl ln l.length ml]),(rc 52 1 vn [sl gi k.toNat gl]),(ri 3 gi k.toNat gl H),(rc 350 1 km [PG sf]),(rc 352 4 sf [sl dg s.length de,sl fa s.length fb,sl cr ((k).toNat) co,sl gn s.length go]),(ri 3 gn s.length go D),(ri 3 (GG tj) 1 1 ([-1])),⟨4,1,fa,s.length,fb,bools (smL s),false⟩,(ri 3 jj ((bJ s).length) na (bJ s)),(ri 3 fz ((kV l).length) mj (kV l)),(rc 52 1 ew [sl ln l.length ml]),(ri 3 cr ((k).toNat) co (dY s k))]) (λkr D H=>(D=(itF s k (l.drop (l.length-kr))).1)/\(H=(itF s k (l.drop (l.length-kr))).2)) ?_ ?_ ?_ ?_
  ·exact⟨List.replicate s.length ((-1):Int),qV (dY s k),⟨(by rw[xz,Je];rfl),(by rw[xz,Je];rfl)⟩,λ_ h=>h⟩
  ·intro kr D H w ⟨hD,hH⟩ hw;exact⟨(rdr 0 Z) w hw,(lj.c _) w hw⟩
  ·intro lr kr D H WW2 Kw ⟨hD,hH⟩ Yj;obtain⟨f1,f2,f3,f4,f5,f6⟩:=fFZ hk.1 hs hp Kw hD hH;refine aJ<|wn Z ?_;intro Xf j8;refine aI<|aJ<|wy (yL 3 Ff Z Z Z)<|wy (yL 1 aa Z Z Z)<|wm Z<|bR (R1:=[(ri 3 gn s.length go D),(ri 3 gi k.toNat gl H),(rc 52 1 zr [sl ln l.length ml]),(rc 52 1 vn [sl gi k.toNat gl]),(rc 350 1 km [PG sf]),(rc 352 4 sf [sl dg s.length de,sl fa s.length fb,sl cr ((k).toNat) co,sl gn s.length go]),(ri 3 (GG tj) 1 1 ([-1])),⟨4,1,fa,s.length,fb,bools (smL s),false⟩,(ri 3 jj ((bJ s).length) na (bJ s)),(ri 3 fz ((kV l).length) mj (kV l)),(rc 52 1 ew [sl ln l.length ml]),(ri 3 cr ((k).toNat) co (dY s k))]) (Sub.refl _) (λ_ h=>h.sel [5,2,0,1,3,4,6,7,8,9,10,11] cC Z)<|wa (aC bBx Z (aSk (row:=D) (E:=H) (j:=(rd l ((l.length-1-kr:Nat):Int))) (rdr 3 Z) (ci.cb j8 _) hk hN f1 f2 ⟨f4.1,f4.2,Z⟩ f3)) ?_;rintro _ _⟨rfl,rfl⟩;refine aA ?_;exact⟨upd D ((rd H (rd s (rd l ((l.length-1-kr:Nat):Int))))-1) (rd l ((l.length-1-kr:Nat):Int)),upd H (rd s (rd l ((l.length-1-kr:Nat):Int))) ((rd H (rd s (rd l ((l.length-1-kr:Nat):Int))))-1),⟨(f5),(f6)⟩,λ_=>λ_ h=>h.sel [2,3,1,4,5,0,6,7,8,9,10,11] cC Z⟩
  intro WW25 DW2 D H ⟨hD,hH⟩ Nk So;rw[Dy,List.drop_zero] at hD;refine IV ?_;refine VC ?_;refine v_w ?_;refine wq<|wy (yL 3 Ff Z Z Z)<|bR (R1:=[(ri 3 gn s.length go D),(rc 52 1 zr [sl ln l.length ml]),(rc 52 1 vn [sl gi k.toNat gl]),(ri 3 gi k.toNat gl H),(rc 350 1 km [PG sf]),(rc 352 4 sf [sl dg s.length de,sl fa s.length fb,sl cr ((k).toNat) co,sl gn s.length go]),(ri 3 (GG tj) 1 1 ([-1])),⟨4,1,fa,s.length,fb,bools (smL s),false⟩,(ri 3 jj ((bJ s).length) na (bJ s)),(ri 3 fz ((kV l).length) mj (kV l)),(rc 52 1 ew [sl ln l.length ml]),(ri 3 cr ((k).toNat) co (dY s k))]) (Sub.refl _) (λ_ h=>h.sel [5,0,1,2,3,4,6,7,8,9,10,11] cC Z)<|wa (aC bHp Z (aSl (row:=D) (rdr 4 Z) (ci.cb Nk _) (rdr 6 Z) (rdr 10 Z) hk hs hN hp hn hD)) ?_;rintro _ _⟨rfl,rfl⟩;refine aA<|wq<|wy (yL 4 Ff Z Z Z)<|wa (aC bHo Z (aJl (rdr 4 Z) (ci.cb Nk _) (rdr 6 Z) (rdr 10 Z) hk hs hN hp hn)) ?_;rintro _ _⟨rfl,rfl⟩;refine aA<|wq<|wy (yL 4 Ff Z Z Z)<|wy (aF Z)<|wy (yF 3 3 oq iL Z)<|wy (yL 5 aa Z Z Z)<|wg Z<|wn Z<|aX [0] 99 cC Z ?_;refine aLx Z So ⟨_,_,Z,Z,?_⟩;exact⟨_,_,Z,Z⟩
end Go.Proofs.YtdbebmmhdefgdaaGreat
namespace Go.Eng
open Go Go.RowKit
section
variable {P:Program} {n:Nd} {B:Nat} {w0:World} {ops:Array Oper} {K:Env->List Row->Prop} {L:Env} {R Rc:List Row} {op:Op} {ty:TypeId} {pos:String} {nj:Array Edge}
def WDc (P:Program) (n:Nd) (B:Nat) (w0:World) (ops:Array Oper) (K:Env->List Row->Prop) (aq:Nat) (ab:AI) (L:Env) (R Rc:List Row):Prop:=
 ∀a w (Q:Exit->Act->World->Prop),Sat n L a->Hp B w0 w R->(∀w,Hp B w0 w R->Hp B w0 w Rc)->(∀c a w,¬Q (.panic c) a w)->(∀a' w' L' R',Sat n L' a'->Hp B w0 w' R'->K L' R'->Q .normal a' w')->uW P ops Q aq (λw=>Hp B w0 w Rc) ab a w
def aAe (P:Program) (n:Nd) (B:Nat) (w0:World) (ops:Array Oper) (K:Env->List Row->Prop) (aq:Nat) (ab:AI) (L:Env) (R Rc:List Row) (i:Nat):Prop:=
 ∀a w (Q:Exit->Act->World->Prop),Sat n L a->Hp B w0 w R->(∀w,Hp B w0 w R->Hp B w0 w Rc)->(∀c a w,¬Q (.panic c) a w)->(∀a' w' L' R',Sat n L' a'->Hp B w0 w' R'->K L' R'->Q .normal a' w')->
  wpOp P ops Q i (λa' w'=> ∃S':World->Prop,S' w'/\(MX ops ab i=true\/ ∀x,S' x->Hp B w0 x Rc)/\uW P ops Q aq S' (ab.setIfInBounds i true) a' w') a w
theorem jM {d:Nat} {v:Value} {aq:Nat} {ab:AI} (i:Nat) (hi:ops[i]? =some {dst:=some d,op:=op,type:=ty,pos:=pos,after:=nj,guard:=none}) (hc:chk ops ab i=true) (hn:Nat.blt d n=true)
  (hy:Yl P n B w0 op ty L Rc v) (h:WDc P n B w0 ops K aq (ab.setIfInBounds i true) ((d,v)::L) R Rc):WDc P n B w0 ops K (aq+1) ab L R Rc:=by
 intro a w Q hs hp ue ju hq;simp only[chk,pz] at hc;obtain⟨⟨⟨h1,h2⟩,h3⟩,h4⟩:=hc;refine zJ hi (Region.noSelect_spec h1) (λc a w hh=>(ju c _ w hh).elim) aq _ ab a w h4 (Region.free_spec hi h2) (by simpa using h3) (.inl ⟨rfl,λw hw=>hy a w _ rfl rfl hs hw⟩) (ue w hp) ?_;exact h _ w Q (hs.put hn v) hp ue ju hq
theorem EK {aq:Nat} {ab:AI} (hr:Region.ready .any ops ab=[]) (h:K L R):WDc P n B w0 ops K aq ab L R Rc:=by
 intro a w Q hs hp _ ju hq;cases aq with
 |zero=>exact⟨hr,hq _ _ L R hs hp h⟩
 |succ aq=>exact⟨λ_=>hq _ _ L R hs hp h,by rw[hr];simp⟩
theorem MV {d:Nat} {Post:Value->List Row->Prop} {aq:Nat} {ab:AI} (i:Nat) (hi:ops[i]? =some {dst:=some d,op:=op,type:=ty,pos:=pos,after:=nj,guard:=none}) (hn:Nat.blt d n=true) (ha:Ac P n B w0 op ty L R Post)
  (h: ∀v R',Post v R'->(∀w,Hp B w0 w R'->Hp B w0 w Rc)/\WDc P n B w0 ops K aq (ab.setIfInBounds i true) ((d,v)::L) R' Rc):aAe P n B w0 ops K aq ab L R Rc i:=by
 intro a w Q hs hp ue ju hq;unfold wpOp;simp only[hi];rw[di (by simp[Region.wanted])];refine .inl (ha a w _ _ Q rfl rfl hs hp λv w' R' cv hv=> ?_);obtain⟨h1,h2⟩:=h v R' hv;exact⟨λw=>Hp B w0 w Rc,h1 w' cv, .inr λ_ h=>h,h2 _ w' Q (hs.put hn v) cv h1 ju hq⟩
theorem aNc {Post:Value->List Row->Prop} {aq:Nat} {ab:AI} (i:Nat) (hi:ops[i]? =some {dst:=none,op:=op,type:=ty,pos:=pos,after:=nj,guard:=none}) (ha:Ac P n B w0 op ty L R Post)
  (h: ∀v R',Post v R'->(∀w,Hp B w0 w R'->Hp B w0 w Rc)/\WDc P n B w0 ops K aq (ab.setIfInBounds i true) L R' Rc):aAe P n B w0 ops K aq ab L R Rc i:=by
 intro a w Q hs hp ue ju hq;unfold wpOp;simp only[hi];rw[di (by simp[Region.wanted])];refine .inl (ha a w _ _ Q rfl rfl hs hp λv w' R' cv hv=> ?_);obtain⟨h1,h2⟩:=h v R' hv;exact⟨λw=>Hp B w0 w Rc,h1 w' cv, .inr λ_ h=>h,h2 _ w' Q hs cv h1 ju hq⟩
theorem oD {aq:Nat} {ab:AI} (i:Nat) (hr:Region.ready .any ops ab=[i]) (hi:aAe P n B w0 ops K aq ab L R Rc i):WDc P n B w0 ops K (aq+1) ab L R Rc:=by
 intro a w Q hs hp ue ju hq;refine⟨λh0=>absurd (hr▸h0) cD,λk hk=> ?_⟩;rw[hr] at hk;obtain rfl:=jb.1 hk;exact hi a w Q hs hp ue ju hq
theorem aVe {aq:Nat} {ab:AI} (i j:Nat) (hr:Region.ready .any ops ab=[i,j]) (hi:aAe P n B w0 ops K aq ab L R Rc i) (hj:aAe P n B w0 ops K aq ab L R Rc j):WDc P n B w0 ops K (aq+1) ab L R Rc:=by
 intro a w Q hs hp ue ju hq;refine⟨λh0=>absurd (hr▸h0) cD,λk hk=> ?_⟩;rw[hr] at hk;rcases iw.1 hk with rfl|hk
 ·exact hi a w Q hs hp ue ju hq
 ·obtain rfl:=jb.1 hk;exact hj a w Q hs hp ue ju hq
theorem QZ {aq:Nat} {ab:AI} {d:Nat} {u v:Value} (hu:u=v) (h:WDc P n B w0 ops K aq ab ((d,v)::L) R Rc):WDc P n B w0 ops K aq ab ((d,u)::L) R Rc:=by
 subst hu;exact h
end
end Go.Eng
namespace Go.Proofs.YtdbebmmhdefgdaaGreat
open Go Go.Eng Go.Pure
set_option maxRecDepth 100000
theorem xP {s l:AH} {k:Int} (hk:0<=k) (hs: ∀x∈s,0<=x/\x<k) (hp:l.Perm (bJ s)):(qU s k l).length=s.length/\(qU s k l).Perm (iota s.length)/\(∀q:Int,0<=q->q+1<s.length->rd s (rd (qU s k l) q)<=rd s (rd (qU s k l) (q+1)))/\(l.Pairwise (bV s)->(qU s k l).Pairwise (bV s)):=by
 refine⟨aSy hk hs hp,?_⟩;rcases fe s.length with h|h
 ·have e:s=[]:=dx h;subst e;rw[XT hp];exact⟨.refl _,λq h0 h1=>by simp at h1;omega,λ_=> .nil⟩
 ·exact aGy hk hs hp h
open Tryz
variable {w:World} {dg:AF} {gr de:Nat} {s:AH} {k:Int}
theorem WV {m5:AF} {La m9:Nat} {x:AH} {i:Int} (ci:Rd w dg gr de 1 (ints .i64 s)) (kp:Rd w m5 La m9 1 (ints .i64 x)) (hi:0<=i/\i<s.length) (hx:x.length=s.length) (v8:i<rd x i) (Tl:rd x i<=s.length) (hN:s.length<=1000000):
  CF 321 #[sl dg gr de,sl m5 La m9,I i] w (λv R'=>v=sl (jD dg i.toNat de 1) ((min (rd x i+1) (s.length:Int)).toNat-i.toNat) (de-i.toNat)):=by
 obtain rfl:=ci.lenI;obtain rfl:=kp.lenI;refine fn1 Tryz.func321 Z Z Z ?_;have d8:=ci.max;have m_x:=kp.max;refine wq<|wn Z<|wq<|wm Z<|wm Z<|wm Z<|wm Z<|wy (aG aa sz3 Z Z (kp.c _))<|wy (aW au Z Z (kp.c _))<|wA Z Z<|wm Z<|wy (aO aa Z) ?_;refine wy (uP Z Z)<|wy (aEx aa sz3 Z Z Z (ci.c _) G G G)<|wn Z<|bT ?_;refine⟨_,Z,?_⟩;rfl
theorem aRs {Lf:AF} {n_f Ll:Nat} {f:AH} {zc:AF} {Qk zd:Nat} {o:AH} (ci:Rd w dg gr de 1 (ints .i64 s)) (Ni:Rd w Lf n_f Ll 1 (ints .i64 f)) (Wd:Rd w zc Qk zd 1 (ints .i64 o)) (hs:Nn s) (hf:f=bJ s) (Ua:o.Perm (iota s.length)) (hoo:o.Pairwise (pcS s)) (hN:s.length<=1000000):
  CF 292 #[sl dg gr de,sl Lf n_f Ll,sl zc Qk zd] w (λv R'=> ∃(nx nm:AH) (n la:Int) (A:AF) (c:Nat),v= .tuple #[sl A f.length c,I (n+1)]/\tK s nx (bJ s).length/\zF s o nx s.length nm n la/\R'=[(ri 3 A f.length c (f.map (rd nm)))]):=by
 obtain rfl:=ci.lenI;obtain rfl:=Ni.lenI;obtain rfl:=Wd.lenI;refine fn2 Tryz.func292 Z Z Z ?_;have d8:=ci.max;have m_f:=Ni.max;have m_o:=Wd.max;have hol:o.length=s.length:=by rw[Ua.length_eq,bC]
 have qu:f.length<=s.length:=by rw[hf];exact LU
 refine wq<|wg Z<|wn Z<|wq<|wm Z<|wy (aO aa Z)<|wa (dM aa zb3 Z Z) ?_;rintro _ _⟨ao,rfl,rfl⟩;refine bK (v:=sl (GG ao) s.length s.length) Z<|wn Z<|aD<|wq<|wm Z<|wy (aO aa Z)<|wm Z<|aA<|aI ?_;refine dS (λ(i:Int) (V:AH)=>[(0,sl dg s.length de),(1,sl Lf f.length Ll),(2,sl zc o.length zd),(8,sl (GG ao) s.length s.length),(22,sl Lf f.length Ll),(23,I (f.length:Int)),(24,I i)]) (λi V=>[(ri 3 (GG ao) s.length s.length V)]) (λi V=>(0<=i)/\(i<=f.length)/\(tK s V i)) (λi V=>(f.length-i).toNat) ?_ ?_
 ·exact⟨0,List.replicate s.length (0:Int),⟨G,G,(aYn)⟩,KP⟩
 intro i V ⟨bb,ij,hV⟩;have kd:=hV.len;have hfi:i<f.length->0<=rd f i/\rd f i<s.length:=λh=>by subst hf;exact(oI bb h).1
 refine wq<|wL Z Z<|aA<|aD<|bA Z (λbc=> ?_) (λbc=> ?_)
 ·have hfi2:=hfi G;refine aH<|aD<|aI<|wq<|wm Z<|wy (aG aa sz3 Z Z (Ni.c _))<|wy (aW au Z Z (Ni.c _))<|wg Z<|wn Z<|wq<|wm Z<|wm Z ?_;refine wm Z<|wy (aO aa Z)<|wy (aG aa sz3 Z Z (rdr 0 Z))<|bY (bG 0 Z sz3 Z Z) ?_;rintro _ _ rfl;refine aA<|wq<|wm Z<|wA Z Z<|wm Z<|wy (aO aa Z)<|wL Z Z<|aA<|bA Z (λda=> ?_) (λda=> ?_)
  ·refine aJ<|wm Z<|wm Z<|wm Z<|wm Z<|wA Z Z<|wy (aG aa sz3 Z Z (Ni.c _))<|wy (aW au Z Z (Ni.c _))<|wy (aG aa sz3 Z Z (rdr 0 Z))<|bY (bG 0 Z sz3 Z Z) ?_;rintro _ _ rfl;refine aA<|aJ<|wA Z Z<|wm Z<|aA ?_;exact⟨i+1,upd (upd V (rd f i) (s.length:Int)) (rd f i) (rd f (i+1)),⟨G,G,(by subst hf;exact hV.step2 bb G G)⟩,G,KP⟩
  ·refine aH<|aJ<|wA Z Z<|wm Z<|aA ?_;exact⟨i+1,upd V (rd f i) (s.length:Int),⟨G,G,(by subst hf;exact hV.step1 bb G G)⟩,G,KP⟩
 ·have Ds:tK s V (bJ s).length:=by have e:i=(bJ s).length:=(by rw[<-hf];omega);rw[<-e];exact hV
  refine aS<|wq<|wm Z<|wy (aO aa Z)<|wa (dM aa zb3 Z Z) ?_;rintro _ _⟨db,rfl,rfl⟩;refine bK (v:=sl (GG db) s.length s.length) Z<|wn Z<|wq<|wg Z<|wn Z<|aD<|wq<|wm Z<|wy (aO aa Z)<|wm Z<|aA ?_;refine aI ?_;refine GM (λ(q:Int) (U:AH) (n:Int) (la:Int)=>[(0,sl dg s.length de),(1,sl Lf f.length Ll),(8,sl (GG ao) s.length s.length),(11,sl (GG db) s.length s.length),(12,I n),(13,I la),(51,sl zc o.length zd),(52,I (o.length:Int)),(53,I q)]) (λq U n la=>[(ri 3 (GG db) s.length s.length U),(ri 3 (GG ao) s.length s.length V)]) (λq U n la=>(0<=q)/\(q<=o.length)/\(zF s o V q U n la)) (λq U n la=>(o.length-q).toNat) ?_ ?_
  ·exact⟨0,List.replicate s.length (0:Int),0,-1,⟨G,G,(aRv)⟩,KP⟩
  intro q U n la ⟨io,i8,hM⟩;have Lu:=hM.len;have hMb:=hM.bd;have Gk:=hM.last_in Ua G
  have Wm:0<=la->la<s.length/\la<rd V la/\rd V la<=s.length:=λh=>by
   rcases Gk with e|⟨e,e2⟩
   ·omega
   ·have g:=Ds.nx e.1 e.2 e2;exact⟨e.2,g.gt,g.le⟩
  have Zz:q<o.length->0<=rd o q/\rd o q<s.length:=λh=>aV.1 (Ua.subset (bF (L:=o) io h));have hoz:q<o.length->(rd V (rd o q)=0↔gB s (rd o q)=false):=λh=>Ds.zero (Zz h).1 (Zz h).2;refine wq<|wL Z Z<|aA<|aD<|bA Z (λfk=> ?_) (λfk=> ?_)
  ·have Mq:=Zz G;have Uc:=hoz G;refine aH<|aD<|aI<|wq<|wy (aG aa sz3 Z Z (Wd.c _))<|wy (aW au Z Z (Wd.c _))<|wn Z<|aD<|wq<|wm Z<|wm Z<|wy (aG aa sz3 Z Z (rdr 1 Z)) ?_;refine wy (aW au Z Z (rdr 1 Z))<|wy (gT Z Z)<|aA<|bA Z (λiu=> ?_) (λiu=> ?_)
   ·have Kv:=Uc.1 iu;refine aS<|aJ<|wA Z Z<|wm Z<|aA ?_;exact⟨q+1,U,n,la,⟨G,G,(hM.skip Kv)⟩,G,KP⟩
   ·have Kv:gB s (rd o q)=true:=by
     cases e:gB s (rd o q) with
     |true=>rfl
     |false=>exact absurd (Uc.2 e) iu
    have hgx:=Ds.nx Mq.1 Mq.2 Kv;have Zd:=hgx.gt;have Wh:=hgx.le;have hlm: -1<=la:=G
    refine aH<|aD<|wq<|wm Z<|wy (jN Z Z)<|wm Z<|dD 29 [(0,sl dg s.length de),(1,sl Lf f.length Ll),(8,sl (GG ao) s.length s.length),(11,sl (GG db) s.length s.length),(12,I n),(15,I (rd o q)),(51,sl zc o.length zd),(52,I (o.length:Int)),(53,I q),(93, .bool (decide ((0<=la)/\((((rd V (rd o q))=(s.length:Int))\/((rd V la)=(s.length:Int)))\/(¬((((s).drop (la).toNat).take ((min (rd V la+1) (s.length:Int)).toNat-la.toNat))=(((s).drop (rd o q).toNat).take ((min (rd V (rd o q)+1) (s.length:Int)).toNat-(rd o q).toNat))))))))] [(ri 3 (GG db) s.length s.length U),(ri 3 (GG ao) s.length s.length V)] ?_ ?_
    ·refine bP 64 Z (λkt=> ?_) (λkt=> ?_)
     ·refine aB Z Z<|wm Z<|aB Z Z<|wm Z<|aB Z Z<|wy (aG aa sz3 Z Z (rdr 1 Z))<|aB Z Z<|wy (aW au Z Z (rdr 1 Z))<|aB Z Z<|wm Z<|aB Z Z<|wy (aO aa Z)<|aB Z Z<|wy (gT Z Z)<|aB Z Z ?_;refine wm Z<|dD 8 [(0,sl dg s.length de),(1,sl Lf f.length Ll),(8,sl (GG ao) s.length s.length),(11,sl (GG db) s.length s.length),(12,I n),(13,I la),(15,I (rd o q)),(51,sl zc o.length zd),(52,I (o.length:Int)),(53,I q),(64,bt),(80, .bool (decide (((rd V (rd o q))=(s.length:Int))\/((rd V la)=(s.length:Int)))))] [(ri 3 (GG db) s.length s.length U),(ri 3 (GG ao) s.length s.length V)] ?_ ?_
      ·refine bP 72 Z (λxr=> ?_) (λxr=> ?_)
       ·refine aM Z Z Z Z<|aM Z Z Z Z<|aM Z Z Z Z<|aM Z Z Z Z<|aM Z Z Z Z<|aM Z Z Z Z<|aM Z Z Z Z<|aB Z Z<|wy (aQ Z Z)<|aA ?_;exact KP
       ·refine aB Z Z<|wm Z<|aB Z Z<|wm Z<|aB Z Z<|wy (aG aa sz3 Z Z (rdr 1 Z))<|aB Z Z<|wy (aW au Z Z (rdr 1 Z))<|aB Z Z<|wm Z<|aB Z Z<|wy (aO aa Z)<|aB Z Z<|wy (gT Z Z)<|aB Z Z ?_;refine wy (aP Z Z)<|aA ?_;exact KP
      refine aB Z Z<|wm Z<|dD 11 [(0,sl dg s.length de),(1,sl Lf f.length Ll),(8,sl (GG ao) s.length s.length),(11,sl (GG db) s.length s.length),(12,I n),(15,I (rd o q)),(51,sl zc o.length zd),(52,I (o.length:Int)),(53,I q),(64,bt),(92, .bool (decide ((((rd V (rd o q))=(s.length:Int))\/((rd V la)=(s.length:Int)))\/(¬((((s).drop (la).toNat).take ((min (rd V la+1) (s.length:Int)).toNat-la.toNat))=(((s).drop (rd o q).toNat).take ((min (rd V (rd o q)+1) (s.length:Int)).toNat-(rd o q).toNat)))))))] [(ri 3 (GG db) s.length s.length U),(ri 3 (GG ao) s.length s.length V)] ?_ ?_
      ·refine bP 81 Z (λMf=> ?_) (λMf=> ?_)
       ·refine aM Z Z Z Z<|aM Z Z Z Z<|aM Z Z Z Z<|aM Z Z Z Z<|aM Z Z Z Z<|aM Z Z Z Z<|aM Z Z Z Z<|aM Z Z Z Z<|aM Z Z Z Z<|aM Z Z Z Z<|aB Z Z<|wy (aQ Z Z)<|aA ?_;exact KP
       ·refine aB Z Z<|wm Z<|aB Z Z<|wm Z<|aB Z Z<|wm Z<|aB Z Z<|wa (aC bBw Z (Ct.quiet (λw hw=>WV ((ci.c _) w hw) ((rdr 1 Z) w hw) cE cE cE cE cE))) ?_;rintro _ _⟨rfl,rfl⟩;refine aB Z Z<|wm Z<|aB Z Z<|wm Z<|aB Z Z<|wm Z<|aB Z Z<|wa (aC bBw Z (Ct.quiet (λw hw=>WV ((ci.c _) w hw) ((rdr 1 Z) w hw) cE cE cE cE cE))) ?_;rintro _ _⟨rfl,rfl⟩;refine aB Z Z<|wa (aC bGz Z (Ct.quiet (λw hw=>QK ((RdC.cutI (ci.c _) G G) w hw) ((RdC.cutI (ci.c _) G G) w hw) (by rw[ax,bn];omega)))) ?_;rintro _ _⟨rfl,rfl⟩;refine aB Z Z<|wy (uU Z)<|aB Z Z<|wy (aP Z Z)<|aA ?_;exact KP
      refine wy (aQ Z Z)<|aA ?_;exact KP
     ·refine aM Z Z Z Z<|aM Z Z Z Z<|aM Z Z Z Z<|aM Z Z Z Z<|aM Z Z Z Z<|aM Z Z Z Z<|aM Z Z Z Z<|aM Z Z Z Z<|eD Z Z Z<|eD Z Z Z<|eD Z Z Z<|eD Z Z Z<|eD Z Z Z<|eD Z Z Z<|eD Z Z Z ?_;refine aM Z Z Z Z<|aM Z Z Z Z<|eD Z Z Z<|eD Z Z Z<|eD Z Z Z<|eD Z Z Z<|eD Z Z Z<|eD Z Z Z<|eD Z Z Z<|eD Z Z Z<|eD Z Z Z<|eD Z Z Z<|aM Z Z Z Z<|wy (aP Z Z)<|aA ?_;exact KP
    refine aA<|bA Z (λTg=> ?_) (λTg=> ?_)
    ·have ff:=aRu (n:=n) Wm Mq.1 Zd Wh Tg;refine aJ<|wm Z<|wA Z Z<|wn Z<|aJ<|wm Z<|wm Z<|wm Z<|wm Z<|wy (aG aa sz3 Z Z (rdr 0 Z))<|bY (bG 0 Z sz3 Z Z) ?_;rintro _ _ rfl;refine wn Z<|aJ<|wA Z Z<|wm Z<|aA ?_;exact⟨q+1,upd U (rd o q) (n+1),n+1,rd o q,⟨G,G,(hM.step hs Ua hoo Ds io G Kv ff)⟩,G,KP⟩
    ·have ff:=aRt (n:=n) hlm Wm Mq.1 Zd Wh Tg;refine aH<|aJ<|wm Z<|wm Z<|wm Z<|wm Z<|wy (aG aa sz3 Z Z (rdr 0 Z))<|bY (bG 0 Z sz3 Z Z) ?_;rintro _ _ rfl;refine wn Z<|aJ<|wA Z Z<|wm Z<|aA ?_;exact⟨q+1,upd U (rd o q) n,n,rd o q,⟨G,G,(hM.step hs Ua hoo Ds io G Kv ff)⟩,G,KP⟩
  ·refine aS<|wq<|bR (R1:=[(ri 3 none 0 0 ([])),(ri 3 (GG db) s.length s.length U),(ri 3 (GG ao) s.length s.length V)]) (Sub.refl _) (λ_ h=>h.nil 3 1)<|wn Z<|aD<|wq<|wm Z<|wy (aO aa Z)<|wm Z<|aA<|aI ?_;refine jK (λ(A1:AF) (n1:Nat) (c1:Nat) (acc:AH) (j:Int)=>[(11,sl (GG db) s.length s.length),(12,I n),(16,sl A1 n1 c1),(102,sl Lf f.length Ll),(103,I (f.length:Int)),(104,I j)]) (λA1 n1 c1 acc j=>[(ri 3 A1 n1 c1 acc),(ri 3 (GG db) s.length s.length U),(ri 3 (GG ao) s.length s.length V)]) (λA1 n1 c1 acc j=>(n1=acc.length)/\(0<=j)/\(j<=f.length)/\(acc=(f.take j.toNat).map (rd U))) (λA1 n1 c1 acc j=>(f.length-j).toNat) ?_ ?_
   ·exact⟨none,0,0,[],0,⟨(Z),G,G,(Z)⟩,KP⟩
   intro A1 n1 c1 acc j ⟨dp,b8,Pn,bh⟩;have sp:=bg List.length bh;rw[az,ax] at sp;have hfj:j<f.length->0<=rd f j/\rd f j<s.length:=λh=>by subst hf;exact(oI b8 h).1
   refine wq<|wL Z Z<|aA<|aD<|bA Z (λYr=> ?_) (λYr=> ?_)
   ·refine aH<|aD<|aI<|wq<|wy (aG aa sz3 Z Z (Ni.c _))<|wy (aW au Z Z (Ni.c _))<|wn Z<|aJ<|wm Z<|wm Z<|wm Z<|wy (aG aa sz3 Z Z (rdr 1 Z))<|wy (aW au Z Z (rdr 1 Z)) ?_;refine wa (bQ .i64 [rd U (rd f j)] aa zs3 Z Z Z) ?_;rintro _ _⟨ef,rfl,rfl⟩;refine wa (aY 1 Z aa zb3 Z Z Z (rdr 0 Z)) ?_;rintro _ _⟨fz,mj,rfl,rfl⟩;refine bK (v:=sl fz (n1+1) mj) Z<|wn Z<|aJ<|wA Z Z<|wm Z<|aA ?_;exact⟨fz,n1+1,mj,acc++([rd U (rd f j)]),j+1,⟨(by rw[ai,dp];try rfl),G,G,(by rw[dF b8 G,jc,bh];rfl)⟩,G,SA,λ_ h=>h.sel [1,2,3] cC Z⟩
   ·refine aS<|wq<|wm Z<|wm Z<|wA Z Z<|wg Z<|wn Z<|aX [0] 99 cC Z ?_;refine⟨_,_,Z,Z,?_⟩;have Sr:zF s o V s.length U n la:=by have e:q=s.length:=G;rw[<-e];exact hM
    rw[bi G] at bh;subst bh;obtain rfl:n1=f.length:=G
    exact⟨V,U,n,la,_,_,Z,Ds,Sr,Z⟩
theorem NL {w:World} {s:AH} (ci:Rd w dg gr de 1 (ints .i64 s)) (IH: ∀ {w:World} {qe:AF} {qv qk:Nat} {t:AH} {j:Int},Rd w qe qv qk 1 (ints .i64 t)->t.length<s.length->((0<=j/\j<=1048576)/\ ∀x∈t,0<=x/\x<j)->t.length<=1000000->CF 265 #[sl qe qv qk,I j] w (λv R'=> ∃(b:AH) (A:AF) (c:Nat),v=sl A t.length c/\b.Perm (iota t.length)/\b.Pairwise (bV t)/\R'=[(ri 3 A t.length c b)])) (dr:(0<=k/\k<=1048576)/\ ∀x∈s,0<=x/\x<k) (hN:s.length<=1000000):
  CF 265 #[sl dg gr de,I k] w (λv R'=> ∃(b:AH) (A:AF) (c:Nat),v=sl A s.length c/\b.Perm (iota s.length)/\b.Pairwise (bV s)/\R'=[(ri 3 A s.length c b)]):=by
 obtain rfl:=ci.lenI;refine fn1 Tryz.func265 Z Z Z ?_;have d8:=ci.max;refine wq<|wn Z<|wq<|wm Z<|wa (aC bCe Z (Ct.fresh (λw hw=>XY ((ci.c _) w hw) cE))) ?_;rintro _ _⟨_,rfl,cr,co,rfl,rfl⟩;refine wn Z<|wq<|wm Z<|wm Z<|wm Z<|wa (aC bCd Z (Ct.fresh (λw hw=>aFk ((ci.c _) w hw) ((rdr 0 Z) w hw) dr (.refl _) hN))) ?_;rintro _ _⟨_,rfl,fg,fi,rfl,rfl⟩;refine wm Z<|wX Z Z<|wX Z Z<|wg Z<|wn Z<|aD<|wq<|wm Z<|wy (aO aa Z)<|wL Z Z<|aA<|bA Z (λbc=> ?_) (λbc=> ?_)
 ·refine wq<|wm Z<|wn Z<|aX [0] 99 cC Z ?_;exact⟨_,Z,_,_,_,Z,(xP dr.1.1 dr.2 (.refl _)).2.1,(xP dr.1.1 dr.2 (.refl _)).2.2.2 (aQs G),Z⟩
 ·have dp:0<s.length:=by have:=LU (s:=s);omega
  have Uf:=aCx dr.1.1 dr.2 (l:=bJ s) (.refl _) dp;have Od:Nn s:=λx hx=>(dr.2 x hx).1;have Tu:=aLq dp;refine aH<|wq<|wm Z<|wm Z<|wm Z<|wa (aC bHx Z (Ct.fresh (λw hw=>aRs ((ci.c _) w hw) ((rdr 1 Z) w hw) ((rdr 0 Z) w hw) Od Z Uf.1 Uf.2 hN))) ?_;rintro _ _⟨_,rfl,nx,nm,n,la,fh,kh,rfl,hNx,Ya,rfl⟩;refine wm Z<|wX Z Z<|wX Z Z<|wg Z<|wn Z<|wq<|bR (R1:=[(ri 3 none 0 0 ([])),(ri 3 fh ((bJ s).length) kh ((bJ s).map (rd nm))),(ri 3 fg ((s).length) fi (qU s k (bJ s))),(ri 3 cr ((bJ s).length) co (bJ s))]) (Sub.refl _) (λ_ h=>h.nil 3 1)<|wn Z<|aD<|wq<|wm Z ?_;refine wm Z<|wa (aC bCg Z (Ct.fresh (λw hw=>IH ((rdr 1 Z) w hw) (by rw[az];exact Tu) ⟨by have:=Ya.bd;omega,aRr Ya Uf.1⟩ (by rw[az];omega)))) ?_;rintro _ _⟨_,rfl,b1,en,cj,rfl,es,gw,rfl⟩;refine wy (aO aa Z)<|wm Z<|aA<|aI ?_;refine jK (λ(A1:AF) (n1:Nat) (c1:Nat) (acc:AH) (i:Int)=>[(0,sl dg s.length de),(1,I k),(5,sl cr ((bJ s).length) co),(10,sl A1 n1 c1),(35,sl en (((bJ s).map (rd nm)).length) cj),(36,I ((((bJ s).map (rd nm)).length:Nat):Int)),(37,I i)]) (λA1 n1 c1 acc i=>[(ri 3 en (((bJ s).map (rd nm)).length) cj b1),(ri 3 A1 n1 c1 acc),(ri 3 fh ((bJ s).length) kh ((bJ s).map (rd nm))),(ri 3 fg ((s).length) fi (qU s k (bJ s))),(ri 3 cr ((bJ s).length) co (bJ s))]) (λA1 n1 c1 acc i=>(n1=acc.length)/\(0<=i)/\(i<=b1.length)/\(acc=(b1.take i.toNat).map (rd (bJ s)))) (λA1 n1 c1 acc i=>(b1.length-i).toNat) ?_ ?_
  ·exact⟨none,0,0,[],0,⟨(Z),G,G,(Z)⟩,KP⟩
  intro A1 n1 c1 acc i ⟨dp,bb,ij,bh⟩;have Wn:((bJ s).map (rd nm)).length=(bJ s).length:=az _;have b5:b1.length=(bJ s).length:=by rw[es.length_eq,bC,az]
  have sp:=bg List.length bh;rw[az,ax] at sp
  have un:i<b1.length->0<=rd b1 i/\rd b1 i<(bJ s).length:=λh=>by
   have:=aV.1 (es.subset (bF (L:=b1) bb h));rwa[az] at this
  refine wq<|wL Z Z<|aA<|aD<|bA Z (λda=> ?_) (λda=> ?_)
  ·refine aH<|aD<|aI<|wq<|wy (aG aa sz3 Z Z (rdr 0 Z))<|wy (aW au Z Z (rdr 0 Z))<|wn Z<|aJ<|wm Z<|wm Z<|wm Z<|wy (aG aa sz3 Z Z (rdr 4 Z))<|wy (aW au Z Z (rdr 4 Z)) ?_;refine wa (bQ .i64 [rd (bJ s) (rd b1 i)] aa zs3 Z Z Z) ?_;rintro _ _⟨n7,rfl,rfl⟩;refine wa (aY 2 Z aa zb3 Z Z Z (rdr 0 Z)) ?_;rintro _ _⟨ge,gg,rfl,rfl⟩;refine bK (v:=sl ge (n1+1) gg) Z<|wn Z<|aJ<|wA Z Z<|wm Z<|aA ?_;exact⟨ge,n1+1,gg,acc++([rd (bJ s) (rd b1 i)]),i+1,⟨(by rw[ai,dp];try rfl),G,G,(by rw[dF bb G,jc,bh];rfl)⟩,G,SA,λ_ h=>h.sel [1,2,3,4,5] cC Z⟩
  ·have Tc:acc=b1.map (rd (bJ s)):=by rw[bh,bi G]
   have hr:=aQc Od Ya Uf.1 Uf.2 hNx es gw;have Qp:acc.Perm (bJ s):=by rw[Tc];exact hr.1
   have hao:acc.Pairwise (bV s):=by rw[Tc];exact hr.2
   refine aS<|wq<|wm Z<|wm Z<|wm Z<|wa (aC bCd Z (Ct.fresh (λw hw=>aFk ((ci.c _) w hw) ((rdr 1 Z) w hw) dr Qp hN))) ?_;rintro _ _⟨_,rfl,w8,Bk,rfl,rfl⟩;refine wm Z<|wX Z Z<|wX Z Z<|wn Z<|wq<|wm Z<|wn Z<|aX [0] 99 cC Z ?_;exact⟨_,Z,_,_,_,Z,(xP dr.1.1 dr.2 Qp).2.1,(xP dr.1.1 dr.2 Qp).2.2.2 hao,Z⟩
theorem aJh (m:Nat): ∀ {w:World} {dg:AF} {gr de:Nat} {s:AH} {k:Int},Rd w dg gr de 1 (ints .i64 s)->s.length<m->((0<=k/\k<=1048576)/\ ∀x∈s,0<=x/\x<k)->s.length<=1000000->
  CF 265 #[sl dg gr de,I k] w (λv R'=> ∃(b:AH) (A:AF) (c:Nat),v=sl A s.length c/\b.Perm (iota s.length)/\b.Pairwise (bV s)/\R'=[(ri 3 A s.length c b)]):=by
 induction m with
 |zero=>intro w A n c s k _ h;omega
 |succ m ih=>
  intro w A n c s k ci hm dr hN;exact NL ci (λh1 h2 h3 h4=>ih h1 G h3 h4) dr hN
theorem NN {s:AH} (ci:Rd w dg gr de 1 (ints .i64 s)) (dr:(0<=k/\k<=1048576)/\ ∀x∈s,0<=x/\x<k) (hN:s.length<=1000000):
  CF 265 #[sl dg gr de,I k] w (λv R'=> ∃(b:AH) (A:AF) (c:Nat),v=sl A s.length c/\b.Perm (iota s.length)/\b.Pairwise (bV s)/\R'=[(ri 3 A s.length c b)]):=aJh (s.length+1) ci G dr hN
theorem aPg {s:AH} (ci:Rd w dg gr de 1 (ints .i64 s)) (dr:(0<=k/\k<=1048576)/\ ∀x∈s,0<=x/\x<k) (hN:s.length<=100000):
  CF 219 #[sl dg gr de,I k] w (λv R'=> ∃(b:AH) (A:AF) (c:Nat),v= .tuple #[sl A s.length c,I 0]/\b.Perm (iota s.length)/\b.Pairwise (bV s)/\R'=[(ri 3 A s.length c b)]):=by
 obtain rfl:=ci.lenI;refine fn2 Tryz.func219 Z Z Z ?_;have d8:=ci.max;refine wq<|wg Z<|wn Z<|aD<|wq<|wm Z<|wy (aO aa Z)<|wy (Yl.f (dN Z Z))<|aA<|aN Z<|aH<|aD ?_;refine wq<|wm Z<|wm Z<|wa (aC YQ Z (Ct.fresh (λw hw=>oU ((ci.c _) w hw) cE))) ?_;rintro _ _⟨_,rfl,cr,co,rfl,rfl⟩;refine wm Z<|wX Z Z<|wX Z Z<|wg Z<|wn Z<|wq<|wm Z<|wy (dH Z)<|aA<|aN Z<|aH<|wq ?_;refine wm Z<|wm Z<|wa (aC bCg Z (Ct.fresh (λw hw=>NN ((ci.c _) w hw) dr G))) ?_;rintro _ _⟨_,rfl,b1,me,mz,rfl,es,gw,rfl⟩;refine wg Z<|wn Z<|aX [0] 99 cC Z ?_;refine⟨_,_,Z,Z,?_⟩;exact⟨b1,_,_,Z,es,gw,Z⟩
theorem aJt {an:AF} {ar am:Nat} {u:AH} (al:Rd w an ar am 1 (ints .u8 u)) (ac:aL u) (hN:u.length<=100000):
  CF 146 #[sl an ar am] w (λv R'=> ∃(b:AH) (A:AF) (c:Nat),v= .tuple #[sl A u.length c,I 0]/\b.Perm (iota u.length)/\b.Pairwise (bV u)/\R'=[(ri 3 A u.length c b)]):=by
 obtain rfl:=al.lenI;refine fn2 Tryz.func146 Z Z Z ?_;have mv:=al.max;refine wq<|wg Z<|wn Z<|wq<|bR (R1:=[(ri 3 none 0 0 ([]))]) (Sub.refl _) (λ_ h=>h.nil 3 1)<|wn Z<|aD<|wq<|wm Z<|wy (aO ah Z) ?_;refine wy (Yl.t (uV Z Z) G)<|aA<|dI Z<|aD<|wq<|wm Z<|wy (aO ah Z)<|wm Z<|aA<|aI ?_;refine jK (λ(A1:AF) (n1:Nat) (c1:Nat) (acc:AH) (i:Int)=>[(4,sl A1 n1 c1),(10,sl an u.length am),(11,I (u.length:Int)),(12,I i)]) (λA1 n1 c1 acc i=>[(ri 3 A1 n1 c1 acc)]) (λA1 n1 c1 acc i=>(n1=acc.length)/\(0<=i)/\(i<=u.length)/\(acc=u.take i.toNat)) (λA1 n1 c1 acc i=>(u.length-i).toNat) ?_ ?_
 ·exact⟨none,0,0,[],0,⟨(Z),G,G,(Z)⟩,KP⟩
 intro A1 n1 c1 acc i ⟨dp,bb,ij,bh⟩;have sp:=bg List.length bh;rw[ax] at sp;refine wq<|wL Z Z<|aA<|aD<|bA Z (λbc=> ?_) (λbc=> ?_)
 ·have un:=ac.rd i;refine aH<|aD<|aI<|wq<|wy (aG ah sz5 Z Z (al.c _))<|wy (aW dh Z Z (al.c _))<|wn Z<|aJ<|wm Z<|wm Z<|wy (jJ dh au Z)<|wa (bQ .i64 [rd u i] aa zs3 Z Z Z) ?_;rintro _ _⟨db,rfl,rfl⟩;refine wa (aY 1 Z aa zb3 Z Z Z (rdr 0 Z)) ?_;rintro _ _⟨fg,fi,rfl,rfl⟩;refine bK (v:=sl fg (n1+1) fi) Z<|wn Z<|aJ<|wA Z Z<|wm Z<|aA ?_;exact⟨fg,n1+1,fi,acc++([rd u i]),i+1,⟨(by rw[ai,dp];try rfl),G,G,(by rw[dF bb G,bh])⟩,G,SA,λ_ h=>h.sel [1] cC Z⟩
 ·have hau:acc=u:=by rw[bh,bi G]
  refine aS<|wq<|wm Z<|wa (aC bIs Z (Ct.fresh (λw hw=>aPg ((rdr 0 Z) w hw) ⟨G,λx hx=>by rw[hau] at hx;have:=ac x hx;omega⟩ G))) ?_;rintro _ _⟨_,rfl,b1,fz,mj,rfl,es,gw,rfl⟩;refine wX Z Z<|wX Z Z<|wg Z<|wn Z<|aX [0] 99 cC Z ?_;refine⟨_,_,Z,Z,?_⟩;subst hau;exact⟨b1,_,_,Z,es,gw,Z⟩
variable {B g ar am:Nat} {w0:World} {R:List Row} {a0 a1 a2:Int} {an:AF} {u:AH}
theorem aEq (hr:0<=a0/\a0<1000000):
  CT 149 #[PG g,I 1] B w0 ((rc 138 3 g [I a0,I a1,I a2])::R) (λv R'=>v=I (a0+1)/\R'=(rc 138 3 g [I (a0+1),I a1,I a2])::R):=by
 refine fn1 Jo Z Z Z ?_;refine wq<|wn Z<|wq<|wm Z<|wy (aF Z)<|wy (yF 0 0 underlying135 sz2 Z)<|wm Z<|wa (aIj Z (λw hw=>⟨_,Gw (P:=Tryz.prog) Tryz.func222 cA cA cA .i64 cA (y:=1) (s:=a0+1) (hw.cellAt 0 (r:=(rc 138 3 g [I a0,I a1,I a2])) (j:=0) Z Z Z) (hw.openAt 0 (r:=(rc 138 3 g [I a0,I a1,I a2])) 0 Z Z Z) (by have:IntKind.i64.wrap (a0+1)=a0+1:=(by rw[Bp];omega);simp[Op.intArith,this]),hw.set1 0 (r:=(rc 138 3 g [I a0,I a1,I a2])) (j:=0) (v:=I (a0+1)) Z Z Z⟩)) ?_;rintro _ _⟨rfl,rfl⟩;refine wn Z<|bT ?_;exact⟨_,Z,Z,Z⟩
theorem aEp (hr:0<=a1/\a1<1000000):
  CT 149 #[.pointer (some ⟨g,1,none⟩),I 1] B w0 ((rc 138 3 g [I a0,I a1,I a2])::R) (λv R'=>v=I (a1+1)/\R'=(rc 138 3 g [I a0,I (a1+1),I a2])::R):=by
 refine fn1 Jo Z Z Z ?_;refine wq<|wn Z<|wq<|wm Z<|wy (aF Z)<|wy (yF 0 1 underlying135 sz2 Z)<|wm Z<|wa (aIj Z (λw hw=>⟨_,Gw (P:=Tryz.prog) Tryz.func222 cA cA cA .i64 cA (y:=1) (s:=a1+1) (hw.cellAt 0 (r:=(rc 138 3 g [I a0,I a1,I a2])) (j:=1) Z Z Z) (hw.openAt 0 (r:=(rc 138 3 g [I a0,I a1,I a2])) 1 Z Z Z) (by have:IntKind.i64.wrap (a1+1)=a1+1:=(by rw[Bp];omega);simp[Op.intArith,this]),hw.set1 0 (r:=(rc 138 3 g [I a0,I a1,I a2])) (j:=1) (v:=I (a1+1)) Z Z Z⟩)) ?_;rintro _ _⟨rfl,rfl⟩;refine wn Z<|bT ?_;exact⟨_,Z,Z,Z⟩
theorem aEo (hr:0<=a2/\a2<1000000):
  CT 149 #[.pointer (some ⟨g,2,none⟩),I 1] B w0 ((rc 138 3 g [I a0,I a1,I a2])::R) (λv R'=>v=I (a2+1)/\R'=(rc 138 3 g [I a0,I a1,I (a2+1)])::R):=by
 refine fn1 Jo Z Z Z ?_;refine wq<|wn Z<|wq<|wm Z<|wy (aF Z)<|wy (yF 0 2 underlying135 sz2 Z)<|wm Z<|wa (aIj Z (λw hw=>⟨_,Gw (P:=Tryz.prog) Tryz.func222 cA cA cA .i64 cA (y:=1) (s:=a2+1) (hw.cellAt 0 (r:=(rc 138 3 g [I a0,I a1,I a2])) (j:=2) Z Z Z) (hw.openAt 0 (r:=(rc 138 3 g [I a0,I a1,I a2])) 2 Z Z Z) (by have:IntKind.i64.wrap (a2+1)=a2+1:=(by rw[Bp];omega);simp[Op.intArith,this]),hw.set1 0 (r:=(rc 138 3 g [I a0,I a1,I a2])) (j:=2) (v:=I (a2+1)) Z Z Z⟩)) ?_;rintro _ _⟨rfl,rfl⟩;refine wn Z<|bT ?_;exact⟨_,Z,Z,Z⟩
theorem YZ {w:World}:
  CF 47 #[] w (λv R'=> ∃g,v=PG g/\R'=[(rc 138 3 g [I 0,I 0,I 0])]):=by
 refine fn1 Tryz.func47 Z Z Z ?_;refine wq<|wn Z<|wq<|wy (gV (v:= .agg #[I 0,I 0,I 0]) Z (λw=>cA))<|wa (dC (sz:=3) rfl rfl) ?_;rintro _ _⟨ao,rfl,rfl⟩;refine wn Z<|aX [0] 99 cC Z ?_;exact⟨_,Z,_,Z,Z⟩
theorem NW (al:RdC B w0 R an ar am 1 (ints .u8 u)) (bx:ar=u.length) (ac:aL u) (hN:u.length<=100000) (ha:0<=a0/\a0<1000000):
  CT 84 #[PG g,I 0,sl an ar am] B w0 ((rc 138 3 g [I a0,I a1,I a2])::R) (λv R'=> ∃(b:AH) (A:AF) (c:Nat),v= .tuple #[sl A u.length c,I 0]/\b.Perm (iota u.length)/\b.Pairwise (bV u)/\R'=(ri 3 A u.length c b)::(rc 138 3 g [I (a0+1),I a1,I a2])::R):=by
 subst bx;refine fn2 Ih Z Z Z ?_;refine wq<|wg Z<|wn Z<|aD<|wq<|wm Z<|wy (kI underlying76 Z Z)<|wm Z<|aB Z Z<|wm Z<|aB Z Z<|wy (Yl.f (fO Z Z) cC) ?_;refine wy (aP Z Z)<|wm Z<|aB Z Z<|wm Z<|aB Z Z<|wy (Yl.f (jN Z Z) cC)<|wy (aP Z Z)<|aA<|aN Z<|aH<|wq<|wy (gV (v:= .agg #[.func (.func 146) #[] #[], .func (.func 147) #[] #[], .func (.func 148) #[] #[]]) Z (λw=>cA))<|wm rfl<|wy (bCz (v:= .func (.func 146) #[] #[]) rfl rfl (λw=>cA)) ?_;refine wn Z<|wq<|wm Z<|wm Z<|wa (zC bJh Z Z (Ct.fresh (λw hw=>aJt ((RdC.right al [_]) w hw) ac hN))) ?_;rintro _ _⟨_,rfl,b1,cr,co,rfl,es,gw,rfl⟩;refine wm Z<|wX Z Z<|wX Z Z<|wg Z<|wn Z<|aD<|wq<|wm Z<|wR Z Z<|aA<|dI Z<|aJ<|wm Z ?_;refine wm Z<|wy (aF Z)<|wy (yF 0 0 underlying138 aPb Z)<|wy (dE (q:=0) (rdr 1 Z) underlying136 aPc Z Z (ak Z) cC cC Z)<|wa (aC aUg Z (Ct.at 1 Z (aEq G))) ?_;rintro _ _⟨rfl,rfl⟩;refine aA<|wq<|wm Z<|wm Z<|wg Z<|wn Z<|bN (R1:=((ri 3 cr u.length co b1)::(rc 138 3 g [I (a0+1),I a1,I a2])::R)) hiZ ?_;refine⟨_,_,Z,Z,?_⟩;exact⟨b1,_,_,Z,es,gw,Z⟩
theorem NV (al:RdC B w0 R an ar am 1 (ints .u8 u)) (bx:ar=u.length) (ac:aL u) (hN:u.length<=100000) (ha:0<=a1/\a1<1000000):
  CT 84 #[PG g,I 1,sl an ar am] B w0 ((rc 138 3 g [I a0,I a1,I a2])::R) (λv R'=> ∃(b:AH) (A:AF) (c:Nat),v= .tuple #[sl A u.length c,I 0]/\b.Perm (iota u.length)/\b.Pairwise (bV u)/\R'=(ri 3 A u.length c b)::(rc 138 3 g [I a0,I (a1+1),I a2])::R):=by
 subst bx;refine fn2 Ih Z Z Z ?_;refine wq<|wg Z<|wn Z<|aD<|wq<|wm Z<|wy (kI underlying76 Z Z)<|wm Z<|aB Z Z<|wm Z<|aB Z Z<|wy (Yl.f (fO Z Z) cC) ?_;refine wy (aP Z Z)<|wm Z<|aB Z Z<|wm Z<|aB Z Z<|wy (Yl.f (jN Z Z) cC)<|wy (aP Z Z)<|aA<|aN Z<|aH<|wq<|wy (gV (v:= .agg #[.func (.func 146) #[] #[], .func (.func 147) #[] #[], .func (.func 148) #[] #[]]) Z (λw=>cA))<|wm rfl<|wy (bCz (v:= .func (.func 147) #[] #[]) rfl rfl (λw=>cA)) ?_;refine wn Z<|wq<|wm Z<|wm Z<|wa (zC bJg Z Z (Ct.fresh (λw hw=>aLf ((RdC.right al [_]) w hw) ac hN))) ?_;rintro _ _⟨_,rfl,b1,cr,co,rfl,es,gw,rfl⟩;refine wm Z<|wX Z Z<|wX Z Z<|wg Z<|wn Z<|aD<|wq<|wm Z<|wR Z Z<|aA<|dI Z<|aJ<|wm Z ?_;refine wm Z<|wy (aF Z)<|wy (yF 0 0 underlying138 aPb Z)<|wy (dE (q:=1) (rdr 1 Z) underlying136 aPc Z Z (ak Z) cC cC Z)<|wa (aC aUg Z (Ct.at 1 Z (aEp G))) ?_;rintro _ _⟨rfl,rfl⟩;refine aA<|wq<|wm Z<|wm Z<|wg Z<|wn Z<|bN (R1:=((ri 3 cr u.length co b1)::(rc 138 3 g [I a0,I (a1+1),I a2])::R)) hiZ ?_;refine⟨_,_,Z,Z,?_⟩;exact⟨b1,_,_,Z,es,gw,Z⟩
theorem NU (al:RdC B w0 R an ar am 1 (ints .u8 u)) (bx:ar=u.length) (ac:aL u) (hN:u.length<=100000) (ha:0<=a2/\a2<1000000):
  CT 84 #[PG g,I 2,sl an ar am] B w0 ((rc 138 3 g [I a0,I a1,I a2])::R) (λv R'=> ∃(b:AH) (A:AF) (c:Nat),v= .tuple #[sl A u.length c,I 0]/\b.Perm (iota u.length)/\b.Pairwise (bV u)/\R'=(ri 3 A u.length c b)::(rc 138 3 g [I a0,I a1,I (a2+1)])::R):=by
 subst bx;refine fn2 Ih Z Z Z ?_;refine wq<|wg Z<|wn Z<|aD<|wq<|wm Z<|wy (kI underlying76 Z Z)<|wm Z<|aB Z Z<|wm Z<|aB Z Z<|wy (Yl.f (fO Z Z) cC) ?_;refine wy (aP Z Z)<|wm Z<|aB Z Z<|wm Z<|aB Z Z<|wy (Yl.f (jN Z Z) cC)<|wy (aP Z Z)<|aA<|aN Z<|aH<|wq<|wy (gV (v:= .agg #[.func (.func 146) #[] #[], .func (.func 147) #[] #[], .func (.func 148) #[] #[]]) Z (λw=>cA))<|wm rfl<|wy (bCz (v:= .func (.func 148) #[] #[]) rfl rfl (λw=>cA)) ?_;refine wn Z<|wq<|wm Z<|wm Z<|wa (zC bJf Z Z (Ct.fresh (λw hw=>aEb ((RdC.right al [_]) w hw) ac hN))) ?_;rintro _ _⟨_,rfl,o1,cr,co,rfl,Ge,Hj,rfl⟩;refine wm Z<|wX Z Z<|wX Z Z<|wg Z<|wn Z<|aD<|wq<|wm Z<|wR Z Z<|aA<|dI Z<|aJ<|wm Z ?_;refine wm Z<|wy (aF Z)<|wy (yF 0 0 underlying138 aPb Z)<|wy (dE (q:=2) (rdr 1 Z) underlying136 aPc Z Z (ak Z) cC cC Z)<|wa (aC aUg Z (Ct.at 1 Z (aEo G))) ?_;rintro _ _⟨rfl,rfl⟩;refine aA<|wq<|wm Z<|wm Z<|wg Z<|wn Z<|bN (R1:=((ri 3 cr u.length co o1)::(rc 138 3 g [I a0,I a1,I (a2+1)])::R)) hiZ ?_;refine⟨_,_,Z,Z,?_⟩;obtain⟨b,hb,hs⟩:=pM u;obtain rfl:=places hb hs Ge Hj;exact⟨o1,_,_,Z,hb,hs,Z⟩
variable {B g ar am:Nat} {w0:World} {R:List Row} {a0 a1 a2 so:Int} {an:AF} {u:AH}
theorem GA (al:RdC B w0 R an ar am 1 (ints .u8 u)) (bx:ar=u.length) (hb:so<0\/2<so):
  CT 84 #[PG g,I so,sl an ar am] B w0 ((rc 138 3 g [I a0,I a1,I a2])::R) (λv R'=>v= .tuple #[sl none 0 0,I 1]/\R'=(rc 138 3 g [I a0,I a1,I a2])::R):=by
 subst bx;refine fn2 Ih Z Z Z ?_;refine wq<|wg Z<|wn Z<|aD<|wq<|wm Z<|wy (kI underlying76 Z Z)<|wm Z<|aB Z Z<|wm Z<|aB Z Z<|wL Z Z ?_;refine wy (aP Z Z)<|wm Z<|dD 3 [(0,PG g),(1,I so),(2,sl an u.length am),(20, .bool (decide ((so<0)\/(3<=so))))] ((rc 138 3 g [I a0,I a1,I a2])::R) ?_ ?_
 ·refine bP 17 Z (λbc=> ?_) (λbc=> ?_)
  ·refine aM Z Z Z Z<|aM Z Z Z Z<|wy (aQ Z Z)<|aA ?_;exact KP
  ·refine aB Z Z<|wm Z<|aB Z Z<|wy (jN Z Z)<|wy (aP Z Z)<|aA ?_;exact KP
 refine oG 20 Z G<|aA<|dI Z<|wq<|wg Z<|wn Z<|bT ?_;refine⟨_,_,Z,Z,?_⟩;exact⟨Z,Z⟩
theorem GC (al:RdC B w0 R an ar am 1 (ints .u8 u)) (bx:ar=u.length) (ac:aL u) (hN:u.length<=100000) (ha:(0<=a0/\a0<1000000)/\(0<=a1/\a1<1000000)/\(0<=a2/\a2<1000000)):
  CT 84 #[PG g,I so,sl an ar am] B w0 ((rc 138 3 g [I a0,I a1,I a2])::R) (λv R'=> ∃(b:AH) (A:AF) (c:Nat) (e d0 d1 d2:Int),v= .tuple #[sl A b.length c,I e]/\
   (((so<0\/2<so)/\e=1/\b=[]/\d0=a0/\d1=a1/\d2=a2)\/(¬(so<0\/2<so)/\e=0/\b.Perm (iota u.length)/\b.Pairwise (bV u)/\[d0,d1,d2]=upd [a0,a1,a2] so (rd [a0,a1,a2] so+1)/\(d0<=a0+1/\0<=d0)/\(d1<=a1+1/\0<=d1)/\(d2<=a2+1/\0<=d2)))/\R'=(ri 3 A b.length c b)::(rc 138 3 g [I d0,I d1,I d2])::R):=by
 by_cases hb:so<0\/2<so
 ·intro w hw;refine(GA (u:=u) al bx hb w hw).mono ?_;rintro e w' ⟨v,R',he,hh,hv,hr⟩;subst hr;exact⟨v,_,he,hh.nil 3 1,[],none,0,1,a0,a1,a2,hv, .inl ⟨hb,Z,Z,Z,Z,Z⟩,Z⟩
 ·have hlen: ∀b:AH,b.Perm (iota u.length)->u.length=b.length:=λb h=>by rw[h.length_eq,bC]
  rcases(by omega:so=0\/so=1\/so=2) with rfl|rfl|rfl
  ·refine (NW al bx ac hN ha.1).mono ?_;rintro v R' ⟨b,A,c,hv,hp,hs,hr⟩;rw[hlen b hp] at hv hr;exact⟨b,A,c,0,a0+1,a1,a2,hv, .inr ⟨hb,Z,hp,hs,Z,G,G,G⟩,hr⟩
  ·refine (NV al bx ac hN ha.2.1).mono ?_;rintro v R' ⟨b,A,c,hv,hp,hs,hr⟩;rw[hlen b hp] at hv hr;exact⟨b,A,c,0,a0,a1+1,a2,hv, .inr ⟨hb,Z,hp,hs,Z,G,G,G⟩,hr⟩
  ·refine (NU al bx ac hN ha.2.2).mono ?_;rintro v R' ⟨b,A,c,hv,hp,hs,hr⟩;rw[hlen b hp] at hv hr;exact⟨b,A,c,0,a0,a1,a2+1,hv, .inr ⟨hb,Z,hp,hs,Z,G,G,G⟩,hr⟩
end Go.Proofs.YtdbebmmhdefgdaaGreat
namespace Go.Pure
open Go Go.Eng
section
variable {p:AH}
def gL (p:AH):Nat->List Bool->Int->AH × List Bool
 |0,E,_=>([],E)
 |f+1,E,k=>if rdb E k=true then([],E) else(k::(gL p f (qH E k true) (rd p k)).1,(gL p f (qH E k true) (rd p k)).2)
def cntF (E:List Bool):Nat:=E.countP λb=> !b
theorem aUt (n:Nat):cntF (List.replicate n false)=n:=by unfold cntF;rw[List.countP_replicate];simp
theorem CE {E:List Bool} {k:Int} (k0:0<=k) (hk:k<E.length) (h:rdb E k≠true):cntF (qH E k true)+1=cntF E:=by
 have bo:k.toNat<E.length:=G
 have e:E[k.toNat]=false:=by
  have h2:rdb E k=E[k.toNat]:=by unfold rdb;rw[af,av bo];rfl
  rw[h2] at h;simpa using h
 unfold cntF qH;rw[List.countP_set bo,e];simp only[Ex,Bool.not_false,vg,xg,Jw,qf];have:0<E.countP λb=> !b:=List.countP_pos_iff.2 ⟨E[k.toNat],ky bo,by rw[e];rfl⟩;omega
theorem tV {f:Nat} {E:List Bool} {k:Int} (h:rdb E k=true):gL p f E k=([],E):=by
 cases f with
 |zero=>rfl
 |succ f=>rw[gL,di h]
theorem MJ {E:List Bool} {k:Int} (k0:0<=k) (hk:k<E.length) (h:rdb E k≠true):0<cntF E:=by have:=CE k0 hk h;omega
theorem IP {f:Nat} {E:List Bool} {k:Int} (k0:0<=k) (hk:k<E.length) (hf:cntF E<=f) (h:rdb E k≠true):gL p f E k=(k::(gL p (f-1) (qH E k true) (rd p k)).1,(gL p (f-1) (qH E k true) (rd p k)).2):=by
 have:=MJ k0 hk h;obtain⟨g,rfl⟩: ∃g,f=g+1:=⟨f-1,G⟩;rw[gL,df h];rfl
def iY (p:AH):Nat->List Bool × AD
 |0=>(List.replicate p.length false,[])
 |i+1=>((gL p p.length (iY p i).1 i).2,if (gL p p.length (iY p i).1 i).1=[] then(iY p i).2 else(iY p i).2++[(gL p p.length (iY p i).1 i).1])
def bU (p:AH):AD:=(iY p p.length).2
theorem rH (hp:p.Perm (iota p.length)): ∀(f:Nat) (E:List Bool) (k:Int),E.length=p.length->0<=k->k<p.length->(gL p f E k).2.length=p.length/\(∀x∈(gL p f E k).1,0<=x/\x<p.length)/\(gL p f E k).1.length+cntF (gL p f E k).2=cntF E
 |0,E,k,hl,_,_=>And.intro hl (And.intro (λx hx=>absurd hx (uq (a:=x))) (mg _))
 | f+1,E,k,hl,k0,hk=>by
  rw[gL];split
  ·exact And.intro hl (And.intro (λx hx=>absurd hx (uq (a:=x))) (mg _))
  ·rename_i h;have hn:=aV.1 (hp.subset (bF (L:=p) k0 hk));have ih:=rH hp f (qH E k true) (rd p k) (by rw[kZ];exact hl) hn.1 hn.2;have hc:=CE k0 G h;refine⟨ih.1,λx hx=> ?_,?_⟩
   ·rcases iw.1 hx with rfl|hx
    ·exact⟨k0,hk⟩
    ·exact ih.2.1 x hx
   ·have:=ih.2.2;simp only[dm];omega
theorem lQ (hp:p.Perm (iota p.length)): ∀i:Nat,i<=p.length->(iY p i).1.length=p.length/\(∀c∈(iY p i).2,∀x∈c,0<=x/\x<p.length)/\(iY p i).2.flatten.length+cntF (iY p i).1=p.length
 |0,_=>⟨by simp[iY],λc hc=>(by cases hc),by simp[iY,aUt]⟩
 | i +1,hi=>by
  have ih:=lQ hp i G;have hw:=rH hp p.length (iY p i).1 i ih.1 G G;rw[iY];refine⟨hw.1,?_,?_⟩
  ·intro c hc x hx;split at hc
   ·exact ih.2.1 c hc x hx
   ·rcases fo.1 hc with hc|hc
    ·exact ih.2.1 c hc x hx
    ·obtain rfl:=jb.1 hc;exact hw.2.1 x hx
  ·split
   ·rename_i h;have h2:=hw.2.2;rw[h] at h2;have:=ih.2.2;simp only[jg] at h2;show(iY p i).2.flatten.length+cntF (gL p p.length (iY p i).1 i).2=p.length;omega
   ·rw [lu,ai];have h2:=hw.2.2;have:=ih.2.2;simp only[mh,Jf,ji];omega
theorem TU (hp:p.Perm (iota p.length)): ∀c∈bU p,∀x∈c,0<=x/\x<p.length:=(lQ hp p.length (dn _)).2.1
theorem ME (hp:p.Perm (iota p.length)):(bU p).flatten.length<=p.length:=by have:=(lQ hp p.length (dn _)).2.2;unfold bU;omega
theorem MF (p:AH): ∀i:Nat,(iY p i).2.length<=i
 |0=>by simp[iY]
 |i+1=>by
  have:=MF p i;rw[iY];split
  ·exact Nat.le_succ_of_le this
  ·rw[ai];simp only[ii];omega
theorem aZz {i:Int} {E E2:List Bool} {ls:AD} {acc:AH} (i0:0<=i) (o6:iY p i.toNat=(E,ls)) (Rm:gL p p.length E i=(acc,E2)) (cg:acc≠[]):iY p (i+1).toNat=(E2,ls++[acc]):=by
 rw[show(i+1).toNat=i.toNat+1 by omega,iY,o6];simp only[show((i.toNat:Nat):Int)=i by omega,Rm,df cg]
theorem bFd {i:Int} {E E2:List Bool} {ls:AD} {acc:AH} (i0:0<=i) (o6:iY p i.toNat=(E,ls)) (Rm:gL p p.length E i=(acc,E2)) (cg:acc=[]):iY p (i+1).toNat=(E2,ls):=by
 rw[show(i+1).toNat=i.toNat+1 by omega,iY,o6];simp only[show((i.toNat:Nat):Int)=i by omega,Rm,di cg]
theorem aAp (hp:p.Perm (iota p.length)) {f:Nat} {E E2:List Bool} {acc:AH} {i k:Int} (hl:E.length=p.length) (i0:0<=i) (hi:i<p.length) (hw:(acc++(gL p f E2 k).1,(gL p f E2 k).2)=gL p p.length E i):acc.length<=p.length:=by
 have h:=(rH hp p.length E i hl i0 hi).2.2;rw[<-hw] at h;simp only[ai] at h;have:cntF E<=E.length:=List.countP_le_length;omega
def dR (l c:AH):AH:=c.reverse.map (rd l)
def backL (l:AH) (cs:AD):AH:=(cs.reverse.map (dR l)).flatten
theorem aEl {l:AH} {cs:AD} {k:Nat} (hk:k<cs.length):(((cs.reverse).take (k+1)).map (dR l)).flatten=(((cs.reverse).take k).map (dR l)).flatten++dR l (rdl cs (cs.length-1-k)):=by
 have bo:k<cs.reverse.length:=by rw[lh];exact hk
 rw[qc,av bo,jc,lu];congr 1;simp only[Al,jq,qo,mh,Jf,ji];congr 1;rw[Fs];unfold rdl;rw[af,av G];simp only[oh];congr 1;omega
theorem aAm {l c:AH} {k:Nat} (hk:k<c.length):((c.reverse).take (k+1)).map (rd l)=((c.reverse).take k).map (rd l)++[rd l (rd c (c.length-1-k))]:=by
 have bo:k<c.reverse.length:=by rw[lh];exact hk
 rw[qc,av bo,jc];congr 1;simp only[Al,jq,qo];congr 2;rw[Fs,fB G G];congr 1;omega
theorem kJ (l c:AH):(dR l c).length=c.length:=by simp[dR]
theorem XX {cs:AD}: ∀ {k:Nat} {l:AH},(((cs.reverse).take k).map (dR l)).flatten.length<=cs.flatten.length:=by
 intro k l
 have h1:(((cs.reverse).take k).map (dR l)).flatten.length=(((cs.reverse).take k).map List.length).sum:=by
  rw[pq,rq];congr 2;funext c;exact kJ l c
 have h2:cs.flatten.length=((cs.reverse).map List.length).sum:=by rw[pq,Et,List.sum_reverse]
 rw[h1,h2]
 conv=>rhs;rw[<-ik k cs.reverse]
 rw[jc,Cn];omega
end
end Go.Pure
namespace Go.Proofs.YtdbebmmhdefgdaaGreat
open Go Go.Eng Go.Pure
open Tryz
set_option maxRecDepth 100000
variable {a V l s P acc u:AH} {i:Int} {n Jz i5:Nat} {w:World} {g6:AF}
theorem aKm (hd:a.Nodup) (i0:0<=i) (hi:i<a.length):rd a i∉a.take i.toNat:=λh=>by
 obtain⟨q,hq,e⟩:=ic.1 h;rw[ax] at hq;rw[ym] at e;have:=jY hd (i:=(q:Int)) (j:=i) G G i0 hi (by rw[fB (i:=(q:Int)) G G];simp only[bq];exact e);omega
theorem aJs {E:List Bool} (i0:0<=i) (hi:i<a.length) (hl:E.length=n) (ha:0<=rd a i/\rd a i<n) (h: ∀x:Int,0<=x->x<n->(rdb E x=true↔x∈a.take i.toNat)): ∀x:Int,0<=x->x<n->(rdb (qH E (rd a i) true) x=true↔x∈a.take (i+1).toNat):=by
 intro x x0 x1;rw[dF i0 hi,xH ha.1 G x0,fo,jb];split
 ·rename_i e;exact⟨λ_=> .inr e,λ_=>rfl⟩
 ·rename_i e;rw[h x x0 x1];exact⟨.inl,λh=>h.resolve_right e⟩
theorem aSw (i0:0<=i) (hi:i<a.length) (hd:a.Nodup) (hl:V.length=n) (ha: ∀q:Int,0<=q->q<a.length->0<=rd a q/\rd a q<n) (h: ∀q:Int,0<=q->q<i->rd V (rd a q)=q): ∀q:Int,0<=q->q<i+1->rd (upd V (rd a i) i) (rd a q)=q:=by
 intro q q0 q1;have h1:=ha i i0 hi;have h2:=ha q q0 G;rw[gG h1.1 h2.1 G];split
 ·rename_i e;exact jY hd i0 hi q0 G e.symm
 ·rename_i e;refine h q q0 ?_;rcases bu q i with g|g
  ·exact g
  ·obtain rfl:q=i:=G
   exact absurd Z e
def fsL (l:AH):AH:=(iota l.length).map (lfC l)
theorem pR (l:AH):(fsL l).length=l.length:=by unfold fsL;rw[az,bC]
theorem aBw (i0:0<=i) (hi:i<l.length):rd (fsL l) i=lfC l i:=by
 unfold fsL;rw[vL i0 (by rw[bC];exact hi),uA i0 hi]
theorem DR (hl:aL l):(bW (iota l.length) l (256:Int).toNat).length=l.length:=by
 have:=(kD (l:=l) hl).1.length_eq;rwa[bC] at this
theorem aGe (hl:aL l):(bW (iota l.length) l (256:Int).toNat).Perm (iota (bW (iota l.length) l (256:Int).toNat).length):=by
 rw[DR hl];exact(kD (l:=l) hl).1
theorem bBu (hl:aL l) (h1:V.length=(bW (iota l.length) l (256:Int).toNat).length) (h2: ∀q:Int,0<=q->q<(bW (iota l.length) l (256:Int).toNat).length->rd V (rd (bW (iota l.length) l (256:Int).toNat) q)=q):V=fsL l:=by
 rw[DR hl] at h1 h2;refine bE (by rw[h1,pR]) λj j0 j1=> ?_;rw[aBw j0 G];obtain⟨q,q0,q1,e,f⟩:=XM (l:=l) hl j0 G;rw[f,<-e];exact h2 q q0 q1
theorem aGm (i0:0<=i) (hi:i<a.length) (h:acc=P++ofT s (a.take i.toNat)) (h0:rd a i=0):acc=P++ofT s (a.take (i+1).toNat):=by
 rw[XD i0 hi,di h0,ji];exact h
theorem aRo (i0:0<=i) (hi:i<a.length) (h:acc=P++ofT s (a.take i.toNat)) (h0: ¬rd a i=0):acc++[rd s (rd a i-1)]=P++ofT s (a.take (i+1).toNat):=by
 rw[XD i0 hi,df h0,<-ek,h]
theorem aEw (hd:a.Nodup) (i0:0<=i) (hi:i<a.length) (h0:rd a i=0):i+1=zat (a.take (i+1).toNat):=by rw[UR hd i0 hi,di h0]
theorem aNw {m:Int} (hd:a.Nodup) (i0:0<=i) (hi:i<a.length) (h:m=zat (a.take i.toNat)) (h0: ¬rd a i=0):m=zat (a.take (i+1).toNat):=by rw[UR hd i0 hi,df h0];exact h
theorem aGn (s:AH) (l:AH):(ofT s l).length<=l.length:=by unfold ofT;rw[az];exact xm _ _
theorem SS (vq:Rd w g6 Jz i5 1 (ints .i64 a)) (hp:a.Perm (iota a.length)) (hN:a.length<=1000000):
  CF 150 #[sl g6 Jz i5] w (λv R'=> ∃A c V,v= .tuple #[sl A a.length c,bt]/\V.length=a.length/\(∀q:Int,0<=q->q<a.length->rd V (rd a q)=q)/\R'=[(ri 3 A a.length c V)]):=by
 obtain rfl:=vq.lenI;refine fn2 Tryz.func150 Z Z Z ?_;have m_a:=vq.max;have hnd:a.Nodup:=hp.symm.nodup (fG _);have gs: ∀q:Int,0<=q->q<a.length->0<=rd a q/\rd a q<a.length:=λq q0 q1=>aV.1 (hp.subset (bF q0 q1));refine wq<|wg Z<|wn Z<|wq<|wm Z<|wy (aO aa Z)<|wa (dM aa zb3 Z Z) ?_;rintro _ _⟨ao,rfl,rfl⟩;refine bK (v:=sl (GG ao) a.length a.length) Z<|wn Z<|wq<|wm Z<|wy (aO aa Z)<|wa (UK oz zb4 Z Z G G G) ?_;rintro _ _⟨db,rfl,rfl⟩;refine bK (v:=sl (GG db) a.length a.length) Z<|wn Z<|aD<|wq<|wm Z<|wy (aO aa Z)<|wm Z<|aA<|aI ?_;refine gW (λ(i:Int) (V:AH) (E:List Bool)=>[(0,sl g6 a.length i5),(4,sl (GG ao) a.length a.length),(5,sl (GG db) a.length a.length),(14,sl g6 a.length i5),(15,I (a.length:Int)),(16,I i)]) (λi V E=>[⟨4,1,(GG db),a.length,a.length,bools E,false⟩,(ri 3 (GG ao) a.length a.length V)]) (λi V E=>(0<=i)/\(i<=a.length)/\(V.length=a.length)/\(E.length=a.length)/\(∀x:Int,0<=x->x<a.length->(rdb E x=true↔x∈a.take i.toNat))/\(∀q:Int,0<=q->q<i->rd V (rd a q)=q)) (λi V E=>(a.length-i).toNat) ?_ ?_
 ·exact⟨0,List.replicate a.length (0:Int),List.replicate a.length false,⟨G,G,(by rw[cz]),(by rw[cz]),(λx h0 h1=>by rw[GY];simp),(λq h0 h1=>G)⟩,KP⟩
 intro i V E ⟨bb,ij,kd,Sm,hE,hV⟩;refine wq<|wL Z Z<|aA<|aD<|bA Z (λbc=> ?_) (λbc=> ?_)
 ·have ha:=gs i bb G;have yd:=aKm hnd bb G;refine aH<|aD<|aI<|wq<|wm Z<|wy (aG aa sz3 Z Z (vq.c _))<|wy (aW au Z Z (vq.c _))<|wg Z<|wn Z<|aD<|wq<|wm Z ?_;refine wy (Yl.f (fO Z Z))<|wm Z<|aB Z Z<|wm Z<|aB Z Z<|wm Z<|aB Z Z<|wy (aO aa Z)<|aB Z Z<|wy (Yl.f (jN Z Z))<|wy (aP Z Z)<|wm Z<|aB Z Z<|wm Z<|aB Z Z ?_;refine wm Z<|aB Z Z<|wy (aG oz sz4 Z Z (rdr 0 Z))<|aB Z Z<|wy (Yl.f (EO Bn Z Z (rdr 0 Z)) (λh=>yd ((hE _ ha.1 ha.2).1 h)))<|wy (aP Z Z)<|aA<|aN Z<|aH<|aJ<|wm Z<|wm Z<|wm Z<|wm Z<|wm Z ?_;refine wy (aG aa sz3 Z Z (rdr 1 Z))<|bY (bG 1 Z sz3 Z Z) ?_;rintro _ _ rfl;refine wy (aG oz sz4 Z Z (rdr 0 Z))<|bY (wM 0 Z sz4 Z Z) ?_;rintro _ _ rfl;refine aA<|aJ<|wA Z Z<|wm Z<|aA ?_;exact⟨i+1,upd V (rd a i) i,qH E (rd a i) true,⟨G,G,(by rw[aT];exact kd),(by rw[kZ];exact Sm),(aJs bb G Sm ha hE),(aSw bb G hnd kd gs hV)⟩,G,KP⟩
 ·refine aS<|wq<|wm Z<|wg Z<|wn Z<|aX [1] 99 cC Z ?_;refine⟨_,_,Z,Z,?_⟩;exact⟨_,_,V,Z,kd,λq h0 h1=>hV q h0 G,Z⟩
theorem aPz (vq:Rd w g6 Jz i5 1 (ints .i64 a)) (hp:a.Perm (iota a.length)) (hN:a.length<=1000000):
  CF 197 #[sl g6 Jz i5] w (λv R'=>v=bt):=by
 obtain rfl:=vq.lenI;refine fn1 Tryz.func197 Z Z Z ?_;have m_a:=vq.max;refine wq<|wn Z<|wq<|wm Z<|wa (aC aUf Z (Ct.fresh (λw hw=>SS ((vq.c _) w hw) hp hN))) ?_;rintro _ _⟨_,rfl,cr,co,inv,rfl,ya,ye,rfl⟩;refine wm Z<|wX Z Z<|wX Z Z<|wg Z<|wn Z<|wq<|wm Z<|wn Z<|aX [] 99 cC Z ?_;refine⟨_,Z,?_⟩;rfl
theorem aGr {an:AF} {ar am:Nat} (al:Rd w an ar am 1 (ints .u8 u)) (ac:aL u) (hN:u.length<=1000000):
  CF 184 #[sl an ar am] w (λv R'=> ∃A c,v=sl A (fsL u).length c/\R'=[(ri 3 A ((fsL u).length) c (fsL u))]):=by
 obtain rfl:=al.lenI;refine fn1 Tryz.func184 Z Z Z ?_;have mv:=al.max;refine wq<|wn Z<|wq<|wm Z<|wy (aO ah Z)<|wa (dM aa zb3 Z Z) ?_;rintro _ _⟨ao,rfl,rfl⟩;refine bK (v:=sl (GG ao) u.length u.length) Z<|wn Z<|wq<|wm Z<|wy (aO ah Z)<|wa (dM aa zb3 Z Z) ?_;rintro _ _⟨db,rfl,rfl⟩;refine bK (v:=sl (GG db) u.length u.length) Z<|wn Z<|aD<|wq<|wm Z<|wy (aO ah Z)<|wm Z<|aA<|aI ?_;refine gW (λ(i:Int) (V:AH) (K:AH)=>[(3,sl (GG ao) u.length u.length),(4,sl (GG db) u.length u.length),(15,sl an u.length am),(16,I (u.length:Int)),(17,I i)]) (λi V K=>[(ri 3 (GG db) u.length u.length K),(ri 3 (GG ao) u.length u.length V)]) (λi V K=>(0<=i)/\(i<=u.length)/\(V.length=u.length)/\(K.length=u.length)/\(∀j:Int,0<=j->j<i->rd V j=j)/\(∀j:Int,0<=j->j<i->rd K j=rd u j)) (λi V K=>(u.length-i).toNat) ?_ ?_
 ·exact⟨0,List.replicate u.length (0:Int),List.replicate u.length (0:Int),⟨G,G,(by rw[cz]),(by rw[cz]),(λj h1 h2=>G),(λj h1 h2=>G)⟩,KP⟩
 intro i V K ⟨bb,ij,kd,Qo,hV,hK⟩;refine wq<|wL Z Z<|aA<|aD<|bA Z (λbc=> ?_) (λbc=> ?_)
 ·have un:=ac.rd i;refine aH<|aD<|aI<|wq<|wm Z<|wy (aG ah sz5 Z Z (al.c _))<|wy (aW dh Z Z (al.c _))<|wg Z<|wn Z<|aJ<|wm Z<|wm Z<|wm Z ?_;refine wm Z<|wm Z<|wm Z<|wy (jJ dh au Z)<|wy (aG aa sz3 Z Z (rdr 1 Z))<|bY (bG 1 Z sz3 Z Z) ?_;rintro _ _ rfl;refine wy (aG aa sz3 Z Z (rdr 0 Z))<|bY (bG 0 Z sz3 Z Z) ?_;rintro _ _ rfl;refine aA<|aJ<|wA Z Z<|wm Z<|aA ?_;exact⟨i+1,upd V i i,upd K i (rd u i),⟨G,G,(by rw[aT];exact kd),(by rw[aT];exact Qo),(eX (f:=λj=>j) bb G hV Z),(eX (f:=λj=>rd u j) bb G hK Z)⟩,G,KP⟩
 ·obtain rfl:V=iota u.length:=bE (by rw[bC];omega) λj h0 h1=>by rw[uA h0 G];exact hV j h0 G
  obtain rfl:u=K:=(bE G λj h0 h1=>hK j h0 G:K=u).symm;refine aS<|wq<|wm Z<|wm Z<|wa (aC LZ Z (Ct.fresh (λw hw=>uD ((rdr 1 Z) w hw) ((rdr 0 Z) w hw) G ac (λi hi=>aV.1 hi) (by rw[bC];omega)))) ?_;rintro _ _⟨_,rfl,fg,fi,rfl,rfl⟩;refine wm Z<|wX Z Z<|wX Z Z<|wn Z<|wq<|wm Z<|wa (aC aUf Z (Ct.fresh (λw hw=>SS ((rdr 0 Z) w hw) (aGe ac) (by rw[DR ac];omega)))) ?_;rintro _ _⟨_,rfl,fz,mj,inv,rfl,ya,ye,rfl⟩;refine wm Z<|wX Z Z<|wX Z Z<|wg Z<|wn Z<|wq<|wm Z<|wn Z<|aX [0] 99 cC Z ?_;refine⟨_,Z,?_⟩;obtain rfl:inv=fsL u:=bBu ac ya ye;have el:(bW (iota u.length) u (256:Int).toNat).length=(fsL u).length:=by rw[DR ac,pR]
  rw[el];exact⟨_,_,Z,Z⟩
theorem LV (hu:aL u):(fsL u).Perm (iota (fsL u).length):=by
 rw[pR];exact CR (λx h0 h1=>XN (l:=u) hu h0 h1) λx y x0 x1 y0 y1 e=>aSg (l:=u) hu x0 x1 y0 y1 e
theorem QS {Vr:AF} {n_p Vu:Nat} {p:AH} (Kr:Rd w Vr n_p Vu 1 (ints .i64 p)) (hp:p.Perm (iota p.length)) (hN:p.length<=1000000):
  CF 183 #[sl Vr n_p Vu] w (λv R'=> ∃(A:AF) (c:Nat) (vals:AG) (Rs:List Row),v= .tuple #[sl A vals.length c,bt]/\SlR .i64 Rs vals (bU p)/\R'=⟨52,1,A,vals.length,c,vals,false⟩::Rs):=by
 obtain rfl:=Kr.lenI;refine fn2 Tryz.func183 Z Z Z ?_;have m_p:=Kr.max;refine wq<|wg Z<|wn Z<|aD<|wq<|wm Z<|wa (aC bCk Z (Ct.quiet (λw hw=>aPz ((Kr.c _) w hw) hp hN))) ?_;rintro _ _⟨rfl,rfl⟩;refine wy (dH Z)<|aA<|aN Z<|aH<|wq<|wm Z<|wy (aO aa Z)<|wa (UK oz zb4 Z Z G G G) ?_;rintro _ _⟨ao,rfl,rfl⟩;refine bK (v:=sl (GG ao) p.length p.length) Z<|wn Z<|wq<|wa (iA [] Fe bGb Z Z Z Z) ?_;rintro _ _⟨ew,rfl,rfl⟩;refine wn Z<|aD<|wq<|wm Z<|wy (aO aa Z)<|wm Z<|aA<|aI ?_;refine GK (λ(i:Int) (A1:AF) (n1:Nat) (c1:Nat) (vals:AG) (ls:AD) (E:List Bool) (Rs:List Row)=>[(0,sl Vr p.length Vu),(4,sl (GG ao) p.length p.length),(5,sl A1 n1 c1),(17,I (p.length:Int)),(18,I i)]) (λi A1 n1 c1 vals ls E Rs=>(⟨52,1,A1,n1,c1,vals,false⟩::⟨4,1,(GG ao),p.length,p.length,bools E,false⟩::Rs)) (λi A1 n1 c1 vals ls E Rs=>(0<=i)/\(i<=p.length)/\(n1=vals.length)/\(SlR .i64 Rs vals ls)/\(iY p i.toNat=(E,ls))) (λi A1 n1 c1 vals ls E Rs=>(p.length-i).toNat) ?_ ?_
 ·exact⟨0,GG ew,0,0,[],[],List.replicate p.length false,[],⟨G,G,(Z),(SlR.nil _),(Z)⟩,KP⟩
 intro i A1 n1 c1 vals ls E Rs ⟨bb,ij,dp,ka,o6⟩;have Sm:E.length=p.length:=by have h:=(lQ hp i.toNat G).1;rw[o6] at h;exact h
 have Pi:vals.length<=i.toNat:=by have h:=MF p i.toNat;rw[o6] at h;rw[ka.1];exact h
 refine wq<|wL Z Z<|aA<|aD<|bA Z (λbc=> ?_) (λbc=> ?_)
 ·refine aH<|aD<|aI<|wq<|wm Z<|wn Z<|wq<|bR (R1:=((ri 3 none 0 0 ([]))::⟨52,1,A1,n1,c1,vals,false⟩::⟨4,1,(GG ao),p.length,p.length,bools E,false⟩::Rs)) (Sub.refl _) (λ_ h=>h.nil 3 1)<|wn Z<|aD<|aD ?_;refine aJ<|wm Z<|wn Z<|aI ?_;refine GL (λ(k:Int) (A2:AF) (n2:Nat) (c2:Nat) (acc:AH) (E2:List Bool) (f:Nat)=>[(0,sl Vr p.length Vu),(4,sl (GG ao) p.length p.length),(5,sl A1 n1 c1),(7,sl A2 n2 c2),(8,I k),(17,I (p.length:Int)),(18,I i)]) (λk A2 n2 c2 acc E2 f=>((ri 3 A2 n2 c2 acc)::⟨52,1,A1,n1,c1,vals,false⟩::⟨4,1,(GG ao),p.length,p.length,bools E2,false⟩::Rs)) (λk A2 n2 c2 acc E2 f=>(0<=k)/\(k<p.length)/\(n2=acc.length)/\(E2.length=p.length)/\(cntF E2<=f)/\((acc++(gL p f E2 k).1,(gL p f E2 k).2)=gL p p.length E i)) (λk A2 n2 c2 acc E2 f=>f) ?_ ?_
  ·exact⟨i,none,0,0,[],E,p.length,⟨G,G,(Z),(Sm),(by have:cntF E<=E.length:=List.countP_le_length;omega),(Z)⟩,KP⟩
  intro k A2 n2 c2 acc E2 f ⟨ld,yr,nw,Xr,hf,hw⟩;have sp:=aAp hp Sm bb G hw;refine aD<|wq<|wm Z<|wm Z<|wy (aG oz sz4 Z Z (rdr 2 Z))<|wy (EO Bn Z Z (rdr 2 Z))<|wy (uU Z)<|aA<|bA Z (λda=> ?_) (λda=> ?_)
  ·have hgo:=IP (p:=p) ld G hf da;have s7:=CE ld G da;have dy:=MJ ld G da;have Ky:=aV.1 (hp.subset (bF (L:=p) ld yr));refine aH<|aD<|aI<|wq<|wm Z<|wm Z<|wy (aG oz sz4 Z Z (rdr 2 Z))<|bY (wM 2 Z sz4 Z Z) ?_;rintro _ _ rfl;refine aA<|aJ<|wm Z<|wm Z<|wa (bQ .i64 [k] aa zs3 Z Z Z) ?_;rintro _ _⟨fd,rfl,rfl⟩;refine wa (aY 1 Z aa zb3 Z Z Z (rdr 0 Z)) ?_;rintro _ _⟨ft,ee,rfl,rfl⟩;refine bK (v:=sl ft (n2+1) ee) Z<|wn Z<|aJ<|wm Z<|wm Z<|wy (aG aa sz3 Z Z (Kr.c _))<|wy (aW au Z Z (Kr.c _))<|wn Z ?_;exact⟨rd p k,ft,n2+1,ee,acc++([k]),qH E2 k true,(f-1),⟨G,G,(by rw[ai,nw];rfl),(by rw[kZ];exact Xr),G,(by rw[<-hw,hgo];simp only[ek,ny])⟩,G,SA,λ_ h=>h.selR (F:=[_,_,_,_]) (F':=[_,_,_]) [1,2,3] cC Z⟩
  ·have Rm:gL p p.length E i=(acc,E2):=by rw[<-hw,tV (yh.1 da),ji]
   refine aS<|wq<|wm Z<|wy (aO aa Z)<|wy (dN Z Z)<|aA<|bA Z (λfk=> ?_) (λfk=> ?_)
   ·refine aJ<|wm Z<|wm Z<|wa (iA [Value.slice A2 n2 c2] Fe bGb Z Z Z Z) ?_;rintro _ _⟨zj,rfl,rfl⟩;refine wa (eY 2 Z Z Fe bKg Z Z Z Z Z (rdr 0 Z) (by simp[Value.oneCell']) (by dsimp only;omega)) ?_;rintro _ _⟨gd,ce,rfl,rfl⟩;refine bK (v:=sl gd (n1+1) ce) Z<|wn Z<|aJ<|wA Z Z<|wm Z<|aA ?_;exact⟨i+1,gd,n1+1,ce,vals++([Value.slice A2 n2 c2]),(ls++[acc]),E2,((ri 3 A2 n2 c2 acc)::Rs),⟨G,G,(by rw[ai,dp];rfl),(ka.snoc nw),(aZz bb o6 Rm (λe=>by rw[e] at nw;simp at nw;omega))⟩,G,SA,λ_ h=>h.selR (F:=[_,_,_,_]) (F':=[_,_,_]) [2,3,1] cC rfl⟩
   ·refine aH<|aJ<|wA Z Z<|wm Z<|aA ?_;exact⟨i+1,A1,n1,c1,vals,ls,E2,Rs,⟨G,G,(dp),(ka),(bFd bb o6 Rm (dx G))⟩,G,SA,λ_ h=>h.selR (F:=[_,_,_]) (F':=[_,_]) [1,2] cC Z⟩
 ·refine aS<|wq<|wm Z<|wg Z<|wn Z<|aX [0] 2 cC Z ?_;refine⟨_,_,Z,Z,?_⟩;obtain rfl:ls=bU p:=by unfold bU;rw[<-show i.toNat=p.length by omega,o6]
  subst dp;exact⟨_,_,vals,Rs,Z,ka,Z⟩
end Go.Proofs.YtdbebmmhdefgdaaGreat
namespace Go.Proofs
open Go.Shelf
def Tryz.laysSlF06_f276_ren:Go.Shelf.Ren:=⟨λ|6=>276|15=>192|14=>304|28=>251|29=>252|20=>329|21=>330|22=>331|23=>332|24=>333|25=>334|26=>335|27=>336|46=>358|47=>282|48=>283|49=>359|50=>360|57=>366|n=>n,λ|22=>228|24=>230|25=>315|3=>3|39=>167|0=>0|53=>123|55=>112|4=>4|46=>289|45=>288|50=>97|5=>5|9=>9|66=>316|70=>320|76=>337|77=>338|n=>n,λ|n=>n⟩
theorem Tryz.laysSlF06_f276:Go.Proofs.SlLaysF0.n6 Tryz.prog Tryz.laysSlF06_f276_ren:= {
 mixed:=cA
 f6:=⟨Tryz.f276.name,cC,Tryz.func276.trans (bg some cA)⟩
 f14:=⟨Tryz.f304.name,cC,Tryz.func304.trans (bg some cA)⟩
 f15:=Jp.trans (bg some cA)
 f20:=⟨Tryz.f329.name,cC,Tryz.func329.trans (bg some cA)⟩
 f21:=⟨Tryz.f330.name,cC,Tryz.func330.trans (bg some cA)⟩
 f22:=⟨Tryz.f331.name,cC,Tryz.func331.trans (bg some cA)⟩
 f23:=⟨Tryz.f332.name,cC,Tryz.func332.trans (bg some cA)⟩
 f24:=⟨Tryz.f333.name,cC,Tryz.func333.trans (bg some cA)⟩
 f25:=⟨Tryz.f334.name,cC,Tryz.func334.trans (bg some cA)⟩
 f26:=⟨Tryz.f335.name,cC,Tryz.func335.trans (bg some cA)⟩
 f27:=⟨Tryz.f336.name,cC,Tryz.func336.trans (bg some cA)⟩
 f28:=Jr.trans (bg some cA)
 f29:=Js.trans (bg some cA)
 f46:=⟨Tryz.f358.name,cC,Tryz.func358.trans (bg some cA)⟩
 f47:=Jt.trans (bg some cA)
 f48:=Ju.trans (bg some cA)
 f49:=⟨Tryz.f359.name,cC,Tryz.func359.trans (bg some cA)⟩
 f50:=⟨Tryz.f360.name,cC,Tryz.func360.trans (bg some cA)⟩
 f57:=⟨Tryz.f366.name,cC,Tryz.func366.trans (bg some cA)⟩
 t0:=Bt
 a0:=Ij
 z0:=Gs
 v0:=Cq
 t3:=Af
 a3:=Ga
 z3:=Ec
 v3:=Ba
 t4:=Bu
 a4:=Ik
 z4:=Gt
 v4:=Cr
 t5:=Bv
 a5:=Il
 z5:=Gu
 v5:=Cs
 t9:=Bw
 a9:=Im
 z9:=Gv
 v9:=Cu
 t22:=Tryz.underlying228
 a22:=Tryz.isAgg228
 z22:=Tryz.sizeOf228
 v22:=Tryz.zeroValue228
 t25:=Tryz.underlying315
 a25:=Tryz.isAgg315
 z25:=Tryz.sizeOf315
 v25:=Tryz.zeroValue315
 t39:=zh
 a39:=Ch
 z39:=Bl
 v39:=zu
 t45:=Cz
 a45:=Ir
 z45:=Hd
 v45:=Ee
 t46:=Da
 a46:=Iu
 z46:=He
 v46:=Ef
 t50:=Ed
 a50:=Jv
 z50:=Jb
 v50:=Ew
 t53:=Ao
 a53:=Fa
 z53:=Eb
 v53:=Bh
 t55:=Am
 a55:=Ez
 z55:=Ea
 v55:=Bg
 t66:=Db
 a66:=Iw
 z66:=Hf
 v66:=Eg
 t70:=Dc
 a70:=Iy
 z70:=Hg
 v70:=Eh
 t76:=De
 a76:=Iz
 z76:=Hl
 v76:=Ei
 t77:=Dg
 a77:=Ja
 z77:=Hm
 v77:=Ej}
open Go.RowKit Go.Lib Go.Sort in
theorem Tryz.slices_SortFunc {α:Type} [Inhabited α] (k:Nat) (aE: ∀w,(isAgg 230).run Tryz.prog w= .ok true w) (zE: ∀w,(Go.sizeOf 230).run Tryz.prog w= .ok k w) (enc:α->AG) (hk: ∀x,(enc x).length=k) (h1: ∀x,∀v∈enc x,v.oneCell'=true) (cf:α->α->Int) (hO:SWO (ltOf cf)) (g:Nat) (cb:Array Value) (du off cap:Nat) (d:Array α) (w:World) (eg: ∀args w,(callFunc g args).run Tryz.prog w= .ok (.enter g args) w) (rh:CmpLays Tryz.prog g cb enc k cf du off d.size w) (hH:HoldsK enc k w du off d) (hblk:du<w.heap.size) (hsz:d.size<4611686018427387904):
  Calls Tryz.prog 276 #[.slice (some ⟨du,off,none⟩) d.size cap, .func (.func g) #[] cb] w λe w'=>
   e= .returned (.tuple #[])/\ ∃d' n os,PermIn 0 d.size d d'/\SortedIn (ltOf cf) 0 d.size d'/\w'=sortWorldK enc k w du off n d' os:=AnyQ.slices_SortFunc Tryz.laysSlF06_f276 k aE zE enc hk h1 cf hO g cb du off cap d w eg rh hH hblk hsz
end Go.Proofs
namespace Go.Proofs.YtdbebmmhdefgdaaGreat
open Go Go.Eng Go.Pure
open Tryz
set_option maxRecDepth 100000
variable {w:World} {n8 qv Cd qk jz mc:Nat} {z8 qe jx lz:AF} {pc:AG} {ws:AD} {bs rs:AH} {t1 t2 h:Int}
theorem aRj {ln:AF} {py ml:Nat} {l:AH} (lj:Rd w ln py ml 1 (ints .i64 l)):
  CF 119 #[sl ln py ml] w (λv R'=>v=I (orL l)):=by
 obtain rfl:=lj.lenI;refine fn1 Tryz.func119 Z Z Z ?_;have Vh:=lj.max;refine wq<|wn Z<|wq<|wn Z<|aD<|wq<|wm Z<|wy (aO aa Z)<|wm Z<|aA ?_;refine aI ?_;refine lF (λ(k:Int)=>[(3,I 0),(6,sl ln l.length ml),(7,I (l.length:Int)),(8,I k)]) (λk=>[]) (λk=>(0<=k)/\(k<=l.length)/\(orL l=orL (l.drop k.toNat))) (λk=>(l.length-k).toNat) ?_ ?_
 ·exact⟨0,⟨G,G,(Z)⟩,KP⟩
 intro k ⟨ld,yr,ho⟩;refine wq<|wL Z Z<|aA<|aD<|bA Z (λbc=> ?_) (λbc=> ?_)
 ·refine aH<|aD<|aI<|wq<|wy (aG aa sz3 Z Z (lj.c _))<|wy (aW au Z Z (lj.c _))<|wn Z<|wq<|wm Z<|wm Z<|wy (iI Z Z)<|aA ?_;refine bA Z (λda=> ?_) (λda=> ?_)
  ·refine wq<|wm Z<|wn Z<|bT ?_;refine⟨_,Z,?_⟩;exact bg (Value.int .i64) (by rw[ho,aYi ld G G])
  ·refine aH<|aJ<|wA Z Z<|wm Z<|aA ?_;exact⟨k+1,⟨G,G,(by rw[ho,bEa ld G G])⟩,G,KP⟩
 ·refine aS<|wq<|wm Z<|wn Z<|bT ?_;refine⟨_,Z,?_⟩;exact bg (Value.int .i64) (by rw[ho,qm G];rfl)
theorem wK (ci:Rd w (GG n8) 1 1 4 [sl z8 ws.length Cd,sl qe qv qk,sl jx bs.length jz,sl lz rs.length mc]) (u9:Rd w z8 ws.length Cd 1 pc) (Ok:SlW .u8 w pc ws) (gv:Rd w jx bs.length jz 1 (ints .i64 bs)) (u7:Rd w lz rs.length mc 1 (ints .i64 rs)) (Tb:0<=t1/\t1<ws.length/\t1<bs.length) (Te:0<=t2/\t2<=1000000) (Th:0<(rdl ws t1).length) (Ti:0<=rd bs t1/\rd bs t1+(rdl ws t1).length<=rs.length) (hh:0<=h/\h<=1000000):
  CF 279 #[PG n8, .agg #[I t1,I t2],I h] w (λv R'=>v=I (ahd ws bs rs (t1,t2) h)):=by
 refine fn1 Tryz.func279 Z Z Z ?_;have m_r:=u7.max;have Kz:=gv.max;have m_w:=u9.max;have e1:=yw (t2+h) (show((rdl ws t1).length:Int)≠0 by omega);have e2:=vk (t2+h) (show(0:Int)<((rdl ws t1).length:Int) by omega);refine wq<|wa (dC (sz:=2) Z Z) ?_;rintro _ _⟨ao,rfl,rfl⟩;refine wn Z<|aD<|bL mixed<|wD 0 Z (aK Z)<|wD 1 Z (aF Z)<|wD 2 Z (yF 3 3 qz iL Z)<|wD 3 Z (fC (ci.c _) aa Z Z Z)<|wD 4 Z (aK Z)<|wD 5 Z (aF Z)<|wD 6 Z (yF 2 2 qz iL Z)<|wD 7 Z (fC (ci.c _) aa Z Z Z)<|wD 8 Z (dE (q:=0) (rdr 0 Z) jw sz3 Z Z (ak Z) cC cC Z)<|wD 9 Z (yL 0 au Z Z Z)<|wD 10 Z (aG aa sz3 Z Z (gv.c _)) ?_;refine wD 11 Z (aW au Z Z (gv.c _))<|wD 12 Z (dE (q:=1) (rdr 0 Z) jw sz3 Z Z (ak Z) cC cC Z)<|wD 13 Z (yL 0 au Z Z Z)<|wD 14 Z (aK Z)<|wD 15 Z (dK Z Z)<|wD 16 Z (aK Z)<|wD 17 Z (aF Z)<|wD 18 Z (yF 0 0 qz kL Z)<|wD 19 Z (fC (ci.c _) ay Z Z Z)<|wD 20 Z (dE (q:=0) (rdr 0 Z) jw sz3 Z Z (ak Z) cC cC Z)<|wD 21 Z (yL 0 au Z Z Z)<|wD 22 Z (aG ay dP Z Z (u9.c _)) ?_;obtain⟨fg,fi,Qh,ub,Yk,Vi⟩:=Ok.at (i:=t1) G G;refine wD 23 Z (pI ah Z Z Z (u9.c _) Qh)<|wD 24 Z (aO ah Z)<|wD 25 Z (xZ Z Z)<|wD 26 Z (dK Z Z)<|wD 27 Z (aG aa sz3 Z Z (u7.c _))<|wD 28 Z (aW au Z Z (u7.c _))<|wD 29 Z (bB Z)<|wN<|aX [] 99 cC Z ?_;refine⟨_,Z,?_⟩;rfl
theorem TC (ci:Rd w (GG n8) 1 1 4 [sl z8 ws.length Cd,sl qe qv qk,sl jx bs.length jz,sl lz rs.length mc]) (u9:Rd w z8 ws.length Cd 1 pc) (Ok:SlW .u8 w pc ws) (gv:Rd w jx bs.length jz 1 (ints .i64 bs)) (u7:Rd w lz rs.length mc 1 (ints .i64 rs)) (Tb:0<=t1/\t1<ws.length/\t1<bs.length) (Te:0<=t2/\t2<=1000000) (Th:0<(rdl ws t1).length) (Ti:0<=rd bs t1/\rd bs t1+(rdl ws t1).length<=rs.length):
  CF 278 #[PG n8, .agg #[I t1,I t2]] w (λv R'=>v=I (ahd ws bs rs (t1,t2) 0)):=by
 refine fn1 Tryz.func278 Z Z Z ?_;have m_r:=u7.max;have Kz:=gv.max;have m_w:=u9.max;refine wq<|wa (dC (sz:=2) Z Z) ?_;rintro _ _⟨ao,rfl,rfl⟩;refine wn Z<|wq<|wm Z<|wy (bM (vs:=[I t1,I t2]) (rdr 0 Z) jw Z lC Z Z (ak Z) Z)<|wa (aC YP Z (Ct.quiet (λw hw=>wK ((ci.c _) w hw) ((u9.c _) w hw) (Ok.c hw) ((gv.c _) w hw) ((u7.c _) w hw) cE cE cE cE cE))) ?_;rintro _ _⟨rfl,rfl⟩;refine wn Z<|aX [] 99 cC Z ?_;refine⟨_,Z,?_⟩;rfl
theorem aAv {u1 u2:Int} {g_p:Nat} {g_h:Nat} (ci:Rd w (GG n8) 1 1 4 [sl z8 ws.length Cd,sl qe qv qk,sl jx bs.length jz,sl lz rs.length mc]) (u9:Rd w z8 ws.length Cd 1 pc) (Ok:SlW .u8 w pc ws) (gv:Rd w jx bs.length jz 1 (ints .i64 bs)) (u7:Rd w lz rs.length mc 1 (ints .i64 rs)) (Kr:Rd w (GG g_p) 1 1 1 [PG n8]) (h_h:Rd w (GG g_h) 1 1 1 [I h]) (Tb:0<=t1/\t1<ws.length/\t1<bs.length) (Te:0<=t2/\t2<=1000000) (Th:0<(rdl ws t1).length) (Ti:0<=rd bs t1/\rd bs t1+(rdl ws t1).length<=rs.length) (ha_u:0<=u1/\u1<ws.length/\u1<bs.length) (hb_u:0<=u2/\u2<=1000000) (hc_u:0<(rdl ws u1).length) (hd_u:0<=rd bs u1/\rd bs u1+(rdl ws u1).length<=rs.length) (hh:0<=h/\h<=1000000):
  CF 277 #[.agg #[I t1,I t2], .agg #[I u1,I u2],PG g_p,PG g_h] w (λv R'=>v=I (aBa ws bs rs h (t1,t2) (u1,u2))):=by
 refine fn1 Tryz.func277 Z Z Z ?_;have m_r:=u7.max;have Kz:=gv.max;have m_w:=u9.max;refine wq<|wa (dC (sz:=2) Z Z) ?_;rintro _ _⟨ao,rfl,rfl⟩;refine wa (dC (sz:=2) Z Z) ?_;rintro _ _⟨ew,rfl,rfl⟩;refine wn Z<|aD<|bL mixed<|wD 0 Z (fC (Kr.c _) uo Z Z Z)<|wD 1 Z (bM (vs:=[I t1,I t2]) (rdr 1 Z) jw Z lC Z Z (ak Z) Z)<|wD 3 Z (fC (Kr.c _) uo Z Z Z)<|wD 4 Z (bM (vs:=[I u1,I u2]) (rdr 0 Z) jw Z lC Z Z (ak Z) Z)<|wD 7 Z (fC (Kr.c _) uo Z Z Z)<|wD 8 Z (bM (vs:=[I t1,I t2]) (rdr 1 Z) jw Z lC Z Z (ak Z) Z)<|wD 9 Z (fC (h_h.c _) au Z Z Z)<|wD 11 Z (fC (Kr.c _) uo Z Z Z)<|wD 12 Z (bM (vs:=[I u1,I u2]) (rdr 0 Z) jw Z lC Z Z (ak Z) Z)<|wD 13 Z (fC (h_h.c _) au Z Z Z)<|wD 16 Z (dE (q:=0) (rdr 1 Z) jw sz3 Z Z (ak Z) cC cC Z) ?_;refine wD 17 Z (yL 1 au Z Z Z)<|wD 18 Z (dE (q:=0) (rdr 0 Z) jw sz3 Z Z (ak Z) cC cC Z)<|wD 19 Z (yL 0 au Z Z Z)<|wD 21 Z (dE (q:=1) (rdr 1 Z) jw sz3 Z Z (ak Z) cC cC Z)<|wD 22 Z (yL 1 au Z Z Z)<|wD 23 Z (dE (q:=1) (rdr 0 Z) jw sz3 Z Z (ak Z) cC cC Z)<|wD 24 Z (yL 0 au Z Z Z)<|wC 2 Z (aC aHn Z (Ct.quiet (λw hw=>TC ((ci.c _) w hw) ((u9.c _) w hw) (Ok.c hw) ((gv.c _) w hw) ((u7.c _) w hw) cE cE cE cE))) ?_;rintro _ _⟨rfl,rfl⟩;refine⟨.inr hiZ,?_⟩;refine wC 5 Z (aC aHn Z (Ct.quiet (λw hw=>TC ((ci.c _) w hw) ((u9.c _) w hw) (Ok.c hw) ((gv.c _) w hw) ((u7.c _) w hw) cE cE cE cE))) ?_;rintro _ _⟨rfl,rfl⟩;refine⟨.inr hiZ,?_⟩;refine wC 6 Z (aC YR Z (Ct.quiet (λw hw=>oV))) ?_;rintro _ _⟨rfl,rfl⟩;refine⟨.inr hiZ,?_⟩;refine wC 10 Z (aC YP Z (Ct.quiet (λw hw=>wK ((ci.c _) w hw) ((u9.c _) w hw) (Ok.c hw) ((gv.c _) w hw) ((u7.c _) w hw) cE cE cE cE cE))) ?_;rintro _ _⟨rfl,rfl⟩;refine⟨.inr hiZ,?_⟩;refine wC 14 Z (aC YP Z (Ct.quiet (λw hw=>wK ((ci.c _) w hw) ((u9.c _) w hw) (Ok.c hw) ((gv.c _) w hw) ((u7.c _) w hw) cE cE cE cE cE))) ?_;rintro _ _⟨rfl,rfl⟩;refine⟨.inr hiZ,?_⟩;refine wC 15 Z (aC YR Z (Ct.quiet (λw hw=>oV))) ?_;rintro _ _⟨rfl,rfl⟩;refine⟨.inr hiZ,?_⟩;refine wC 20 Z (aC YR Z (Ct.quiet (λw hw=>oV))) ?_;rintro _ _⟨rfl,rfl⟩;refine⟨.inr hiZ,?_⟩;refine wC 25 Z (aC YR Z (Ct.quiet (λw hw=>oV))) ?_;rintro _ _⟨rfl,rfl⟩;refine⟨.inr hiZ,?_⟩;refine wC 26 Z (bQ .i64 [kG (ahd ws bs rs (t1,t2) 0) (ahd ws bs rs (u1,u2) 0),kG (ahd ws bs rs (t1,t2) h) (ahd ws bs rs (u1,u2) h),kG t1 u1,kG t2 u2] aa zs3 Z Z Z) ?_;rintro _ _⟨fd,rfl,rfl⟩;refine⟨.inr hrZ,?_⟩;refine wC 27 Z (aC bCt Z (Ct.quiet (λw hw=>aRj ((rdr 0 Z) w hw)))) ?_;rintro _ _⟨rfl,rfl⟩;refine⟨.inr hiZ,?_⟩;refine wD 28 Z (bB Z)<|wN<|aX [] 99 cC Z ?_;refine⟨_,Z,?_⟩;rfl
theorem aBe (cb:Array Value):aIl Tryz.prog 276 277 cb:=λα _ enc hk h1 cf hO du off cap d w rh hH hblk hsz=>
 Tryz.slices_SortFunc 2 (λw=>cA) (λw=>cA) enc hk h1 cf hO 277 cb du off cap d w bHy rh hH hblk hsz
theorem aDm {B:Nat} {w0:World} {R:List Row} {zc:AF} {Qk pm Vm zd:Nat} {ts:AE} (yd:Qk=ts.length) (hnb:pm=bs.length) (hnr:Vm=rs.length) (w5:RdC B w0 R z8 ws.length Cd 1 pc) (l5: ∀w,Hp B w0 w R->SlW .u8 w pc ws) (hv: ∀t∈ts,TOk ws bs rs.length t) (Pm: ∀t∈ts,∀u∈ts,iG bs t=iG bs u->t=u) (hnd:ts.Nodup) (cg:ts≠[]) (hN:rs.length<=1000000/\ts.length<=1000000) (hh:0<=h/\h<=1000000):
  CT 238 #[PG n8,sl zc Qk zd,I h] B w0 ((rc 281 4 n8 [sl z8 ws.length Cd,sl qe qv qk,sl jx pm jz,sl lz Vm mc])::⟨230,2,zc,Qk,zd,prs ts,false⟩::(ri 3 jx pm jz bs)::(ri 3 lz Vm mc rs)::R) (λv R'=> ∃(l1:AE) (rk:AH) (A':AF) (c':Nat),v=I (iK ws bs rs h l1 (l1.length-1))/\l1.Perm ts/\l1.Pairwise (λx y=> ¬aBa ws bs rs h y x<0)/\rk.length=rs.length/\(∀j:Nat,j<l1.length->rd rk (iG bs (rdp l1 j))=iK ws bs rs h l1 j)/\R'=(rc 281 4 n8 [sl z8 ws.length Cd,sl qe qv qk,sl jx pm jz,sl A' Vm c'])::⟨230,2,zc,Qk,zd,prs l1,false⟩::(ri 3 jx pm jz bs)::(ri 3 A' Vm c' rk)::R):=by
 subst yd;subst hnb;subst hnr;refine fn1 Tryz.func238 Z Z Z ?_;have Tm: ∀t∈ts,0<=iG bs t:=λt ht=>by have:=hv t ht;unfold TOk at this;unfold iG;omega
 refine wq<|wa (dC (sz:=1) Z Z) ?_;rintro _ _⟨ao,rfl,rfl⟩;refine wa (dC (sz:=1) Z Z) ?_;rintro _ _⟨ew,rfl,rfl⟩;refine wn Z<|wq<|wm Z<|wy (lM Z Z)<|wa (aC bHz Z (aBh (aBe _) 3 Z cg G (aBa ws bs rs h) (aOv ws bs rs h) (λW hW x hx y hy=>aAv ((rdr 2 Z) W hW) ((RdC.right w5 [_,_,_,_,_]) W hW) (l5 W (Hp.right (R':=[_,_,_,_,_]) hW)) ((rdr 3 Z) W hW) ((rdr 4 Z) W hW) ((rdr 1 Z) W hW) ((rdr 0 Z) W hW) (hv x hx).1 (by have:=(hv x hx).2.1;omega) (hv x hx).2.2.1 (hv x hx).2.2.2 (hv y hy).1 (by have:=(hv y hy).2.1;omega) (hv y hy).2.2.1 (hv y hy).2.2.2 hh))) ?_;rintro _ _⟨rfl,l1,qn,xl,rfl⟩;have wb:=qn.length_eq;have Uw: ∀t∈l1,TOk ws bs rs.length t:=λt ht=>hv t (qn.mem_iff.1 ht);have Pr:=qn.nodup_iff.2 hnd;refine aA<|wq<|wy (yL 1 uo Z Z Z)<|wy (aF Z)<|wy (yF 3 3 qz iL Z)<|wy (yL 2 aa Z Z Z)<|wy (aO aa Z)<|wa (dM aa zb3 Z Z) ?_;rintro _ _⟨im,rfl,rfl⟩;refine bK (v:=sl (GG im) rs.length rs.length) Z<|wn Z<|wq<|wn Z<|aD<|wq<|wm Z<|wy (aO qy Z)<|wm Z<|aA<|aI ?_;refine gW (λ(i:Int) (n:Int) (rk:AH)=>[(1,sl zc ts.length zd),(3,PG ao),(5,PG ew),(7,sl (GG im) rs.length rs.length),(8,I n),(21,sl zc ts.length zd),(22,I (ts.length:Int)),(23,I i)]) (λi n rk=>((ri 3 (GG im) rs.length rs.length rk)::(rc 3 1 ew [I h])::(rc 279 1 ao [PG n8])::(rc 281 4 n8 [sl z8 ws.length Cd,sl qe qv qk,sl jx bs.length jz,sl lz rs.length mc])::⟨230,2,zc,ts.length,zd,prs l1,false⟩::(ri 3 jx bs.length jz bs)::(ri 3 lz rs.length mc rs)::R)) (λi n rk=>(0<=i)/\(i<=l1.length)/\(0<=n/\n<=i)/\(n=iK ws bs rs h l1 (i-1).toNat)/\(rk.length=rs.length)/\(∀j:Nat,j<i->rd rk (iG bs (rdp l1 j))=iK ws bs rs h l1 j)) (λi n rk=>(l1.length-i).toNat) ?_ ?_
 ·exact⟨0,0,List.replicate rs.length (0:Int),⟨G,G,G,(Z),(by rw[cz]),(λj hj=>G)⟩,KP⟩
 intro i n rk ⟨bb,ij,hn0,hn,Nx,l4⟩;refine wq<|wL Z Z<|aA<|aD<|bA Z (λbc=> ?_) (λbc=> ?_)
 ·have hq:=Uw _ (kP bb (show i<l1.length by omega));obtain⟨⟨q1,q2,q3⟩,⟨q4,q5,q6⟩,q7,q8,q9⟩:=hq;have Py: ∀t∈l1,0<=iG bs t:=λt ht=>Tm t (qn.mem_iff.1 ht);have pe: ∀t∈l1,∀u∈l1,iG bs t=iG bs u->t=u:=λt ht u hu=>Pm t (qn.mem_iff.1 ht) u (qn.mem_iff.1 hu);refine aH<|aD<|aI<|wq<|wm Z<|wy (tO qy lC Z Z (rdr 4 Z) Z)<|wy (aFa jw Z lC Z (rdr 4 Z))<|wa (eH (sz:=2) aEv Z) ?_;rintro _ _⟨gh,rfl,rfl⟩;refine wg Z<|bY (dO (vs:=[I ((rdp l1 i).1),I ((rdp l1 i).2)]) 0 Z lC Z Z Z (by intro v hv;simp at hv;rcases hv with rfl|rfl<;>rfl) Z) ?_;rintro _ _ rfl;refine aA<|aD<|wq<|wm Z<|wy (dN Z Z)<|aA<|bA Z (λda=> ?_) (λda=> ?_)
  ·have Rk:=Uw _ (kP (show 0<=i-1 by omega) (show i-1<l1.length by omega));obtain⟨⟨p1,p2,p3⟩,⟨p4,p5,p6⟩,p7,p8,p9⟩:=Rk;refine wq<|wm Z<|wm Z<|wS Z Z<|wy (tO qy lC Z Z (rdr 5 Z) Z)<|wy (aFa jw Z lC Z (rdr 5 Z))<|wa (eH (sz:=2) aEv Z) ?_;rintro _ _⟨li,rfl,rfl⟩;refine bY (dO (vs:=[I ((rdp l1 (i-1)).1),I ((rdp l1 (i-1)).2)]) 0 Z lC Z Z Z (by intro v hv;simp at hv;rcases hv with rfl|rfl<;>rfl) Z) ?_;rintro _ _ rfl;refine aA ?_;refine zK [(1,sl zc ts.length zd),(3,PG ao),(5,PG ew),(7,sl (GG im) rs.length rs.length),(8,I n),(10,PG gh),(21,sl zc ts.length zd),(22,I (ts.length:Int)),(23,I i),(52, .bool (decide (((ahd ws bs rs (((rdp l1 (i-1)).1),((rdp l1 (i-1)).2)) 0)≠(ahd ws bs rs (((rdp l1 i).1),((rdp l1 i).2)) 0))\/((ahd ws bs rs (((rdp l1 (i-1)).1),((rdp l1 (i-1)).2)) h)≠(ahd ws bs rs (((rdp l1 i).1),((rdp l1 i).2)) h)))))] ((rc 230 2 li [I ((rdp l1 (i-1)).1),I ((rdp l1 (i-1)).2)])::(rc 230 2 gh [I ((rdp l1 i).1),I ((rdp l1 i).2)])::(ri 3 (GG im) rs.length rs.length rk)::(rc 3 1 ew [I h])::(rc 279 1 ao [PG n8])::(rc 281 4 n8 [sl z8 ws.length Cd,sl qe qv qk,sl jx bs.length jz,sl lz rs.length mc])::⟨230,2,zc,ts.length,zd,prs l1,false⟩::(ri 3 jx bs.length jz bs)::(ri 3 lz rs.length mc rs)::R) ?_ ?_
   ·refine bL mixed<|wD 0 Z (yL 4 uo Z Z Z)<|wD 1 Z (bM (vs:=[I ((rdp l1 (i-1)).1),I ((rdp l1 (i-1)).2)]) (rdr 0 Z) jw Z lC Z Z (ak Z) Z)<|wD 3 Z (yL 4 uo Z Z Z)<|wD 4 Z (bM (vs:=[I ((rdp l1 i).1),I ((rdp l1 i).2)]) (rdr 1 Z) jw Z lC Z Z (ak Z) Z)<|wC 2 Z (aC aHn Z (Ct.quiet (λw hw=>TC ((rdr 5 Z) w hw) ((RdC.right w5 [_,_,_,_,_,_,_,_,_]) w hw) (l5 w (Hp.right (R':=[_,_,_,_,_,_,_,_,_]) hw)) ((rdr 7 Z) w hw) ((rdr 8 Z) w hw) cE cE cE cE))) ?_;rintro _ _⟨rfl,rfl⟩;refine⟨.inr hiZ,?_⟩;refine wC 5 Z (aC aHn Z (Ct.quiet (λw hw=>TC ((rdr 5 Z) w hw) ((RdC.right w5 [_,_,_,_,_,_,_,_,_]) w hw) (l5 w (Hp.right (R':=[_,_,_,_,_,_,_,_,_]) hw)) ((rdr 7 Z) w hw) ((rdr 8 Z) w hw) cE cE cE cE))) ?_;rintro _ _⟨rfl,rfl⟩;refine⟨.inr hiZ,?_⟩;refine wD 6 Z (iI Z Z)<|wD 7 Z (aK Z)<|rG 42 Z (λfk=> ?_) (λfk=> ?_)
    ·refine wO 8 Z Z Z<|wO 9 Z Z Z<|wO 10 Z Z Z<|wO 11 Z Z Z<|wO 12 Z Z Z<|wO 13 Z Z Z<|wO 14 Z Z Z<|wO 15 Z Z Z<|wO 16 Z Z Z<|wD 17 Z (aQ Z Z)<|wN ?_;exact KP
    ·refine wG 8 Z Z Z (yL 4 uo Z Z Z)<|wG 9 Z Z Z (bM (vs:=[I ((rdp l1 (i-1)).1),I ((rdp l1 (i-1)).2)]) (rdr 0 Z) jw Z lC Z Z (ak Z) Z)<|wG 10 Z Z Z (yL 3 au Z Z Z)<|wG 12 Z Z Z (yL 4 uo Z Z Z)<|wG 13 Z Z Z (bM (vs:=[I ((rdp l1 i).1),I ((rdp l1 i).2)]) (rdr 1 Z) jw Z lC Z Z (ak Z) Z)<|wG 14 Z Z Z (yL 3 au Z Z Z)<|uY 11 Z cA Z Z Z (aC YP Z (Ct.quiet (λw hw=>wK ((rdr 5 Z) w hw) ((RdC.right w5 [_,_,_,_,_,_,_,_,_]) w hw) (l5 w (Hp.right (R':=[_,_,_,_,_,_,_,_,_]) hw)) ((rdr 7 Z) w hw) ((rdr 8 Z) w hw) cE cE cE cE cE))) ?_;rintro _ _⟨rfl,rfl⟩;refine⟨.inr hiZ,?_⟩;refine uY 15 Z cA Z Z Z (aC YP Z (Ct.quiet (λw hw=>wK ((rdr 5 Z) w hw) ((RdC.right w5 [_,_,_,_,_,_,_,_,_]) w hw) (l5 w (Hp.right (R':=[_,_,_,_,_,_,_,_,_]) hw)) ((rdr 7 Z) w hw) ((rdr 8 Z) w hw) cE cE cE cE cE))) ?_;rintro _ _⟨rfl,rfl⟩;refine⟨.inr hiZ,?_⟩;refine wG 16 Z Z Z (iI Z Z)<|wD 17 Z (aP Z Z)<|wN ?_;exact KP
   refine bA Z (λiu=> ?_) (λiu=> ?_)
   ·refine aJ<|wm Z<|wA Z Z<|wn Z<|bL mixed<|wD 0 Z (aK Z)<|wD 1 Z (yL 4 uo Z Z Z)<|wD 2 Z (aF Z)<|wD 3 Z (yF 2 2 qz iL Z)<|wD 4 Z (yL 5 aa Z Z Z)<|wD 5 Z (dE (q:=0) (rdr 1 Z) jw sz3 Z Z (ak Z) cC cC Z)<|wD 6 Z (yL 1 au Z Z Z)<|wD 7 Z (aG aa sz3 Z Z (rdr 7 Z))<|wD 8 Z (aW au Z Z (rdr 7 Z)) ?_;refine wD 9 Z (dE (q:=1) (rdr 1 Z) jw sz3 Z Z (ak Z) cC cC Z)<|wD 10 Z (yL 1 au Z Z Z)<|wD 11 Z (dK Z Z)<|wD 12 Z (aK Z)<|wD 13 Z (aG aa sz3 Z Z (rdr 2 Z))<|qG 14 Z cA (bG 2 Z sz3 Z Z) ?_;rintro _ _ rfl;refine⟨.inl cA,?_⟩;refine wN<|aJ<|wA Z Z<|wm Z<|aA ?_;exact⟨i+1,n+1,upd rk ((rd bs ((rdp l1 i).1))+((rdp l1 i).2)) (n+1),⟨G,G,G,(by rw[show i+1-1=i by omega,xQ G,di cF,<-hn]),(by rw[upd,Gh];exact Nx),(yQ Pr pe bb G Py (by unfold iG;omega) l4 (by have e:(i+1-1)=i:=G;have hc:=(by rw[show i+1-1=i by omega,xQ G,di cF,<-hn]:_=iK ws bs rs h l1 (i+1-1).toNat);rw[e] at hc;exact hc))⟩,G,SA,λ_ h=>h.selR (F:=[_,_,_,_,_,_,_,_,_]) (F':=[_,_,_,_,_,_,_]) [2,3,4,5,6,7,8] cC Z⟩
   ·refine aH<|bL mixed<|wD 0 Z (aK Z)<|wD 1 Z (yL 4 uo Z Z Z)<|wD 2 Z (aF Z)<|wD 3 Z (yF 2 2 qz iL Z)<|wD 4 Z (yL 5 aa Z Z Z)<|wD 5 Z (dE (q:=0) (rdr 1 Z) jw sz3 Z Z (ak Z) cC cC Z)<|wD 6 Z (yL 1 au Z Z Z)<|wD 7 Z (aG aa sz3 Z Z (rdr 7 Z))<|wD 8 Z (aW au Z Z (rdr 7 Z))<|wD 9 Z (dE (q:=1) (rdr 1 Z) jw sz3 Z Z (ak Z) cC cC Z)<|wD 10 Z (yL 1 au Z Z Z)<|wD 11 Z (dK Z Z)<|wD 12 Z (aK Z) ?_;refine wD 13 Z (aG aa sz3 Z Z (rdr 2 Z))<|qG 14 Z cA (bG 2 Z sz3 Z Z) ?_;rintro _ _ rfl;refine⟨.inl cA,?_⟩;refine wN<|aJ<|wA Z Z<|wm Z<|aA ?_;exact⟨i+1,n,upd rk ((rd bs ((rdp l1 i).1))+((rdp l1 i).2)) n,⟨G,G,G,(by rw[show i+1-1=i by omega,xQ G,df cF,<-hn,zm]),(by rw[upd,Gh];exact Nx),(yQ Pr pe bb G Py (by unfold iG;omega) l4 (by have e:(i+1-1)=i:=G;have hc:=(by rw[show i+1-1=i by omega,xQ G,df cF,<-hn,zm]:_=iK ws bs rs h l1 (i+1-1).toNat);rw[e] at hc;exact hc))⟩,G,SA,λ_ h=>h.selR (F:=[_,_,_,_,_,_,_,_,_]) (F':=[_,_,_,_,_,_,_]) [2,3,4,5,6,7,8] cC Z⟩
  ·refine aH<|bL mixed<|wD 0 Z (aK Z)<|wD 1 Z (yL 3 uo Z Z Z)<|wD 2 Z (aF Z)<|wD 3 Z (yF 2 2 qz iL Z)<|wD 4 Z (yL 4 aa Z Z Z)<|wD 5 Z (dE (q:=0) (rdr 0 Z) jw sz3 Z Z (ak Z) cC cC Z)<|wD 6 Z (yL 0 au Z Z Z)<|wD 7 Z (aG aa sz3 Z Z (rdr 6 Z))<|wD 8 Z (aW au Z Z (rdr 6 Z))<|wD 9 Z (dE (q:=1) (rdr 0 Z) jw sz3 Z Z (ak Z) cC cC Z)<|wD 10 Z (yL 0 au Z Z Z)<|wD 11 Z (dK Z Z)<|wD 12 Z (aK Z) ?_;refine wD 13 Z (aG aa sz3 Z Z (rdr 1 Z))<|qG 14 Z cA (bG 1 Z sz3 Z Z) ?_;rintro _ _ rfl;refine⟨.inl cA,?_⟩;refine wN<|aJ<|wA Z Z<|wm Z<|aA ?_;exact⟨i+1,n,upd rk ((rd bs ((rdp l1 i).1))+((rdp l1 i).2)) n,⟨G,G,G,(by have h0:i=0:=G;subst h0;exact hn),(by rw[upd,Gh];exact Nx),(yQ Pr pe bb G Py (by unfold iG;omega) l4 (by have e:(i+1-1)=i:=G;have hc:=(by have h0:i=0:=G;subst h0;exact hn:_=iK ws bs rs h l1 (i+1-1).toNat);rw[e] at hc;exact hc))⟩,G,SA,λ_ h=>h.selR (F:=[_,_,_,_,_,_,_,_]) (F':=[_,_,_,_,_,_,_]) [1,2,3,4,5,6,7] cC Z⟩
 ·refine aS<|wq<|wy (yL 2 uo Z Z Z)<|wm Z<|wy (aF Z)<|wy (yF 3 3 qz iL Z)<|bY (aZ 3 Z Z Z iL Z Z Z Z (ak Z)) ?_;rintro _ _ rfl;refine aA<|wq<|wm Z<|wn Z<|aX [3,4,5,0] 7 cC Z ?_;refine⟨_,Z,?_⟩;obtain rfl:i=l1.length:=G
  refine⟨l1,rk,_,_,?_,qn,xl,Nx,λj hj=>l4 j G,Z⟩;rw[hn,show((l1.length:Int)-1).toNat=l1.length-1 by omega]
variable {w:World}
theorem aMz {ln:AF} {py ml:Nat} {l:AE} (lj:Rd w ln py ml 2 (prs l)) (hN:l.length<=1000000):
  CF 237 #[sl ln py ml] w (λv R'=> ∃A c,v=sl A l.length c/\R'=[⟨230,2,A,l.length,c,prs l,false⟩]):=by
 obtain rfl:py=l.length:=by have:=lj.len;rw[nQ] at this;omega
 refine fn1 Tryz.func237 Z Z Z ?_;refine wq<|wn Z<|aD<|wq<|wm Z<|wy (aEy qy Z Z)<|aA<|IQ Z (λbc=> ?_) (λbc=> ?_)
 ·refine wq<|wn Z<|bN (R1:=[⟨230,2,none,0,0,prs [],false⟩]) (λ_ h=>h.nilP 230) ?_;refine⟨_,Z,?_⟩;have hA:ln=none:=by simpa using bc
  subst hA;obtain rfl:=aQu lj;exact⟨none,0,Z,Z⟩
 ·refine aH<|wq<|wa (bAw qy bBe) ?_;rintro _ _⟨db,rfl,rfl⟩;refine wm Z<|wa (RN 0 Z qy bBf Z Z Z Z (lj.c _) G) ?_;rintro _ _⟨fg,fi,rfl,rfl⟩;refine bK (v:=sl fg (0+l.length) fi) Z<|wn Z<|bN (R1:=[⟨230,2,fg,(0+l.length),fi,prs (([])++l),false⟩]) hiZ ?_;refine⟨_,Z,?_⟩;simp only[mg,ig];exact⟨_,_,Z,Z⟩
theorem VE {bl:AF} {cm bm:Nat} {ap:AG} {ws:AD} (ba:Rd w bl cm bm 1 ap) (bp:SlW .u8 w ap ws) (hN:ws.flatten.length<=400000/\ws.length<=1000000):
  CF 179 #[sl bl cm bm] w (λv R'=> ∃(l:AE) (A:AF) (c:Nat),v=sl A l.length c/\l.Perm (iD ws ws.length)/\l.Pairwise (pO ws)/\R'=[⟨230,2,A,l.length,c,prs l,false⟩]):=by
 obtain rfl:cm=ws.length:=by have:=ba.len;have:=bp.1;omega
 refine fn1 Tryz.func179 Z Z Z ?_;have ob:=ba.max;have qu:=hN.1;refine wq<|wn Z<|wq<|wm Z<|wy (gV (v:= .agg #[sl bl ws.length bm,sl none 0 0,sl none 0 0,sl none 0 0]) Z (λw=>cA))<|wa (dC (sz:=4) rfl rfl) ?_;rintro _ _⟨ao,rfl,rfl⟩;refine bR (R1:=[⟨230,2,none,0,0,prs ([]),false⟩,(ri 3 none 0 0 ([])),(ri 3 none 0 0 ([])),(rc 281 4 ao [sl bl ws.length bm,sl none 0 0,sl none 0 0,sl none 0 0])]) (Sub.refl _) (λ_ h=>((h.nil 3 1).nil 3 1).nilP 230)<|wn Z<|wq<|wn Z<|aD<|wq<|wm Z<|wy (aO ay Z)<|wm Z<|aA<|aI ?_;refine aOk (λ(k:Int) (lg:Int) (A1:AF) (n1:Nat) (c1:Nat) (T:AE) (A2:AF) (n2:Nat) (c2:Nat) (Bs:AH) (A3:AF) (n3:Nat) (c3:Nat) (Rs:AH)=>[(3,PG ao),(4,I lg),(16,sl bl ws.length bm),(17,I (ws.length:Int)),(18,I k)]) (λk lg A1 n1 c1 T A2 n2 c2 Bs A3 n3 c3 Rs=>[⟨230,2,A1,n1,c1,prs T,false⟩,(ri 3 A2 n2 c2 Bs),(ri 3 A3 n3 c3 Rs),(rc 281 4 ao [sl bl ws.length bm,sl A1 n1 c1,sl A2 n2 c2,sl A3 n3 c3])]) (λk lg A1 n1 c1 T A2 n2 c2 Bs A3 n3 c3 Rs=>(0<=k)/\(k<=ws.length)/\(0<=lg/\lg<=400000)/\(∀w:Int,0<=w->w<k->((rdl ws w).length:Int)<=lg)/\(lg=0/\nT ws k.toNat=0\/0<lg/\0<nT ws k.toNat)/\(T=iD ws k.toNat)/\(n1=nT ws k.toNat)/\(Bs=rT ws k.toNat)/\(n2=k.toNat)/\(Rs=(ws.take k.toNat).flatten)/\(n3=nT ws k.toNat)) (λk lg A1 n1 c1 T A2 n2 c2 Bs A3 n3 c3 Rs=>(ws.length-k).toNat) ?_ ?_
 ·exact⟨0,0,none,0,0,[],none,0,0,[],none,0,0,[],⟨G,G,G,(λw h0 h1=>G),(.inl ⟨rfl,rfl⟩),(rfl),(rfl),(rfl),(rfl),(rfl),(rfl)⟩,KP⟩
 intro k lg A1 n1 c1 T A2 n2 c2 Bs A3 n3 c3 Rs ⟨ld,yr,hg0,Zl,Fo,hT,Tx,Qn,hnB,Ox,hnR⟩;refine wq<|wL Z Z<|aA<|aD<|bA Z (λbc=> ?_) (λbc=> ?_)
 ·have Zv:=lW ld (show k<ws.length by omega);have hole:=aGl ws (k+1).toNat;refine aH<|aD<|aI<|wq<|wm Z<|wy (aG ay dP Z Z (ba.c _)) ?_;obtain⟨kj,kl,hv_4,Um,hb_6,mhr_5⟩:=bp.at (i:=k) G G;refine wy (pI ah Z Z Z (ba.c _) hv_4)<|wg Z<|wn Z<|aD<|bL mixed<|wD 0 Z (aK Z)<|wD 1 Z (aK Z)<|wD 2 Z (aF Z)<|wD 3 Z (yF 2 2 qz iL Z)<|wD 4 Z (yL 3 aa Z Z Z)<|wD 5 Z (aK Z)<|wD 6 Z (aF Z)<|wD 7 Z (yF 1 1 qz VQ Z)<|wD 8 Z (yL 3 qy Z Z Z) ?_;refine wD 9 Z (aO qy Z)<|wC 10 Z (bQ .i64 [(n1:Int)] aa zs3 Z Z Z) ?_;rintro _ _⟨u3,rfl,rfl⟩;refine⟨.inr hrZ,?_⟩;refine wC 11 Z (aY 2 Z aa zb3 Z Z Z (rdr 0 Z)) ?_;rintro _ _⟨en,cj,rfl,rfl⟩;refine⟨.inl cA,?_⟩;refine jS (v:=sl en (n2+1) cj) Z<|wD 12 Z (aF Z)<|wD 13 Z (yF 2 2 qz iL Z)<|qG 14 Z cA (aZ 4 Z Z Z iL Z Z Z Z (ak Z)) ?_;rintro _ _ rfl;refine⟨.inl cA,?_⟩;refine wN<|wq<|wm Z<|wm Z<|wy (aO ah Z)<|wy (aOa Z Z)<|wn Z<|wq<|wm Z<|wy (aO ah Z)<|wm Z<|aA ?_;refine aI ?_;refine RZ (λ(j:Int) (B1:AF) (m1:Nat) (d1:Nat) (U:AE) (B3:AF) (m3:Nat) (d3:Nat) (V:AH)=>[(3,PG ao),(4,I (max lg (((rdl ws k).length:Nat):Int))),(5,I k),(16,sl bl ws.length bm),(17,I (ws.length:Int)),(18,I k),(41,sl kj ((rdl ws k).length) kl),(42,I (((rdl ws k).length:Nat):Int)),(43,I j)]) (λj B1 m1 d1 U B3 m3 d3 V=>[(ri 3 (GG u3) 1 1 ([(n1:Int)])),⟨230,2,B1,m1,d1,prs U,false⟩,(ri 3 en (n2+1) cj (Bs++([(n1:Int)]))),(ri 3 B3 m3 d3 V),(rc 281 4 ao [sl bl ws.length bm,sl B1 m1 d1,sl en (n2+1) cj,sl B3 m3 d3])]) (λj B1 m1 d1 U B3 m3 d3 V=>(0<=j)/\(j<=(rdl ws k).length)/\(U=iD ws k.toNat++turnsOf k j.toNat)/\(m1=nT ws k.toNat+j.toNat)/\(V=(ws.take k.toNat).flatten++(rdl ws k).take j.toNat)/\(m3=nT ws k.toNat+j.toNat)) (λj B1 m1 d1 U B3 m3 d3 V=>((rdl ws k).length-j).toNat) ?_ ?_
  ·exact⟨0,A1,n1,c1,T,A3,n3,c3,Rs,⟨G,G,(by rw[hT];exact(ji _).symm),(Tx),(by rw[Ox];exact(ji _).symm),(hnR)⟩,KP⟩
  intro j B1 m1 d1 U B3 m3 d3 V ⟨b8,Pn,hU,nd,hV,hm3⟩;refine wq<|wL Z Z<|aA<|aD<|bA Z (λda=> ?_) (λda=> ?_)
  ·refine aH<|aD<|aI<|wq<|wm Z<|wy (aG ah sz5 Z Z (Um.c _))<|wy (aW dh Z Z (Um.c _))<|wg Z<|wn Z<|wq<|wm Z<|wm Z ?_;refine wy (aF Z)<|wy (yF 1 1 qz VQ Z)<|wy (yL 4 qy Z Z Z)<|wm Z<|wm Z<|wy (gV (v:= .agg #[I k,I j]) Z (λw=>cA))<|wa (bFs qy bBe rfl) ?_;rintro _ _⟨n5,rfl,rfl⟩;refine wa (RN 2 Z qy bBf Z Z Z Z (rdr 0 Z) G) ?_;rintro _ _⟨fa,fb,rfl,rfl⟩;refine bK (v:=sl fa (m1+1) fb) Z<|wy (aF Z)<|wy (yF 1 1 qz VQ Z)<|bY (aZ 5 Z Z Z VQ Z Z Z Z (ak Z)) ?_;rintro _ _ rfl;refine aA<|aJ<|wm Z<|wm Z<|wy (aF Z)<|wy (yF 3 3 qz iL Z)<|wy (yL 5 aa Z Z Z)<|wm Z<|wy (jJ dh au Z (by have Ku:=(byteL_wf (by assumption: ∀x∈rdl ws k,(Lit.int .u8 x).wf=true)).rd j;omega)) ?_;refine wa (bQ .i64 [rd (rdl ws k) j] aa zs3 Z Z Z) ?_;rintro _ _⟨tj,rfl,rfl⟩;refine wa (aY 5 Z aa zb3 Z Z Z (rdr 0 Z)) ?_;rintro _ _⟨gn,go,rfl,rfl⟩;refine bK (v:=sl gn (m3+1) go) Z<|wy (aF Z)<|wy (yF 3 3 qz iL Z)<|bY (aZ 6 Z Z Z iL Z Z Z Z (ak Z)) ?_;rintro _ _ rfl;refine aA<|aJ<|wA Z Z<|wm Z<|aA ?_;exact⟨j+1,fa,(m1+1),fb,U++([(k,j)]),gn,(m3+1),go,V++([rd (rdl ws k) j]),⟨G,G,(by rw[hU,SE k b8,ek]),G,(by rw[hV,ek,dF b8 G]),G⟩,G,SA,λ_ h=>h.sel [2,3,4,5,6] cC Z⟩
  ·refine aS<|aJ<|wA Z Z<|wm Z<|aA ?_
   exact⟨k+1,max lg (((rdl ws k).length:Nat):Int),B1,m1,d1,U,en,(n2+1),cj,Bs++([(n1:Int)]),B3,m3,d3,V,⟨G,G,G,(λw h0 h1=>by
      by_cases hw:w=k
      ·rw[hw];omega
      ·have:=Zl w h0 G;omega),(by have Zv:=lW ld (show k<ws.length by omega);omega),(by have hj:j.toNat=(rdl ws k).length:=G;rw[hU,hj,aAx ld]),(by rw[nd,lW ld G];omega),(by rw[Qn,aEh ld,Tx]),G,(by have hj:j.toNat=(rdl ws k).length:=G;rw[hV,hj,qa,gJ ld G]),(by rw[hm3,lW ld G];omega)⟩,G,SA,λ_ h=>h.sel [1,2,3,4] cC rfl⟩
 ·have Zj:k=ws.length:=G
  have Qy:k.toNat=ws.length:=G
  rw[Qy] at hT Qn Ox Tx hnB hnR Fo;rw[qa] at Ox;have hoT:=DF ws ws.length (dn _);have hoB:=RG ws ws.length;have hoR:nT ws ws.length=ws.flatten.length:=by unfold nT;rw[qa]
  obtain rfl:n1=T.length:=by rw[hT];omega
  obtain rfl:n2=Bs.length:=by rw[Qn];omega
  obtain rfl:n3=Rs.length:=by rw[Ox];omega
  have Sv:T.length<=1000000:=by rw[hT];omega
  refine aS<|wq<|wm Z<|wy (aF Z)<|wy (yF 1 1 qz VQ Z)<|wy (yL 3 qy Z Z Z)<|wa (aC bIl Z (Ct.fresh (λw hw=>aMz ((rdr 0 Z) w hw) Sv))) ?_;rintro _ _⟨_,rfl,f9,i4,rfl,rfl⟩;refine wn Z<|wq<|wn Z<|aD<|wq<|wn Z<|aI ?_;refine pJ (λ(h:Int) (Qm:Int) (l:AE) (A4:AF) (c4:Nat) (rs:AH)=>[(3,PG ao),(4,I lg),(9,sl f9 T.length i4),(10,I Qm),(11,I h)]) (λh Qm l A4 c4 rs=>[⟨230,2,f9,T.length,i4,prs l,false⟩,⟨230,2,A1,T.length,c1,prs T,false⟩,(ri 3 A2 Bs.length c2 Bs),(ri 3 A4 Rs.length c4 rs),(rc 281 4 ao [sl bl ws.length bm,sl A1 T.length c1,sl A2 Bs.length c2,sl A4 Rs.length c4])]) (λh Qm l A4 c4 rs=>(0<=h)/\(l.Perm T)/\(rs.length=Rs.length)/\(RK ws Bs (mW h) rs)/\(0<h->Sorted ws (mW h) l/\Go.Pure.Steps Bs rs l Qm)) (λh Qm l A4 c4 rs=>(2*lg-h).toNat) ?_ ?_
  ·exact⟨0,-1,T,A3,c3,Rs,⟨G,(.refl _),(Z),(by rw[Ox,Qn];exact aPu ws),(λh=>absurd h G)⟩,KP⟩
  intro h Qm l A4 c4 rs ⟨Wi,Mm,Rl,Wc,ff⟩;have Ro: ∀t∈l,TV ws t:=λt ht=>uF.1 (by rw[<-hT];exact Mm.mem_iff.1 ht);have hvv: ∀t∈l,TOk ws Bs rs.length t:=λt ht=>by rw[Rl,Ox,Qn];exact bAt G (Ro t ht)
  have pe: ∀t∈l,∀u∈l,iG Bs t=iG Bs u->t=u:=λt ht u hu e=>aQw (Ro t ht) (Ro u hu) (by rw[<-Qn];exact e);have hnd:l.Nodup:=Mm.nodup_iff.2 (by rw[hT];exact vC ws _);have Wr:Rs.length=ws.flatten.length:=by rw[Ox]
  have ua:=Mm.length_eq;have hTo:T.length=nT ws ws.length:=by rw[hT];exact hoT
  refine aD<|wq<|wm Z<|wm Z<|wy (iW Z Z)<|wL Z Z<|aA<|bA Z (λfk=> ?_) (λfk=> ?_)
  ·have cg:l≠[]:=λe=>by rw[e] at ua;simp only[jg] at ua;omega
   refine aH<|aD<|aI<|wq<|wm Z<|wm Z<|wm Z<|bR (R1:=[(rc 281 4 ao [sl bl ws.length bm,sl A1 T.length c1,sl A2 Bs.length c2,sl A4 Rs.length c4]),⟨230,2,f9,T.length,i4,prs l,false⟩,(ri 3 A2 Bs.length c2 Bs),(ri 3 A4 Rs.length c4 rs),⟨230,2,A1,T.length,c1,prs T,false⟩]) (Sub.refl _) (λ_ h=>h.sel [4,0,2,3,1] cC Z)<|wa (aC bIk Z (aDm (bs:=Bs) (rs:=rs) (ts:=l) ua.symm Z Rl.symm (ba.c _) (λw hw=>bp.c hw) hvv pe hnd cg ⟨G,G⟩ ⟨Wi,G⟩)) ?_;rintro _ _⟨sn,Oj,pf,pi,rfl,ke,Mv,Tr,d4,rfl⟩;have Hx:Sorted ws (gI h) sn:=⟨λt ht=>Ro t (ke.mem_iff.1 ht),ke.nodup_iff.2 hnd,Mv.imp_of_mem λ{x y} hx hy hn ho=>hn ((aOw Wi Wc (Ro y (ke.mem_iff.1 hy)) (Ro x (ke.mem_iff.1 hx))).2 ho)⟩;have Nj: ∀t,TV ws t->t∈sn:=λt ht=>ke.mem_iff.2 (Mm.mem_iff.2 (by rw[hT];exact uF.2 ht));have Yb:=aXp Wi Wc Hx Nj d4;have hst2:=aBc Wi Wc Hx d4;have ki:=ke.length_eq;refine wn Z<|aD<|wq<|wm Z<|wm Z<|wy (gT Z Z)<|wm Z<|dD 3 [(3,PG ao),(4,I lg),(9,sl f9 T.length i4),(11,I h),(12,I (iK ws Bs rs h sn (sn.length-1))),(95, .bool (decide (((iK ws Bs rs h sn (sn.length-1))=Qm)/\(0<h))))] [(rc 281 4 ao [sl bl ws.length bm,sl A1 T.length c1,sl A2 Bs.length c2,sl pf Rs.length pi]),⟨230,2,f9,T.length,i4,prs sn,false⟩,(ri 3 A2 Bs.length c2 Bs),(ri 3 pf Rs.length pi Oj),⟨230,2,A1,T.length,c1,prs T,false⟩] ?_ ?_
   ·refine bP 92 Z (λiu=> ?_) (λiu=> ?_)
    ·refine aB Z Z<|wm Z<|aB Z Z<|wy (dN Z Z)<|wy (aQ Z Z)<|aA ?_;exact KP
    ·refine aM Z Z Z Z<|aM Z Z Z Z<|wy (aP Z Z)<|aA ?_;exact KP
   refine aA<|bA Z (λkt=> ?_) (λkt=> ?_)
   ·refine aS<|wq<|wm Z<|wn Z<|aX [1] 99 cC Z ?_;refine⟨_,Z,?_⟩;have mw:T.length=sn.length:=G
    rw[mw];refine⟨sn,_,_,Z,?_,?_,Z⟩
    ·rw[<-hT];exact ke.trans Mm
    ·exact stay kt.2 Wc Hx Nj ke (ff kt.2).2 kt.1
   ·refine aH<|aJ<|wm Z<|wn Z<|aJ<|wm Z<|wy (iW Z Z)<|wy (aOa Z Z)<|wn Z ?_;exact⟨max 1 (2*h),iK ws Bs rs h sn (sn.length-1),sn,pf,pi,Oj,⟨G,(ke.trans Mm),G,(by have e:mW (max 1 (2*h))=gI h:=(by unfold mW gI;split<;>omega);rw[e];exact Yb),(λ_=>by have e:mW (max 1 (2*h))=gI h:=(by unfold mW gI;split<;>omega);rw[e];exact⟨Hx,hst2⟩)⟩,G,SA,λ_ h=>h.sel [1,4,2,3,0] cC rfl⟩
  ·refine aS<|wq<|wm Z<|wn Z<|aX [0] 99 cC Z ?_;refine⟨_,Z,?_⟩;have mw:T.length=l.length:=G
   rw[mw];refine⟨l,_,_,Z,?_,?_,Z⟩
   ·rw[<-hT];exact Mm
   ·by_cases h0:0<h
    ·refine (ff h0).1.toO λt u ht hu e=>YI ht hu ?_ e;have a:=Zl t.1 ht.1 (by rw[Zj];exact ht.2.1);have b:=Zl u.1 hu.1 (by rw[Zj];exact hu.2.1);unfold mW;omega
    ·have v7:l=[]:=dx G;rw[v7];exact .nil
theorem aDf {w:World} {an:AF} {ar am:Nat} {u:AH} (al:Rd w an ar am 1 (ints .u8 u)) (hN:u.length<=1000000):
  CF 178 #[sl an ar am] w (λv R'=> ∃A c,v=sl A (fT u).length c/\R'=[(ri 3 A ((fT u).length) c (fT u))]):=by
 obtain rfl:=al.lenI;refine fn1 Tryz.func178 Z Z Z ?_;have mv:=al.max;refine wq<|wn Z<|wq<|bR (R1:=[(ri 3 none 0 0 ([]))]) (Sub.refl _) (λ_ h=>h.nil 3 1)<|wn Z<|aD<|wq<|wn Z<|aI ?_;refine jK (λ(a:Int) (A1:AF) (n1:Nat) (c1:Nat) (acc:AH)=>[(0,sl an u.length am),(3,sl A1 n1 c1),(4,I a)]) (λa A1 n1 c1 acc=>[(ri 3 A1 n1 c1 acc)]) (λa A1 n1 c1 acc=>(0<=a)/\(a<=u.length)/\(n1=acc.length)/\(acc.length<=a)/\(fT u=acc++fT (u.drop a.toNat))) (λa A1 n1 c1 acc=>(u.length-a).toNat) ?_ ?_
 ·exact⟨0,none,0,0,[],⟨G,G,(Z),cD,(Z)⟩,KP⟩
 intro a A1 n1 c1 acc ⟨We,ha1,dp,Wl,Ph⟩;refine aD<|wq<|wm Z<|wm Z<|wy (aO ah Z)<|wL Z Z<|aA<|bA Z (λbc=> ?_) (λbc=> ?_)
 ·refine aH<|aI<|wq<|wm Z<|wm Z<|wA Z Z<|wg Z<|wn Z<|aD<|aI ?_;refine dS (λ(i:Int) (j:Int)=>[(0,sl an u.length am),(3,sl A1 n1 c1),(4,I a),(5,I i),(6,I j)]) (λi j=>[(ri 3 A1 n1 c1 acc)]) (λi j=>(a<=i)/\(i<j)/\(j<=u.length)/\(tN u a (j-i))/\(tJ u a (j-i) (j-a))) (λi j=>(u.length-j).toNat) ?_ ?_
  ·exact⟨a,a+1,⟨G,G,G,(FN.1),(FN.2)⟩,KP⟩
  intro i j ⟨Ks,pe,hj,hL,hP⟩;refine aD ?_;refine zK [(0,sl an u.length am),(3,sl A1 n1 c1),(4,I a),(5,I i),(6,I j),(28, .bool (decide ((j<(u.length:Int))/\((rd u i)<=(rd u j)))))] [(ri 3 A1 n1 c1 acc)] ?_ ?_
  ·refine bL mixed<|wD 0 Z (aK Z)<|wD 1 Z (aK Z)<|wD 2 Z (aO ah Z)<|wD 3 Z (fO Z Z)<|wD 4 Z (aK Z)<|rG 18 Z (λda=> ?_) (λda=> ?_)
   ·refine wG 5 Z Z Z (aK Z)<|wG 6 Z Z Z (aK Z)<|wG 7 Z Z Z (aG ah sz5 Z Z (al.c _))<|wG 8 Z Z Z (aW dh Z Z (al.c _))<|wG 9 Z Z Z (aK Z)<|wG 10 Z Z Z (aK Z)<|wG 11 Z Z Z (aG ah sz5 Z Z (al.c _))<|wG 12 Z Z Z (aW dh Z Z (al.c _))<|wG 13 Z Z Z (uV Z Z)<|wD 14 Z (aQ Z Z)<|wN ?_;exact KP
   ·refine wO 5 Z Z Z<|wO 6 Z Z Z<|wO 7 Z Z Z<|wO 8 Z Z Z<|wO 9 Z Z Z<|wO 10 Z Z Z<|wO 11 Z Z Z<|wO 12 Z Z Z<|wO 13 Z Z Z<|wD 14 Z (aP Z Z)<|wN ?_;exact KP
  refine bA Z (λfk=> ?_) (λfk=> ?_)
  ·refine aH<|aI<|aD<|aD<|bL mixed<|wD 0 Z (aK Z)<|wD 1 Z (aK Z)<|wD 2 Z (aG ah sz5 Z Z (al.c _))<|wD 3 Z (aW dh Z Z (al.c _))<|wD 4 Z (aK Z)<|wD 5 Z (aK Z)<|wD 6 Z (aG ah sz5 Z Z (al.c _))<|wD 7 Z (aW dh Z Z (al.c _))<|wD 8 Z (fO Z Z)<|wN ?_;refine bA Z (λiu=> ?_) (λiu=> ?_)
   ·refine aJ<|wm Z<|wn Z<|aJ<|wm Z<|wA Z Z<|wn Z ?_;exact⟨a,j+1,⟨G,G,G,((YS We Ks pe hL hP iu).1),((YS We Ks pe hL hP iu).2)⟩,G,KP⟩
   ·refine aJ<|wm Z<|wA Z Z<|wn Z<|aJ<|wm Z<|wA Z Z<|wn Z ?_;exact⟨i+1,j+1,⟨G,G,G,((YT We Ks pe hL hP fk.2 iu).1),((YT We Ks pe hL hP fk.2 iu).2)⟩,G,KP⟩
  ·refine aS<|aI ?_;refine jK (λ(b:Int) (A2:AF) (n2:Nat) (c2:Nat) (vi:AH)=>[(0,sl an u.length am),(3,sl A2 n2 c2),(4,I b),(5,I i),(6,I j)]) (λb A2 n2 c2 vi=>[(ri 3 A2 n2 c2 vi)]) (λb A2 n2 c2 vi=>(a<=b)/\(b<=j)/\(n2=vi.length)/\(vi.length<=b)/\(fT u=vi++fT (u.drop b.toNat))/\(b<=i->tN u b (j-i)/\tJ u b (j-i) (j-b))) (λb A2 n2 c2 vi=>(j-b).toNat) ?_ ?_
   ·exact⟨a,A1,n1,c1,acc,⟨G,G,(dp),(Wl),(Ph),(λ_=>⟨hL,hP⟩)⟩,KP⟩
   intro b A2 n2 c2 vi ⟨vu,pj,nw,Zn,Ns,Vy⟩;refine aD<|wq<|wm Z<|wm Z<|wy (uV Z Z)<|aA<|bA Z (λkt=> ?_) (λkt=> ?_)
   ·refine aH<|aI<|wq<|wm Z<|wm Z<|wm Z<|wS Z Z<|wa (bQ .i64 [j-i] aa zs3 Z Z Z) ?_;rintro _ _⟨db,rfl,rfl⟩;refine wa (aY 1 Z aa zb3 Z Z Z (rdr 0 Z)) ?_;rintro _ _⟨fg,fi,rfl,rfl⟩;refine bK (v:=sl fg (n2+1) fi) Z<|wn Z<|aJ<|wm Z<|wm Z<|wm Z<|wS Z Z<|wA Z Z<|wn Z ?_;exact⟨b+(j-i),fg,n2+1,fi,vi++([j-i]),⟨G,G,(by rw[ai,nw];rfl),(by rw[ai,ii];omega),(by rw[Ns,aMo G kt pe hj (Vy kt).1 (Vy kt).2 fk,ek];rfl),(λh=>aDl G pe (Vy kt).1 (Vy kt).2 h)⟩,G,SA,λ_ h=>h.sel [1] cC Z⟩
   ·refine aS ?_;exact⟨b,A2,n2,c2,vi,⟨G,G,(nw),(Zn),(Ns)⟩,G,KP⟩
 ·refine aS<|wq<|wm Z<|wn Z<|aX [0] 99 cC Z ?_;refine⟨_,Z,?_⟩;have e:(u.drop a.toNat).length=0:=by rw[bn];omega
  rw[YC e,ji] at Ph;rw[Ph];obtain rfl:=dp;exact⟨_,_,Z,Z⟩
end Go.Proofs.YtdbebmmhdefgdaaGreat
namespace Go.Pure
open Go Go.Eng
section
variable {u m V:AH} {i:Int}
end
theorem aFx {l:AE} {f:Int × Int->Int} {i:Int} (h0:0<=i) (h:i<l.length):rd (l.map f) i=f (rdp l i):=by
 unfold rd rdp;rw[af,af,kv,av G];rfl
end Go.Pure
namespace Go.Proofs.YtdbebmmhdefgdaaGreat
open Go Go.Eng Go.Pure
open Tryz
set_option maxRecDepth 100000
theorem aAn {s:AH} {k:Int} (h:k=(fT s).length):iB s (fT s) k=bws s:=by rw[h];rfl
theorem aEi {w:World} {an:AF} {ar am:Nat} {u:AH} (al:Rd w an ar am 1 (ints .u8 u)) (ac:aL u) (hN:u.length<=100000):
  CF 104 #[sl an ar am] w (λv R'=> ∃(lt:AE) (A:AF) (c:Nat),v= .tuple #[sl A lt.length c,I 0]/\lt.Perm (iD (bws u) (bws u).length)/\lt.Pairwise (pO (bws u))/\R'=[(ru 5 A lt.length c (lt.map (lastB (bws u))))]):=by
 obtain rfl:=al.lenI;refine fn2 Tryz.func104 Z Z Z ?_;have mv:=al.max;have qu:=YD u;refine wq<|wg Z<|wn Z<|aD<|wq<|wm Z<|wy (aO ah Z)<|wy (Yl.f (dN Z Z))<|aA<|aN Z<|aH<|aD ?_;refine aJ<|bR (R1:=[⟨22,1,none,0,0,[],false⟩]) (Sub.refl _) (λ_ h=>h.nil 22 1)<|wn Z<|wq<|wn Z<|aD<|wq<|wm Z<|wa (aC bJb Z (Ct.fresh (λw hw=>aDf ((al.c _) w hw) G))) ?_;rintro _ _⟨_,rfl,cr,co,rfl,rfl⟩;refine wy (aO aa Z)<|wm Z<|aA<|aI ?_;refine pJ (λ(k:Int) (A1:AF) (n1:Nat) (c1:Nat) (vals:AG) (a:Int)=>[(0,sl an u.length am),(4,sl A1 n1 c1),(5,I a),(16,sl cr ((fT (u)).length) co),(17,I (((fT (u)).length:Nat):Int)),(18,I k)]) (λk A1 n1 c1 vals a=>[(ri 3 cr ((fT (u)).length) co (fT (u))),⟨22,1,A1,n1,c1,vals,false⟩]) (λk A1 n1 c1 vals a=>(0<=k)/\(k<=(fT u).length)/\(n1=k.toNat)/\(SlW .u8 w vals (iB u (fT u) k))/\(a=ps (fT u) k)) (λk A1 n1 c1 vals a=>((fT u).length-k).toNat) ?_ ?_
 ·exact⟨0,none,0,0,[],0,⟨G,G,(Z),(eB _ _),(Z)⟩,KP⟩
 intro k A1 n1 c1 vals a ⟨ld,yr,dp,ka,ha⟩;refine wq<|wL Z Z<|aA<|aD<|bA Z (λbc=> ?_) (λbc=> ?_)
 ·have Py:=mP (L:=fT u) ld G;have sm:=bGr u (k+1);have k8:=PR (vZ u) k;have hrp:=vZ u _ (bF (L:=fT u) ld G)
  have hsl2:SlW .u8 w (vals++[sl (jD an a.toNat am 1) ((a+rd (fT u) k).toNat-a.toNat) (am-a.toNat)]) (iB u (fT u) (k+1)):=by
   rw[EP ld,<-ha,show(rd (fT u) k).toNat=(a+rd (fT u) k).toNat-a.toNat by omega];exact ka.snoc (al.cutI G G) (λx hx=>dQ (ac x (ng (ll hx)))) (by rw[ax,bn];omega)
  refine aH<|aD<|aI<|wq<|wy (aG aa sz3 Z Z (rdr 0 Z))<|wy (aW au Z Z (rdr 0 Z))<|wn Z<|wq<|wm Z<|wm Z<|wm Z<|wm Z ?_;refine wm Z<|wA Z Z<|wy (aEx ah sz5 Z Z Z (al.c _) G G G)<|wa (iA [Value.slice (jD an (a).toNat am 1) ((a+(rd (fT (u)) k)).toNat-(a).toNat) (am-(a).toNat)] ay mJ Z Z Z Z) ?_;rintro _ _⟨im,rfl,rfl⟩;refine wa (eY 2 Z Z ay xV Z Z Z Z Z (rdr 0 Z) (by simp[Value.oneCell']) (by dsimp only;omega)) ?_;rintro _ _⟨fh,kh,rfl,rfl⟩;refine bK (v:=sl fh (n1+1) kh) Z<|wn Z<|aJ<|wm Z<|wm Z<|wA Z Z<|wn Z<|aJ<|wA Z Z<|wm Z<|aA ?_;exact⟨k+1,fh,n1+1,kh,vals++([Value.slice (jD an (a).toNat am 1) ((a+(rd (fT (u)) k)).toNat-(a).toNat) (am-(a).toNat)]),a+(rd (fT (u)) k),⟨G,G,G,(hsl2),(by rw[Py,ha])⟩,G,SA,λ_ h=>h.sel [1,2] cC Z⟩
 ·refine aS<|wq<|wa (bQ .u8 [] ah zs5 Z Z Z) ?_;rintro _ _⟨li,rfl,rfl⟩;refine wn Z<|aD<|wq<|wm Z<|wa (aC bCo Z (Ct.fresh (λw hw=>VE ((rdr 2 Z) w hw) (ka.c hw) (by rw[aAn (show k=(fT u).length by omega),rA,bAi];have:=YD u;omega)))) ?_;rintro _ _⟨_,rfl,lt,gd,ce,rfl,w4,ff,rfl⟩;refine wy (aO qy Z)<|wm Z<|aA<|aI ?_;refine jK (λ(q:Int) (B1:AF) (m1:Nat) (d1:Nat) (acc:AH)=>[(4,sl A1 n1 c1),(8,sl B1 m1 d1),(37,sl gd lt.length ce),(38,I (lt.length:Int)),(39,I q)]) (λq B1 m1 d1 acc=>[⟨230,2,gd,lt.length,ce,prs lt,false⟩,(ru 5 B1 m1 d1 acc),(ri 3 cr ((fT (u)).length) co (fT (u))),⟨22,1,A1,n1,c1,vals,false⟩]) (λq B1 m1 d1 acc=>(0<=q)/\(q<=lt.length)/\(m1=acc.length)/\(acc.length=q.toNat)/\(acc=(lt.take q.toNat).map (lastB (iB u (fT u) k)))) (λq B1 m1 d1 acc=>(lt.length-q).toNat) ?_ ?_
  ·exact⟨0,GG li,0,0,[],⟨G,G,(Z),(Z),(Z)⟩,KP⟩
  intro q B1 m1 d1 acc ⟨io,i8,nd,Yh,bh⟩;have ua:lt.length=u.length:=by rw[aAn (show k=(fT u).length by omega)] at w4;exact IE w4
  refine wq<|wL Z Z<|aA<|aD<|bA Z (λda=> ?_) (λda=> ?_)
  ·have ht:=uF.1 (w4.subset (kP (l:=lt) io G));have yi:=ht.2.2;have he0:=yw ((rdp lt q).2+(rdl (iB u (fT u) k) (rdp lt q).1).length-1) (show((rdl (iB u (fT u) k) (rdp lt q).1).length:Int)≠0 by omega);have he1:=vk ((rdp lt q).2+(rdl (iB u (fT u) k) (rdp lt q).1).length-1) (show(0:Int)<(rdl (iB u (fT u) k) (rdp lt q).1).length by omega);refine aH<|aD<|aI<|wq<|wy (tO qy lC Z Z (rdr 0 Z) Z)<|wy (aFa jw Z lC Z (rdr 0 Z))<|wa (eH (sz:=2) aEv Z) ?_;rintro _ _⟨se,rfl,rfl⟩;refine bY (dO (vs:=[I ((rdp lt q).1),I ((rdp lt q).2)]) 0 Z lC Z Z Z (by intro v hv;simp at hv;rcases hv with rfl|rfl<;>rfl) Z) ?_;rintro _ _ rfl;refine aA<|wq<|wm Z<|wy (dE (q:=0) (rdr 0 Z) jw sz3 Z Z (ak Z) cC cC Z)<|wy (yL 0 au Z Z Z)<|wy (aG ay dP Z Z (rdr 4 Z) (by first|exact ht.1|(have:=ht.2.1;rw[tT] at this;omega)) (by first|exact ht.1|(have:=ht.2.1;rw[tT] at this;omega))) ?_;refine ka.elim (i:=(rdp lt q).1) (by first|exact ht.1|exact ht.2.1) (by first|exact ht.1|exact ht.2.1) (λw8 Bk Vb Oa hb_20 mhr_19=> ?_);refine wy (pI ah Z Z Z (rdr 4 Z) Vb)<|wn Z<|aJ<|wm Z<|wm Z<|wy (dE (q:=1) (rdr 0 Z) jw sz3 Z Z (ak Z) cC cC Z)<|wy (yL 0 au Z Z Z)<|wm Z<|wy (aO ah Z)<|wA Z Z<|wS Z Z<|wm Z<|wy (aO ah Z)<|wy (xZ Z Z) ?_;refine wy (aG ah sz5 Z Z (Oa.c _))<|wy (aW dh Z Z (Oa.c _))<|wa (bQ .u8 [rd (rdl (iB u (fT u) k) ((rdp lt q).1)) (((((rdp lt q).2)+(((rdl (iB u (fT u) k) ((rdp lt q).1)).length:Nat):Int))-1)%(((rdl (iB u (fT u) k) ((rdp lt q).1)).length:Nat):Int))] ah zs5 Z Z Z) ?_;rintro _ _⟨Lo,rfl,rfl⟩;refine wa (aY 3 Z ah zb5 Z Z Z (rdr 0 Z)) ?_;rintro _ _⟨va,vj,rfl,rfl⟩;refine bK (v:=sl va (m1+1) vj) Z<|wn Z<|aJ<|wA Z Z<|wm Z<|aA ?_;exact⟨q+1,va,m1+1,vj,acc++([rd (rdl (iB u (fT u) k) ((rdp lt q).1)) (((((rdp lt q).2)+(((rdl (iB u (fT u) k) ((rdp lt q).1)).length:Nat):Int))-1)%(((rdl (iB u (fT u) k) ((rdp lt q).1)).length:Nat):Int))]),⟨G,G,(by rw[ai,nd];rfl),(by rw[ai,Yh,ii];omega),(by rw[VO io G,jc,bh];rfl)⟩,G,SA,λ_ h=>h.sel [2,3,4,5] cC Z⟩
  ·refine aS<|wq<|wm Z<|wg Z<|wn Z<|aX [1] 99 cC Z ?_;refine⟨_,_,Z,Z,?_⟩;have e:k=(fT u).length:=G
   rw[aAn e] at w4 ff bh;rw[bi G] at bh;subst bh;obtain rfl:m1=lt.length:=by rw[nd,az]
   exact⟨lt,_,_,Z,w4,ff,Z⟩
end Go.Proofs.YtdbebmmhdefgdaaGreat
namespace Go.Pure
open Go Go.Eng
section
variable {p:AH}
theorem uZ {j:Int} (j0:0<=j): ∀(f:Nat) (E:List Bool) (k:Int),(hp:p.Perm (iota p.length))->E.length=p.length->0<=k->k<p.length->rdb E j=true->rdb (gL p f E k).2 j=true
 |0,E,k,_,_,_,_,h=>h
 | f+1,E,k,hp,hl,k0,hk,h=>by
  rw[gL];split
  ·exact h
  ·have hn:=aV.1 (hp.subset (bF (L:=p) k0 hk));refine uZ j0 f _ _ hp (by rw[kZ];exact hl) hn.1 hn.2 ?_;rw[xH k0 G j0];split
   ·rfl
   ·exact h
theorem UX (hp:p.Perm (iota p.length)) {f:Nat} {E:List Bool} {k:Int} (hl:E.length=p.length) (k0:0<=k) (hk:k<p.length) (hf:cntF E<=f):rdb (gL p f E k).2 k=true:=by
 by_cases h:rdb E k=true
 ·rw[tV h];exact h
 ·rw [IP k0 G hf h];have hn:=aV.1 (hp.subset (bF (L:=p) k0 hk));exact uZ k0 _ _ _ hp (by rw[kZ];exact hl) hn.1 hn.2 (by rw[xH k0 G k0,di rfl])
theorem EH (hp:p.Perm (iota p.length)): ∀i:Nat,i<=p.length-> ∀j:Nat,j<i->rdb (iY p i).1 j=true
 |0,_,j,hj=>G
 | i+1,hi,j,hj=>by
  have hf:=lQ hp i G;have hc:cntF (iY p i).1<=p.length:=by have:=hf.2.2;omega
  rw[iY];rcases gu j i with g|g
  ·exact uZ G _ _ _ hp hf.1 G G (EH hp i G j g)
  ·obtain rfl:j=i:=G
   exact UX hp hf.1 G G hc
theorem aMw {E:List Bool} (h: ∀j:Nat,j<E.length->rdb E j=true):cntF E=0:=by
 unfold cntF;rw[Bz];intro b hb;obtain⟨j,hj,rfl⟩:=ic.1 hb;have:=h j hj;have e:rdb E (j:Int)=E[j]:=by unfold rdb;rw[bq,af,av hj];rfl
 rw[e] at this;rw[this];simp
theorem YV (hp:p.Perm (iota p.length)):(bU p).flatten.length=p.length:=by
 have hf:=lQ hp p.length (dn _);have:=aMw (E:=(iY p p.length).1) λj hj=>EH hp p.length (dn _) j (by rw[hf.1] at hj;exact hj);unfold bU;omega
theorem aNp (l:AH) (cs:AD):(backL l cs).length=cs.flatten.length:=by
 unfold backL;rw[pq,rq,pq,Et,List.sum_reverse];congr 2;funext c;exact kJ l c
theorem aKq {l:AH} {cs:AD} {x:Int} (h:x∈backL l cs): ∃y,y∈cs.flatten/\x=rd l y:=by
 unfold backL at h;obtain⟨w,hw,hx⟩:=uf.1 h;obtain⟨c,hc,rfl⟩:=gz.1 hw;unfold dR at hx;obtain⟨y,hy,rfl⟩:=gz.1 hx;exact⟨y,uf.2 ⟨c,xw.1 hc,xw.1 hy⟩,rfl⟩
theorem aNq {l:AH} (hl:aL l) (cs:AD):aL (backL l cs):=λx hx=>by
 obtain⟨y,_,rfl⟩:=aKq hx;exact hl.rd _
theorem aHu {cs:AD} {k:Int} (k0:0<=k) (hk:k<cs.length):rdl cs k∈cs:=by
 unfold rdl;rw[af,av G];exact ky _
theorem aEk {l acc ph:AH} {cs:AD} {m kr:Nat} (hm:m=cs.length) (Kw:kr<m) (bh:acc=(((cs.reverse).take kr).map (dR l)).flatten) (h2:ph=acc++(((rdl cs ((m-1-kr:Nat):Int)).reverse).take (rdl cs ((m-1-kr:Nat):Int)).length).map (rd l)):ph=(((cs.reverse).take (kr+1)).map (dR l)).flatten:=by
 rw[aEl G,h2,bh,bi (l:=(rdl cs ((m-1-kr:Nat):Int)).reverse) (by rw[lh];exact dn _),show((m-1-kr:Nat):Int)=(cs.length:Int)-1-kr by omega];rfl
theorem IK {l acc ph c:AH} {kq:Nat} (hk:kq<c.length) (h:ph=acc++((c.reverse).take kq).map (rd l)):ph++[rd l (rd c ((c.length-1-kq:Nat):Int))]=acc++((c.reverse).take (kq+1)).map (rd l):=by
 rw[aAm hk,<-ek,<-h,show((c.length-1-kq:Nat):Int)=(c.length:Int)-1-kq by omega]
theorem EG {p:AH}:(bU p).length<=p.length:=MF p p.length
end
end Go.Pure
namespace Go.Proofs.YtdbebmmhdefgdaaGreat
open Go Go.Eng Go.Pure
open Tryz
set_option maxRecDepth 100000
variable {B gr de:Nat} {w0:World} {R:List Row} {dg:AF}
theorem aAa:
  CT 185 #[sl dg gr de] B w0 R (λv R'=> ∃g,v= .func (.func 240) #[] #[PG g]/\R'=(rc 232 1 g [sl dg gr de])::R):=by
 refine fn1 Tryz.func185 Z Z Z ?_;refine wq<|wa (dC (sz:=1) Z Z) ?_;rintro _ _⟨g,rfl,rfl⟩;refine wn Z<|wq<|wy (lM Z Z)<|wn Z<|bT ?_;exact⟨_,Z,g,Z,Z⟩
theorem FR:
  CT 186 #[sl dg gr de] B w0 R (λv R'=> ∃g,v= .func (.func 241) #[] #[PG g]/\R'=(rc 52 1 g [sl dg gr de])::R):=by
 refine fn1 Tryz.func186 Z Z Z ?_;refine wq<|wa (dC (sz:=1) Z Z) ?_;rintro _ _⟨g,rfl,rfl⟩;refine wn Z<|wq<|wy (lM Z Z)<|wn Z<|bT ?_;exact⟨_,Z,g,Z,Z⟩
theorem aEj {w:World} {an:AF} {ar am:Nat} {u:AH} (al:Rd w an ar am 1 (ints .u8 u)) (ac:aL u) (hN:u.length<=100000):
  CF 110 #[sl an ar am] w (λv R'=> ∃A c,v= .tuple #[sl A (backL u (bU (fsL u))).length c,I 0]/\R'=[(ru 5 A ((backL u (bU (fsL u))).length) c (backL u (bU (fsL u))))]):=by
 obtain rfl:=al.lenI;refine fnV Tryz.func110 Z Z ?_;have mv:=al.max;have Mi:=LV ac;have qu:=pR u;have ki:=ME Mi;have Ys:=EG (p:=fsL u);refine dL ?_;refine aJ<|wa (dC (sz:=1) Z Z) ?_;rintro _ _⟨ao,rfl,rfl⟩;refine wg Z<|wn Z ?_;refine dL ?_;refine wq<|wy (yL 0 ah Z Z Z)<|wy (aO ah Z)<|wy (Yl.f (dN Z Z))<|aA<|aN Z<|aH ?_;refine dL ?_;refine aJ<|wy (yL 0 ah Z Z Z)<|wa (aC bCm Z (Ct.fresh (λw hw=>aGr ((al.c _) w hw) ac G))) ?_;rintro _ _⟨_,rfl,fg,fi,rfl,rfl⟩;refine wa (aC bCn Z (Ct.fresh (λw hw=>QS ((rdr 0 Z) w hw) Mi G))) ?_;rintro _ _⟨_,rfl,fh,kh,aw,g7,rfl,mu,rfl⟩;have r8:=mu.1;refine bR (R1:=(⟨52,1,fh,aw.length,kh,aw,false⟩::(ri 3 fg ((fsL u).length) fi (fsL u))::(rc 22 1 ao [sl an u.length am])::g7)) (Sub.refl _) (λ_ h=>Hp.toTail0 (X:=[_]) (Y:=[_,_]) h)<|wm Z<|wX Z Z<|wX Z Z<|wg Z<|wn Z ?_;refine dL ?_;refine aJ<|wa (bQ .u8 [] ah zs5 Z Z Z) ?_;rintro _ _⟨n7,rfl,rfl⟩;refine wa (eH (sz:=1) aWi Z) ?_;rintro _ _⟨Cl,rfl,rfl⟩;refine bY (aZ 0 Z Z Z dP Z Z Z Z (ak Z)) ?_;rintro _ _ rfl;refine aA ?_;refine ES ?_;refine dL ?_;refine aJ<|wm Z<|wa (aC bIz Z (aAa)) ?_;rintro _ _⟨se,rfl,rfl⟩;refine aA ?_;refine rJ ?_;refine aIu Z bIj (aVq (A:=fh) (c:=kh) (xs:=aw) (by have:=mu.1;omega)) Z (λ_=>Z) Gd.refl (λ(kr:Nat) (A1:AF) (n1:Nat) (c1:Nat) (acc:AH)=>((rc 232 1 se [sl fh aw.length kh])::(rc 22 1 Cl [sl A1 n1 c1])::(ru 5 A1 n1 c1 acc)::⟨52,1,fh,aw.length,kh,aw,false⟩::(ri 3 fg ((fsL u).length) fi (fsL u))::(rc 22 1 ao [sl an u.length am])::g7)) (λkr A1 n1 c1 acc=>(n1=acc.length)/\(acc=(((bU (fsL u)).reverse.take kr).map (dR u)).flatten)) ?_ ?_ ?_ ?_
 ·exact⟨GG n7,0,0,[],⟨(Z),(Z)⟩,λ_ h=>h⟩
 ·intro kr A1 n1 c1 acc w ⟨dp,bh⟩ hw;exact⟨(rdr 0 Z) w hw,(rdr 3 Z) w hw⟩
 ·intro lr kr A1 n1 c1 acc Vt Kw ⟨dp,bh⟩ i7;have sp:acc.length<=u.length:=by rw[bh];exact ry XX G
  obtain⟨gn,go,Oh,Ul⟩:=mu.at (i:=((aw.length-1-kr:Nat):Int)) G (by have:=mu.1;omega)
  have Tk:aw[aw.length-1-kr]?.getD undef=sl gn (rdl (bU (fsL u)) ((aw.length-1-kr:Nat):Int)).length go:=by
   rw[bq] at Oh;rw[Oh];rfl
  refine bKk (d:=24) (v:=sl gn (rdl (bU (fsL u)) ((aw.length-1-kr:Nat):Int)).length go) (bg some Tk) ?_;have pt:rdl (bU (fsL u)) ((aw.length-1-kr:Nat):Int)∈bU (fsL u):=aHu G (by have:=mu.1;omega);have Yu:(rdl (bU (fsL u)) ((aw.length-1-kr:Nat):Int)).length<=u.length:=by have:=ql (nz pt);omega
  refine aJ<|wn Z ?_;intro On tx Tq;refine aI<|wq<|wm Z<|wa (aC aUd Z (FR)) ?_;rintro _ _⟨Lo,rfl,rfl⟩;refine aA<|aI ?_;refine aOi Z aTz (zB (A:=gn) (c:=go) (zs:=rdl (bU (fsL u)) ((aw.length-1-kr:Nat):Int)) G) Z (λ_=>Z) ⟨_,Tq.choose_spec⟩ (λ(kq:Nat) (A2:AF) (n2:Nat) (c2:Nat) (ph:AH)=>((rc 52 1 Lo [sl gn ((rdl (bU (fsL u)) ((aw.length-1-kr:Nat):Int)).length) go])::(rc 232 1 se [sl fh aw.length kh])::(rc 22 1 Cl [sl A2 n2 c2])::(ru 5 A2 n2 c2 ph)::⟨52,1,fh,aw.length,kh,aw,false⟩::(ri 3 fg ((fsL u).length) fi (fsL u))::(rc 22 1 ao [sl an u.length am])::g7)) (λkq A2 n2 c2 ph=>(n2=ph.length)/\(ph=acc++((rdl (bU (fsL u)) ((aw.length-1-kr:Nat):Int)).reverse.take kq).map (rd u))) ?_ ?_ ?_ ?_
  ·exact⟨A1,n1,c1,acc,⟨(dp),(by rw[zg];simp)⟩,λ_ h=>h⟩
  ·intro kq A2 n2 c2 ph w ⟨nw,zv⟩ hw;exact⟨(rdr 0 Z) w hw,(λ_ h=>Ul _ _ _ (h.right (R':=[_,_,_,_,_,_,_]))) w hw⟩
  ·intro lr kq A2 n2 c2 ph WW2 hkq ⟨nw,zv⟩ Yj;have sg:=TU Mi _ pt _ (bF (L:=rdl (bU (fsL u)) ((aw.length-1-kr:Nat):Int)) (k:=(((rdl (bU (fsL u)) ((aw.length-1-kr:Nat):Int)).length-1-kq:Nat):Int)) G G);have Mb:ph.length<=acc.length+(rdl (bU (fsL u)) ((aw.length-1-kr:Nat):Int)).length:=by rw[zv,ai,az,ax,lh];omega
   refine aJ<|wn Z ?_;intro Xf j8 hlW23;refine aI<|bL mixed<|wD 0 Z (yL 2 ah Z Z Z)<|wD 1 Z (yL 6 ah Z Z Z)<|wD 2 Z (aK Z)<|wD 3 Z (aG ah sz5 Z Z (al.cb (tx.trans j8) _))<|wD 4 Z (aW dh Z Z (al.cb (tx.trans j8) _))<|wC 5 Z (bQ .u8 [rd u (rd (rdl (bU (fsL u)) ((aw.length-1-kr:Nat):Int)) (((rdl (bU (fsL u)) ((aw.length-1-kr:Nat):Int)).length-1-kq:Nat):Int))] ah zs5 Z Z Z) ?_;rintro _ _⟨vn,rfl,rfl⟩;refine⟨.inr hrZ,?_⟩;refine wC 6 Z (aY 4 Z ah zb5 Z Z Z (rdr 0 Z)) ?_;rintro _ _⟨pn,pr,rfl,rfl⟩;refine⟨.inl cA,?_⟩;refine jS (v:=sl pn (n2+1) pr) Z<|qG 7 Z cA (aZ 3 Z Z Z dP Z Z Z Z (ak Z)) ?_;rintro _ _ rfl;refine⟨.inl cA,?_⟩;refine wN ?_;exact⟨pn,n2+1,pr,ph++([rd u (rd (rdl (bU (fsL u)) ((aw.length-1-kr:Nat):Int)) (((rdl (bU (fsL u)) ((aw.length-1-kr:Nat):Int)).length-1-kq:Nat):Int))]),⟨(by rw[ai,nw];rfl),(IK hkq zv)⟩,λ_=>λ_ h=>h.selR (F:=[_,_,_,_,_,_,_,_]) (F':=[_,_,_,_,_,_,_]) [1,2,3,4,5,6,7] cC Z⟩
  intro A2 n2 c2 ph ⟨nw,zv⟩;exact⟨A2,n2,c2,ph,⟨(nw),(aEk mu.1 Kw bh zv)⟩,λ_=>λ_ h=>h.selR (F:=[_,_,_,_,_,_,_]) (F':=[_,_,_,_,_,_]) [1,2,3,4,5,6] cC Z⟩
 intro Oo Xe A1 n1 c1 acc ⟨dp,bh⟩ Eq tk;have hvl:=mu.1;refine IV ?_;refine VC ?_;refine v_w ?_;refine wq<|wy (yL 1 ah Z Z Z)<|wg Z<|wn Z<|bN (R1:=[(ru 5 A1 n1 c1 acc)]) (λ_ h=>(h.selR (F:=[_,_,_,_,_,_]) (F':=[_]) [2] cC Z).left (X:=[_])) ?_;refine aLx Z tk ⟨_,_,Z,Z,?_⟩;rw[bi (by rw[lh];omega)] at bh;obtain rfl:acc=backL u (bU (fsL u)):=bh;obtain rfl:=dp;exact⟨_,_,Z,Z⟩
variable {w:World} {an:AF} {ar am:Nat} {u S:AH} {m k r:Int}
theorem bFj {g6:AF} {Jz i5:Nat} {a:AH} (al:Rd w an ar am 1 (ints .u8 u)) (vq:Rd w g6 Jz i5 1 (ints .i64 a)) (hp:a.Perm (iota u.length)) (hN:u.length<=1000000):
  CF 124 #[sl an ar am,sl g6 Jz i5] w (λv R'=> ∃A c,v= .tuple #[sl A (ofL u a).length c,I (zat a),bt]/\R'=[(ru 5 A ((ofL u a).length) c (ofL u a))]):=by
 obtain rfl:=al.lenI;obtain rfl:=vq.lenI;refine fn3 Tryz.func124 Z Z Z ?_;have mv:=al.max;have m_a:=vq.max;have Ye:a.length=u.length:=by rw[hp.length_eq,bC]
 have hnd:a.Nodup:=hp.symm.nodup (fG _);have wd:a.Perm (iota a.length):=by rw[Ye];exact hp
 refine wq<|wg Z<|wg Z<|wn Z<|aD<|wq<|wm Z<|wy (aO aa Z)<|wm Z<|wy (aO ah Z)<|wy (Yl.f (iI Z Z))<|wm Z ?_;refine aB Z Z<|wm Z<|aB Z Z<|wa (aC bCk Z (Ct.quiet (λw hw=>aPz ((vq.c _) w hw) wd G))) ?_;rintro _ _⟨rfl,rfl⟩;refine aB Z Z<|wy (dH Z)<|wy (aP Z Z)<|aA<|aN Z<|aH<|wq<|wa (bQ .u8 [] ah zs5 Z Z Z) ?_;rintro _ _⟨db,rfl,rfl⟩;refine wn Z<|aD<|wq<|wm Z<|wy (aO ah Z)<|wy (dN Z Z)<|aA<|bA Z (λbc=> ?_) (λbc=> ?_)
 ·refine aJ<|wm Z<|wm Z<|wm Z<|wy (aO ah Z)<|wS Z Z<|wy (aG ah sz5 Z Z (al.c _))<|wy (aW dh Z Z (al.c _))<|wa (bQ .u8 [rd u ((u.length:Int)-1)] ah zs5 Z Z Z) ?_;rintro _ _⟨im,rfl,rfl⟩;refine wa (aY 1 Z ah zb5 Z Z Z (rdr 0 Z)) ?_;rintro _ _⟨fh,kh,rfl,rfl⟩;refine bK (v:=sl fh (0+1) kh) Z<|wn Z<|aD<|wq<|wm Z<|wy (aO aa Z)<|wm Z<|aA<|aI ?_;refine pJ (λ(i:Int) (A1:AF) (n1:Nat) (c1:Nat) (acc:AH) (m:Int)=>[(0,sl an u.length am),(4,sl A1 n1 c1),(5,I m),(32,sl g6 a.length i5),(33,I (a.length:Int)),(34,I i)]) (λi A1 n1 c1 acc m=>[(ru 5 (GG im) 1 1 ([rd u ((u.length:Int)-1)])),(ru 5 A1 n1 c1 acc)]) (λi A1 n1 c1 acc m=>(0<=i)/\(i<=a.length)/\(n1=acc.length)/\(acc=(if 0<u.length then [rd u (u.length-1)] else [])++ofT u (a.take i.toNat))/\(m=zat (a.take i.toNat))) (λi A1 n1 c1 acc m=>(a.length-i).toNat) ?_ ?_
  ·exact⟨0,fh,0+1,kh,([])++([rd u ((u.length:Int)-1)]),0,⟨G,G,(by first|rfl|simp),(by first|(rw[di G];rfl)|(rw[df G];rfl)),(Z)⟩,KP⟩
  intro i A1 n1 c1 acc m ⟨bb,ij,dp,bh,hm⟩
  have sp:acc.length<=i.toNat+1:=by
   have h1:=aGn u (a.take i.toNat);rw[ax] at h1;rw[bh,ai];split<;>simp only[dm,jg]<;>omega
  have Ks:i<a.length->0<=rd a i/\rd a i<u.length:=λh=>aV.1 (hp.subset (bF bb h));refine wq<|wL Z Z<|aA<|aD<|bA Z (λda=> ?_) (λda=> ?_)
  ·have Yd:=Ks G;refine aH<|aD<|aI<|wq<|wm Z<|wy (aG aa sz3 Z Z (vq.c _))<|wy (aW au Z Z (vq.c _))<|wg Z<|wn Z<|aD<|wq<|wm Z ?_;refine wy (gT Z Z)<|aA<|bA Z (λfk=> ?_) (λfk=> ?_)
   ·refine wq<|wm Z<|wA Z Z<|wn Z<|aS<|aJ<|wA Z Z<|wm Z<|aA ?_;exact⟨i+1,A1,n1,c1,acc,i+1,⟨G,G,(dp),(aGm bb G bh cF),(aEw hnd bb G cF)⟩,G,KP⟩
   ·refine aH<|aJ<|wm Z<|wm Z<|wm Z<|wS Z Z<|wy (aG ah sz5 Z Z (al.c _))<|wy (aW dh Z Z (al.c _))<|wa (bQ .u8 [rd u ((rd a i)-1)] ah zs5 Z Z Z) ?_;rintro _ _⟨li,rfl,rfl⟩;refine wa (aY 2 Z ah zb5 Z Z Z (rdr 0 Z)) ?_;rintro _ _⟨br,bw,rfl,rfl⟩;refine bK (v:=sl br (n1+1) bw) Z<|wn Z<|aJ<|wA Z Z<|wm Z<|aA ?_;exact⟨i+1,br,n1+1,bw,acc++([rd u ((rd a i)-1)]),m,⟨G,G,(by rw[ai,dp];rfl),(aRo bb G bh cF),(aNw hnd bb G hm cF)⟩,G,SA,λ_ h=>h.sel [1,2] cC Z⟩
  ·refine aS<|wq<|wm Z<|wm Z<|wg Z<|wg Z<|wn Z<|aX [1] 99 cC Z ?_;refine⟨_,_,_,Z,Z,Z,?_⟩;have hte:a.take i.toNat=a:=bi G;rw[hte] at bh hm;obtain rfl:acc=ofL u a:=bh;obtain rfl:=dp;subst hm;exact⟨_,_,Z,Z⟩
 ·refine aH<|aD<|wq<|wm Z<|wy (aO aa Z)<|wm Z<|aA<|aI ?_;refine pJ (λ(i:Int) (A1:AF) (n1:Nat) (c1:Nat) (acc:AH) (m:Int)=>[(0,sl an u.length am),(4,sl A1 n1 c1),(5,I m),(32,sl g6 a.length i5),(33,I (a.length:Int)),(34,I i)]) (λi A1 n1 c1 acc m=>[(ru 5 A1 n1 c1 acc)]) (λi A1 n1 c1 acc m=>(0<=i)/\(i<=a.length)/\(n1=acc.length)/\(acc=(if 0<u.length then [rd u (u.length-1)] else [])++ofT u (a.take i.toNat))/\(m=zat (a.take i.toNat))) (λi A1 n1 c1 acc m=>(a.length-i).toNat) ?_ ?_
  ·exact⟨0,GG db,0,0,[],0,⟨G,G,(by first|rfl|simp),(by first|(rw[di G];rfl)|(rw[df G];rfl)),(Z)⟩,KP⟩
  intro i A1 n1 c1 acc m ⟨bb,ij,dp,bh,hm⟩
  have sp:acc.length<=i.toNat+1:=by
   have h1:=aGn u (a.take i.toNat);rw[ax] at h1;rw[bh,ai];split<;>simp only[dm,jg]<;>omega
  have Ks:i<a.length->0<=rd a i/\rd a i<u.length:=λh=>aV.1 (hp.subset (bF bb h));refine wq<|wL Z Z<|aA<|aD<|bA Z (λiu=> ?_) (λiu=> ?_)
  ·have Yd:=Ks G;refine aH<|aD<|aI<|wq<|wm Z<|wy (aG aa sz3 Z Z (vq.c _))<|wy (aW au Z Z (vq.c _))<|wg Z<|wn Z<|aD<|wq<|wm Z ?_;refine wy (gT Z Z)<|aA<|bA Z (λkt=> ?_) (λkt=> ?_)
   ·refine wq<|wm Z<|wA Z Z<|wn Z<|aS<|aJ<|wA Z Z<|wm Z<|aA ?_;exact⟨i+1,A1,n1,c1,acc,i+1,⟨G,G,(dp),(aGm bb G bh cF),(aEw hnd bb G cF)⟩,G,KP⟩
   ·refine aH<|aJ<|wm Z<|wm Z<|wm Z<|wS Z Z<|wy (aG ah sz5 Z Z (al.c _))<|wy (aW dh Z Z (al.c _))<|wa (bQ .u8 [rd u ((rd a i)-1)] ah zs5 Z Z Z) ?_;rintro _ _⟨n7,rfl,rfl⟩;refine wa (aY 1 Z ah zb5 Z Z Z (rdr 0 Z)) ?_;rintro _ _⟨ge,gg,rfl,rfl⟩;refine bK (v:=sl ge (n1+1) gg) Z<|wn Z<|aJ<|wA Z Z<|wm Z<|aA ?_;exact⟨i+1,ge,n1+1,gg,acc++([rd u ((rd a i)-1)]),m,⟨G,G,(by rw[ai,dp];rfl),(aRo bb G bh cF),(aNw hnd bb G hm cF)⟩,G,SA,λ_ h=>h.sel [1] cC Z⟩
  ·refine aS<|wq<|wm Z<|wm Z<|wg Z<|wg Z<|wn Z<|aX [0] 99 cC Z ?_;refine⟨_,_,_,Z,Z,Z,?_⟩;have hte:a.take i.toNat=a:=bi G;rw[hte] at bh hm;obtain rfl:acc=ofL u a:=bh;obtain rfl:=dp;subst hm;exact⟨_,_,Z,Z⟩
theorem aLu (al:Rd w an ar am 1 (ints .u8 u)) (ac:aL u) (hN:u.length<=1000000):
  CF 182 #[sl an ar am] w (λv R'=> ∃A c,v=sl A (fsL u).length c/\R'=[(ri 3 A ((fsL u).length) c (fsL u))]):=by
 obtain rfl:=al.lenI;refine fn1 Tryz.func182 Z Z Z ?_;have mv:=al.max;refine wq<|wn Z<|wq<|wm Z<|wy (aO ah Z)<|wa (dM aa zb3 Z Z) ?_;rintro _ _⟨ao,rfl,rfl⟩;refine bK (v:=sl (GG ao) u.length u.length) Z<|wn Z<|wq<|wm Z<|wy (aO ah Z)<|wa (dM aa zb3 Z Z) ?_;rintro _ _⟨db,rfl,rfl⟩;refine bK (v:=sl (GG db) u.length u.length) Z<|wn Z<|aD<|wq<|wm Z<|wy (aO ah Z)<|wm Z<|aA<|aI ?_;refine gW (λ(i:Int) (V:AH) (K:AH)=>[(3,sl (GG ao) u.length u.length),(4,sl (GG db) u.length u.length),(15,sl an u.length am),(16,I (u.length:Int)),(17,I i)]) (λi V K=>[(ri 3 (GG db) u.length u.length K),(ri 3 (GG ao) u.length u.length V)]) (λi V K=>(0<=i)/\(i<=u.length)/\(V.length=u.length)/\(K.length=u.length)/\(∀j:Int,0<=j->j<i->rd V j=j)/\(∀j:Int,0<=j->j<i->rd K j=rd u j)) (λi V K=>(u.length-i).toNat) ?_ ?_
 ·exact⟨0,List.replicate u.length (0:Int),List.replicate u.length (0:Int),⟨G,G,(by rw[cz]),(by rw[cz]),(λj h1 h2=>G),(λj h1 h2=>G)⟩,KP⟩
 intro i V K ⟨bb,ij,kd,Qo,hV,hK⟩;refine wq<|wL Z Z<|aA<|aD<|bA Z (λbc=> ?_) (λbc=> ?_)
 ·have un:=ac.rd i;refine aH<|aD<|aI<|wq<|wm Z<|wy (aG ah sz5 Z Z (al.c _))<|wy (aW dh Z Z (al.c _))<|wg Z<|wn Z<|aJ<|wm Z<|wm Z<|wm Z ?_;refine wm Z<|wm Z<|wm Z<|wy (jJ dh au Z)<|wy (aG aa sz3 Z Z (rdr 1 Z))<|bY (bG 1 Z sz3 Z Z) ?_;rintro _ _ rfl;refine wy (aG aa sz3 Z Z (rdr 0 Z))<|bY (bG 0 Z sz3 Z Z) ?_;rintro _ _ rfl;refine aA<|aJ<|wA Z Z<|wm Z<|aA ?_;exact⟨i+1,upd V i i,upd K i (rd u i),⟨G,G,(by rw[aT];exact kd),(by rw[aT];exact Qo),(eX (f:=λj=>j) bb G hV Z),(eX (f:=λj=>rd u j) bb G hK Z)⟩,G,KP⟩
 ·obtain rfl:V=iota u.length:=bE (by rw[bC];omega) λj h0 h1=>by rw[uA h0 G];exact hV j h0 G
  obtain rfl:u=K:=(bE G λj h0 h1=>hK j h0 G:K=u).symm;refine aS<|wq<|wm Z<|wm Z<|wa (aC LZ Z (Ct.fresh (λw hw=>uD ((rdr 1 Z) w hw) ((rdr 0 Z) w hw) G ac (λi hi=>aV.1 hi) (by rw[bC];omega)))) ?_;rintro _ _⟨_,rfl,fg,fi,rfl,rfl⟩;refine wm Z<|wX Z Z<|wX Z Z<|wn Z<|wq<|wm Z<|wa (aC aUf Z (Ct.fresh (λw hw=>SS ((rdr 0 Z) w hw) (aGe ac) (by rw[DR ac];omega)))) ?_;rintro _ _⟨_,rfl,fz,mj,inv,rfl,ya,ye,rfl⟩;refine wm Z<|wX Z Z<|wX Z Z<|wg Z<|wn Z<|wq<|wm Z<|wn Z<|aX [0] 99 cC Z ?_;refine⟨_,Z,?_⟩;obtain rfl:inv=fsL u:=bBu ac ya ye;have el:(bW (iota u.length) u (256:Int).toNat).length=(fsL u).length:=by rw[DR ac,pR]
  rw[el];exact⟨_,_,Z,Z⟩
theorem aId (k0:0<=k) (hk:k<u.length) (hl:S.length=u.length) (h: ∀j:Int,k<j->j<u.length->rd S j=rd (rD u m) j) {x:Int} (hx:x=rd u (ixr m (jH u m (u.length-1-k).toNat))): ∀j:Int,k-1<j->j<u.length->rd (upd S k x) j=rd (rD u m) j:=by
 intro j h1 h2;rw[gG k0 G G];split
 ·rename_i e;rw[e,WO k0 hk,hx]
 ·exact h j G h2
theorem aIe {i:Int} (k0:0<=k) (hk:k<u.length) (hr:r=jH u m (u.length-1-k).toNat) (hi:i=ixr m r):lfC u i+1=jH u m (u.length-1-(k-1)).toNat:=by
 rw[show((u.length:Int)-1-(k-1)).toNat=(u.length-1-k).toNat+1 by omega,jH,hi,hr]
theorem bAn (hl:S.length=u.length) (h: ∀j:Int,-1<j->j<u.length->rd S j=rd (rD u m) j):S=rD u m:=bE (by rw[hl,xS]) λj h0 h1=>h j G G
theorem aGh (k0:0<=k) (hk:k<u.length) (h: ∀t:Nat,(t:Int)<u.length-1-k->jH u m t≠m) (hr:r=jH u m (u.length-1-k).toNat) (cg:r≠m): ∀t:Nat,(t:Int)<u.length-1-(k-1)->jH u m t≠m:=by
 intro t ht;rcases bu t (u.length-1-k) with g|g
 ·exact h t g
 ·rw[show t=(u.length-1-k).toNat by omega,<-hr];exact cg
theorem aVo (al:Rd w an ar am 1 (ints .u8 u)) (ac:aL u) (dr:bFz u m) (hN:u.length<=100000):
  CF 109 #[sl an ar am,I m] w (λv R'=> ∃A c,v= .tuple #[sl A u.length c,I 0]/\R'=[(ru 5 A u.length c (rD u m))]):=by
 obtain rfl:=al.lenI;refine fn2 Tryz.func109 Z Z Z ?_;have mv:=al.max;have qu:=pR u;have Hi:=dr.1;have qn:=dr.1.1;have nf:=dr.1.2;have Zx:=dr.2.1;refine wq<|wg Z<|wn Z<|wq<|wm Z<|wy (aO ah Z)<|wn Z<|aD<|wq<|wm Z ?_;refine wy (Yl.f (dN Z Z))<|wm Z<|aB Z Z<|wm Z<|aB Z Z<|wm Z<|aB Z Z<|wy (uP Z Z)<|aB Z Z<|wy (Yl.f (fO Z Z))<|wy (aP Z Z)<|wm Z<|aB Z Z<|wm Z<|aB Z Z ?_;refine wm Z<|aB Z Z<|wy (Yl.f (dN Z Z))<|wy (aP Z Z)<|aA<|aN Z<|aH<|wq<|wm Z<|wa (aC bJa Z (Ct.fresh (λw hw=>aLu ((al.c _) w hw) ac G))) ?_;rintro _ _⟨_,rfl,cr,co,rfl,rfl⟩;refine wn Z<|wq<|wm Z<|wa (dM ah zb5 Z Z) ?_;rintro _ _⟨ew,rfl,rfl⟩;refine bK (v:=sl (GG ew) u.length u.length) Z<|wn Z<|wq<|wn Z<|aD<|wq<|wm Z<|wS Z Z<|wn Z<|aI ?_;refine gW (λ(k:Int) (r:Int) (S:AH)=>[(0,sl an u.length am),(1,I m),(7,sl cr ((fsL u).length) co),(8,sl (GG ew) u.length u.length),(9,I r),(10,I k)]) (λk r S=>[(ru 5 (GG ew) u.length u.length S),(ri 3 cr ((fsL u).length) co (fsL u))]) (λk r S=>(-1<=k)/\(k<u.length)/\(S.length=u.length)/\(r=jH u m (u.length-1-k).toNat)/\(∀t:Nat,(t:Int)<u.length-1-k->jH u m t≠m)/\(∀j:Int,k<j->j<u.length->rd S j=rd (rD u m) j)) (λk r S=>(k+1).toNat) ?_ ?_
 ·exact⟨(u.length:Int)-1,0,List.replicate u.length (0:Int),⟨G,G,(by rw[cz]),(by rw[show((u.length:Int)-1-((u.length:Int)-1)).toNat=0 by omega];rfl),(λt h=>G),(λj h1 h2=>G)⟩,KP⟩
 intro k r S ⟨ld,yr,Ls,hr,Zw,hS⟩;refine aD<|wq<|wm Z<|wy (jN Z Z)<|aA<|bA Z (λbc=> ?_) (λbc=> ?_)
 ·have nv:0<=k:=G
  have Fd:=ZW (l:=u) ac Hi (u.length-1-k).toNat (λt ht=>Zw t G) G;rw[<-hr] at Fd;have sv:0<=m:=by have:=Hi.1;omega
  have nd:=Hi.2;have cg:r≠m:=by rw[hr];exact Zx _ G
  refine aH<|aD<|aI<|wq<|wm Z<|wn Z<|aD<|aI<|wq<|wm Z<|wm Z<|wy (Yl.f (gT Z Z) (cg)) ?_;refine wn Z<|aN Z<|wq<|wm Z<|wm Z<|wy (dN Z Z)<|wn Z<|bA Z (λda=> ?_) (λda=> ?_)
  ·have d9:r-1=ixr m r:=by unfold ixr;split<;>omega
   have hxx:rd u (r-1)=rd u (ixr m (jH u m (u.length-1-k).toNat)):=by rw[d9,<-hr]
   have v6:=TI (n:=u.length) Fd.1 Fd.2 cg sv nd G;rw[<-d9] at v6;have Nu:=aBw (l:=u) v6.1 v6.2;have Wk:=XN (l:=u) ac v6.1 v6.2;have oc:rd (fsL u) (r-1)+1=jH u m (u.length-1-(k-1)).toNat:=by rw[Nu];exact aIe nv yr hr d9
   refine aJ<|wm Z<|wS Z Z<|wn Z<|wq<|wm Z<|wm Z<|wm Z<|wm Z<|wy (aG ah sz5 Z Z (al.c _))<|wy (aW dh Z Z (al.c _))<|wy (aG ah sz5 Z Z (rdr 0 Z))<|bY (bG 0 Z sz5 Z Z) ?_;rintro _ _ rfl;refine aA<|aJ<|wm Z<|wm Z<|wy (aG aa sz3 Z Z (rdr 1 Z))<|wy (aW au Z Z (rdr 1 Z))<|wA Z Z<|wn Z<|aJ<|wm Z<|wS Z Z<|wn Z ?_;exact⟨k-1,(rd (fsL u) (r-1))+1,upd S k (rd u (r-1)),⟨G,G,(by rw[aT];exact Ls),(oc),(aGh nv yr Zw hr cg),(aId nv yr Ls hS hxx)⟩,G,KP⟩
  ·have d9:r=ixr m r:=by unfold ixr;split<;>omega
   have hxx:rd u (r)=rd u (ixr m (jH u m (u.length-1-k).toNat)):=by rw[d9,<-hr]
   have v6:=TI (n:=u.length) Fd.1 Fd.2 cg sv nd G;rw[<-d9] at v6;have Nu:=aBw (l:=u) v6.1 v6.2;have Wk:=XN (l:=u) ac v6.1 v6.2;have oc:rd (fsL u) (r)+1=jH u m (u.length-1-(k-1)).toNat:=by rw[Nu];exact aIe nv yr hr d9
   refine aH<|wq<|wm Z<|wm Z<|wm Z<|wm Z<|wy (aG ah sz5 Z Z (al.c _))<|wy (aW dh Z Z (al.c _))<|wy (aG ah sz5 Z Z (rdr 0 Z))<|bY (bG 0 Z sz5 Z Z) ?_;rintro _ _ rfl;refine aA<|aJ<|wm Z<|wm Z<|wy (aG aa sz3 Z Z (rdr 1 Z))<|wy (aW au Z Z (rdr 1 Z))<|wA Z Z<|wn Z<|aJ<|wm Z<|wS Z Z<|wn Z ?_;exact⟨k-1,(rd (fsL u) r)+1,upd S k (rd u r),⟨G,G,(by rw[aT];exact Ls),(oc),(aGh nv yr Zw hr cg),(aId nv yr Ls hS hxx)⟩,G,KP⟩
 ·refine aS<|aD<|wq<|wm Z<|wm Z<|wy (Yl.f (iI Z Z) (by
     have e:((u.length:Int)-1-k).toNat=u.length:=G
     rw[hr,e,dr.2.2]
     exact λh=>h Z)) ?_
  refine aA<|aN Z<|aH<|wq<|wm Z<|wg Z<|wn Z<|aX [0] 99 cC Z ?_;refine⟨_,_,Z,Z,?_⟩;obtain rfl:S=rD u m:=bAn Ls λj h1 h2=>hS j G h2;exact⟨_,_,Z,Z⟩
variable {w:World} {jx:AF} {pm jz:Nat} {b:AH}
theorem WH:
  CF 105 #[] w (λv R'=> ∃A c,v=sl A 256 c/\R'=[(ru 5 A 256 c bD)]):=by
 refine fn1 Tryz.func105 Z Z Z ?_;refine wq<|wn Z<|wq<|wa (dM ah zb5 Z Z) ?_;rintro _ _⟨ao,rfl,rfl⟩;refine bK (v:=sl (GG ao) ((256:Int).toNat) ((256:Int).toNat)) Z<|wn Z<|aD<|wq<|wm Z<|wy (aO ah Z)<|wm Z<|aA<|aI ?_;refine dS (λ(i:Int) (V:AH)=>[(1,sl (GG ao) ((256:Int).toNat) ((256:Int).toNat)),(5,I (((256:Int).toNat:Nat):Int)),(6,I i)]) (λi V=>[(ru 5 (GG ao) ((256:Int).toNat) ((256:Int).toNat) V)]) (λi V=>(0<=i)/\(i<=256)/\(V.length=256)/\(∀j:Int,0<=j->j<i->rd V j=j)) (λi V=>(256-i).toNat) ?_ ?_
 ·exact⟨0,List.replicate ((256:Int).toNat) (0:Int),⟨G,G,(Z),(λj h1 h2=>G)⟩,KP⟩
 intro i V ⟨bb,ij,kd,hV⟩;refine wq<|wL Z Z<|aA<|aD<|bA Z (λbc=> ?_) (λbc=> ?_)
 ·refine aH<|aD<|aI<|wq<|wm Z<|wn Z<|aJ<|wm Z<|wm Z<|wm Z<|wy (qF au dh Z)<|wy (aG ah sz5 Z Z (rdr 0 Z))<|bY (bG 0 Z sz5 Z Z) ?_;rintro _ _ rfl;refine aA<|aJ<|wA Z Z<|wm Z<|aA ?_;exact⟨i+1,upd V i (IntKind.u8.wrap i),⟨G,G,(by rw[aT];exact kd),(eX (f:=λj=>j) bb G hV (tQ bb G))⟩,G,KP⟩
 ·refine aS<|wq<|wm Z<|wn Z<|aX [0] 99 cC Z ?_;refine⟨_,Z,?_⟩;obtain rfl:V=bD:=aGx kd (λj h1 h2=>hV j h1 G);exact⟨_,_,Z,Z⟩
theorem XI {B:Nat} {w0:World} {R:List Row} {A:AF} {m c:Nat} {l:AH} {k:Int} (hm:m=l.length) (hk:0<=k/\k<l.length) (h2:1<l.length):
  CT 107 #[sl A m c,I k] B w0 ((ru 5 A m c l)::R) (λv R'=>v= .tuple #[]/\R'=(ru 5 A m c (mtf l k))::R):=by
 subst hm;refine fn0 Tryz.func107 Z Z Z ?_;refine wq<|wm Z<|wm Z<|wy (aG ah sz5 Z Z (rdr 0 Z))<|wy (aW dh Z Z (rdr 0 Z))<|wn Z<|aD<|bL mixed<|wD 0 Z (aK Z)<|wD 1 Z (fJ ah sz5 Z Z)<|wD 2 Z (aK Z)<|wD 3 Z (aK Z)<|wD 4 Z (gK ah sz5 Z Z (rdr 0 Z)) ?_;refine wC 5 Z (UM (lo:=1) 0 Z ah sz5 Z Z Z Z G (RdC.toI (h:=(k).toNat) (rdr 0 Z) cH)) ?_;rintro _ _⟨rfl,rfl⟩;refine⟨.inl cA,?_⟩;refine wN<|aJ<|wm Z<|wm Z<|wy (aG ah sz5 Z Z (rdr 0 Z))<|bY (bG 0 Z sz5 Z Z) ?_;rintro _ _ rfl;refine aA ?_
 skip
 rw[bEk hk.1 hk.2];exact⟨Z,Z⟩
theorem TM {an:AF} {ar am:Nat} {u:AH} {c:Int} (al:Rd w an ar am 1 (ints .u8 u)) (ac:aL u) (hc:0<=c/\c<256) (hm:c∈u):
  CF 106 #[sl an ar am, .int .u8 c] w (λv R'=>v=I (idx u c)):=by
 obtain rfl:=al.lenI;refine fn1 Tryz.func106 Z Z Z ?_;have mv:=al.max;refine wq<|wn Z<|wq<|wm Z<|wm Z<|wa (aAd Tryz.func180 cA cA cA cA Z Z (al.c _) ac hc hm) ?_;rintro _ _⟨rfl,rfl⟩;refine wn Z<|bT ?_;refine⟨_,Z,?_⟩;rfl
theorem aKn (gv:Rd w jx pm jz 1 (ints .u8 b)) (dd:aL b) (hN:b.length<=1000000):
  CF 60 #[sl jx pm jz] w (λv R'=> ∃A c,v=sl A (b.length) c/\R'=[(ru 5 A b.length c (bS bD b))]):=by
 obtain rfl:=gv.lenI;refine fn1 Tryz.func60 Z Z Z ?_;have Kz:=gv.max;refine wq<|wn Z<|wq<|wa (aC bCv Z (Ct.fresh (λw hw=>WH))) ?_;rintro _ _⟨_,rfl,cr,co,rfl,rfl⟩;refine wn Z<|wq<|wm Z<|wy (aO ah Z)<|wa (dM ah zb5 Z Z) ?_;rintro _ _⟨ew,rfl,rfl⟩;refine bK (v:=sl (GG ew) b.length b.length) Z<|wn Z<|aD<|wq<|wm Z<|wy (aO ah Z)<|wm Z<|aA<|aI ?_;refine gW (λ(i:Int) (V:AH) (U:AH)=>[(3,sl cr 256 co),(4,sl (GG ew) b.length b.length),(12,sl jx b.length jz),(13,I (b.length:Int)),(14,I i)]) (λi V U=>[(ru 5 (GG ew) b.length b.length U),(ru 5 cr 256 co V)]) (λi V U=>(0<=i)/\(i<=b.length)/\(V=zW bD (b.take i.toNat))/\(U.length=b.length)/\(∀j:Int,0<=j->j<i->rd U j=rd (bS bD b) j)) (λi V U=>(b.length-i).toNat) ?_ ?_
 ·exact⟨0,bD,List.replicate b.length (0:Int),⟨G,G,(Z),(by rw[cz]),(λj h1 h2=>G)⟩,KP⟩
 intro i V U ⟨bb,ij,hV,Lu,hU⟩;have hvp:V.Perm bD:=by rw[hV];exact aPn dd _
 have Rq:=PD hvp;have un:=dd.rd i;have uv:=Rq.2.2 _ un.1 un.2;refine wq<|wL Z Z<|aA<|aD<|bA Z (λbc=> ?_) (λbc=> ?_)
 ·refine aH<|aD<|aI<|wq<|wm Z<|wy (aG ah sz5 Z Z (gv.c _))<|wy (aW dh Z Z (gv.c _))<|wg Z<|wn Z<|wq<|wm Z<|wm Z ?_;refine wa (aC bJv Z (Ct.quiet (λw hw=>TM ((rdr 1 Z) w hw) Rq.2.1 un uv.1))) ?_;rintro _ _⟨rfl,rfl⟩;refine wn Z<|wq<|wm Z<|wm Z<|wm Z<|wy (qF au dh Z)<|wy (aG ah sz5 Z Z (rdr 0 Z))<|bY (bG 0 Z sz5 Z Z) ?_;rintro _ _ rfl;refine aA<|aJ<|wm Z<|wm Z<|wa (aC bCu Z (Ct.at 1 Z (XI Rq.1.symm G G))) ?_;rintro _ _⟨rfl,rfl⟩;refine aA<|aJ<|wA Z Z<|wm Z<|aA ?_;exact⟨i+1,mtf V (idx V (rd b i)),upd U i (IntKind.u8.wrap (idx V (rd b i))),⟨G,G,(by rw[aJy bb G,<-hV]),(by rw[aT];exact Lu),(eX (f:=λj=>rd (bS bD b) j) bb G hU (by rw[aQo bb G,<-hV];exact tQ uv.2.1 uv.2.2))⟩,G,KP⟩
 ·refine aS<|wq<|wm Z<|wn Z<|aX [0] 99 cC Z ?_;refine⟨_,Z,?_⟩;obtain rfl:U=bS bD b:=bE (by rw[Lu,kQ]) (λj h1 h2=>hU j h1 G);exact⟨_,_,Z,Z⟩
theorem aNr (gv:Rd w jx pm jz 1 (ints .u8 b)) (dd:aL b) (hN:b.length<=1000000):
  CF 111 #[sl jx pm jz] w (λv R'=> ∃A c,v=sl A (b.length) c/\R'=[(ru 5 A b.length c (oK bD b))]):=by
 obtain rfl:=gv.lenI;refine fn1 Tryz.func111 Z Z Z ?_;have Kz:=gv.max;refine wq<|wn Z<|wq<|wa (aC bCv Z (Ct.fresh (λw hw=>WH))) ?_;rintro _ _⟨_,rfl,cr,co,rfl,rfl⟩;refine wn Z<|wq<|wm Z<|wy (aO ah Z)<|wa (dM ah zb5 Z Z) ?_;rintro _ _⟨ew,rfl,rfl⟩;refine bK (v:=sl (GG ew) b.length b.length) Z<|wn Z<|aD<|wq<|wm Z<|wy (aO ah Z)<|wm Z<|aA<|aI ?_;refine gW (λ(i:Int) (V:AH) (U:AH)=>[(3,sl cr 256 co),(4,sl (GG ew) b.length b.length),(11,sl jx b.length jz),(12,I (b.length:Int)),(13,I i)]) (λi V U=>[(ru 5 (GG ew) b.length b.length U),(ru 5 cr 256 co V)]) (λi V U=>(0<=i)/\(i<=b.length)/\(V=FV bD (b.take i.toNat))/\(U.length=b.length)/\(∀j:Int,0<=j->j<i->rd U j=rd (oK bD b) j)) (λi V U=>(b.length-i).toNat) ?_ ?_
 ·exact⟨0,bD,List.replicate b.length (0:Int),⟨G,G,(Z),(by rw[cz]),(λj h1 h2=>G)⟩,KP⟩
 intro i V U ⟨bb,ij,hV,Lu,hU⟩;have hvp:V.Perm bD:=by rw[hV];exact aPm dd _
 have Rq:=PD hvp;have un:=dd.rd i;have uv:=Rq.2.2 _ un.1 un.2;refine wq<|wL Z Z<|aA<|aD<|bA Z (λbc=> ?_) (λbc=> ?_)
 ·refine aH<|aD<|aI<|wq<|wm Z<|wy (aG ah sz5 Z Z (gv.c _))<|wy (aW dh Z Z (gv.c _))<|wg Z<|wn Z<|wq<|wm Z<|wm Z ?_;refine wm Z<|wm Z<|wy (aG ah sz5 Z Z (rdr 1 Z))<|wy (aW dh Z Z (rdr 1 Z))<|wy (aG ah sz5 Z Z (rdr 0 Z))<|bY (bG 0 Z sz5 Z Z) ?_;rintro _ _ rfl;refine aA<|aJ<|wm Z<|wm Z<|wy (jJ dh au Z)<|wa (aC bCu Z (Ct.at 1 Z (XI Rq.1.symm G G))) ?_;rintro _ _⟨rfl,rfl⟩;refine aA<|aJ<|wA Z Z<|wm Z<|aA ?_;exact⟨i+1,mtf V (rd b i),upd U i (rd V (rd b i)),⟨G,G,(by rw[aJx bb G,<-hV]),(by rw[aT];exact Lu),(eX (f:=λj=>rd (oK bD b) j) bb G hU (by rw[aQm bb G,<-hV]))⟩,G,KP⟩
 ·refine aS<|wq<|wm Z<|wn Z<|aX [0] 99 cC Z ?_;refine⟨_,Z,?_⟩;obtain rfl:U=oK bD b:=bE (by rw[Lu,DC]) (λj h1 h2=>hU j h1 G);exact⟨_,_,Z,Z⟩
end Go.Proofs.YtdbebmmhdefgdaaGreat
namespace Go.Eng
open Go Go.RowKit Go.Pure
section
variable {P:Program} {n:Nd} {B:Nat} {w0:World} {L:Env} {R:List Row} {ty:TypeId}
theorem RdC.toV {A:AF} {m h c:Nat} {xs:AG} (hr:RdC B w0 R A m c 1 xs) (h2:h<=m):RdC B w0 R A h c 1 (xs.take h):=by
 have:=hr.to h2;rwa[qg] at this
theorem RdC.fromV {A:AF} {m c l:Nat} {xs:AG} (hr:RdC B w0 R A m c 1 xs) (h1:l<=m):RdC B w0 R (jD A l c 1) (m-l) (c-l) 1 (xs.drop l):=λw hw=>by
 have h:=hr.cut h1 (dn m) w hw;have hl:=(hr w hw).len;rw[qg,qg,bi (by rw[bn];omega)] at h;exact h
theorem GJ {id:Nat} {l:List Oper} {Q:eZ} {Rc:List Row} (hm:P.follows .mixedOrders=true) (hR: ∀w,Hp B w0 w R->Hp B w0 w Rc) (h:WDc P n B w0 l.toArray Q.nrm l.toArray.size (Array.replicate l.toArray.size false) L R Rc) (hd:BF n.rd l=true:=by exact rfl):W P n B w0 (.region id l.toArray true) Q L R:=by
 intro a w hs hp;refine wpIn_region_any hm (aAb aEs hd _ _ _ _<|yJ _ _ _ _ _ (h a _ _ hs (hp.drawn _ (Ia _)) hR (λ_ _ _ h=>h) λ_ _ L' R' eh cv hk=>⟨L',R',eh,cv,hk⟩))
theorem RgR.left {Rs:List Row} {l:List RC} (h:RgR Rs l) (T:List Row):RgR (Rs++T) l:=h.weak λ_ _ _ hw=>hw.left
theorem SlR.nilR (k:IntKind) (Rs:List Row):SlR k Rs [] []:=⟨rfl,λj hj=>by simp at hj⟩
theorem qZ {ws:AD} (h:OkB ws):OkB (canon ws):=λc hc=>by
 obtain⟨w,h1,h2,rfl⟩:=aKp hc;have h3:=h w h1;rw[jQ];exact⟨aL.append (h3.1.drop _) (h3.1.take _),h3.2⟩
theorem OkB.app {a b:AD} (ha:OkB a) (hb:OkB b):OkB (a++b):=λl hl=>(fo.1 hl).elim (ha l) (hb l)
theorem xR (ws:AD):(canon ws).length<=ws.length:=by
 rw[RA];unfold cZ;rw[az];exact xm _ _
end
end Go.Eng
namespace Go.Proofs.YtdbebmmhdefgdaaGreat
open Go Go.Eng Go.Pure
open Tryz
set_option maxRecDepth 100000
variable {n i:Int} {acc b:AH} {w:World}
theorem aIz {m:Int} (h:iZ n.toNat=acc++iZ m.toNat) (hp:0<m) {d q:Int} (hd:d=(m-1)%2) (hq:q=(m-1)/2):iZ n.toNat=(acc++[d])++iZ q.toNat:=by
 rw[h,zO G,ek,ny];have e1:(((m.toNat-1)%2:Nat):Int)=d:=G
 have e2:(m.toNat-1)/2=q.toNat:=G
 rw[e1,e2]
theorem aJa (h:acc++cB n.toNat (b.drop i.toNat)=cB 0 b) (i0:0<=i) (hi:i<b.length) (n0:0<=n) (hc:rd b i=0):acc++cB (n+1).toNat (b.drop (i+1).toNat)=cB 0 b:=by
 rw[gM i0 hi,cB,di hc] at h;rw[show(n+1).toNat=n.toNat+1 by omega];exact h
theorem aOu (h:acc++cB n.toNat (b.drop i.toNat)=cB 0 b) (i0:0<=i) (hi:i<b.length) (hc: ¬rd b i=0):((acc++iZ n.toNat)++[rd b i+1])++cB 0 (b.drop (i+1).toNat)=cB 0 b:=by
 rw[gM i0 hi,cB,df hc] at h;rw[<-h];simp
theorem aAy (h:acc++cB n.toNat (b.drop i.toNat)=cB 0 b):acc.length<=b.length:=by
 have h1:=bg List.length h;have h2:=qI b 0;rw[ai] at h1;omega
theorem aIy (h0:0<=n):((iZ n.toNat).length:Int)<=n:=by
 have:=zP _ _ (dn n.toNat);omega
theorem OO (h0:0<=n/\n<=1000000):
  CF 201 #[I n] w (λv R'=> ∃A c,v=sl A ((iZ n.toNat).length) c/\R'=[(ri 3 A ((iZ n.toNat).length) c (iZ n.toNat))]):=by
 refine fn1 Tryz.func201 Z Z Z ?_;refine wq<|wn Z<|wq<|bR (R1:=[(ri 3 none 0 0 ([]))]) (Sub.refl _) (λ_ h=>h.nil 3 1)<|wn Z<|aD<|aI ?_;refine jK (λ(A1:AF) (n1:Nat) (c1:Nat) (acc:AH) (m:Int)=>[(0,I m),(3,sl A1 n1 c1)]) (λA1 n1 c1 acc m=>[(ri 3 A1 n1 c1 acc)]) (λA1 n1 c1 acc m=>(n1=acc.length)/\(0<=m)/\(iZ n.toNat=acc++iZ m.toNat)/\(acc.length+m<=n)) (λA1 n1 c1 acc m=>m.toNat) ?_ ?_
 ·exact⟨none,0,0,[],n,⟨(Z),G,(Z),(by show((0:Nat):Int)+n<=n;omega)⟩,KP⟩
 intro A1 n1 c1 acc m ⟨dp,sv,hT,hL⟩;refine aD<|wq<|wm Z<|wy (dN Z Z)<|aA<|bA Z (λbc=> ?_) (λbc=> ?_)
 ·refine aH<|aD<|aI<|aJ<|wm Z<|wm Z<|wS Z Z<|wy (xZ Z Z)<|wa (bQ .i64 [(m-1)%2] aa zs3 Z Z Z) ?_;rintro _ _⟨db,rfl,rfl⟩;refine wa (aY 1 Z aa zb3 Z Z Z (rdr 0 Z)) ?_;rintro _ _⟨fg,fi,rfl,rfl⟩;refine bK (v:=sl fg (n1+1) fi) Z<|wn Z<|aJ<|wm Z<|wS Z Z<|wy (CY Z Z G G G)<|wn Z ?_;exact⟨fg,n1+1,fi,acc++([(m-1)%2]),(m-1)/2,⟨(by rw[ai,dp];try rfl),G,(aIz hT G G G),(by rw[ai,ii];omega)⟩,G,SA,λ_ h=>h.sel [1] cC Z⟩
 ·refine aS<|wq<|wm Z<|wn Z<|aX [0] 99 cC Z ?_;refine⟨_,Z,?_⟩;obtain rfl:m=0:=G
  have e:iZ n.toNat=acc:=by rw[hT];exact ji _
  rw[e];obtain rfl:=dp;exact⟨_,_,Z,Z⟩
theorem aJd {jx:AF} {pm jz:Nat} (gv:Rd w jx pm jz 1 (ints .u8 b)) (dd:aL b) (hN:b.length<=1000000):
  CF 129 #[sl jx pm jz] w (λv R'=> ∃A c,v=sl A ((cB 0 b).length) c/\R'=[(ri 3 A ((cB 0 b).length) c (cB 0 b))]):=by
 obtain rfl:=gv.lenI;refine fn1 Tryz.func129 Z Z Z ?_;have Kz:=gv.max;refine wq<|wn Z<|wq<|bR (R1:=[(ri 3 none 0 0 ([]))]) (Sub.refl _) (λ_ h=>h.nil 3 1)<|wn Z<|wq<|wn Z<|aD<|aD ?_;refine aJ<|wm Z<|wy (aO ah Z)<|wm Z<|aA<|aI ?_;refine pJ (λ(A1:AF) (n1:Nat) (c1:Nat) (acc:AH) (i:Int) (m:Int)=>[(3,sl A1 n1 c1),(4,I m),(7,sl jx b.length jz),(8,I (b.length:Int)),(9,I i)]) (λA1 n1 c1 acc i m=>[(ri 3 A1 n1 c1 acc)]) (λA1 n1 c1 acc i m=>(n1=acc.length)/\(0<=i)/\(i<=b.length)/\(0<=m)/\(m<=i)/\(acc++cB m.toNat (b.drop i.toNat)=cB 0 b)) (λA1 n1 c1 acc i m=>(b.length-i).toNat) ?_ ?_
 ·exact⟨none,0,0,[],0,0,⟨(Z),G,G,G,G,(Z)⟩,KP⟩
 intro A1 n1 c1 acc i m ⟨dp,bb,ij,sv,nd,hT⟩;have vt:=aAy hT;have Of:=aIy sv;refine wq<|wL Z Z<|aA<|aD<|bA Z (λbc=> ?_) (λbc=> ?_)
 ·have un:=dd.rd i;refine aH<|aD<|aI<|wq<|wy (aG ah sz5 Z Z (gv.c _))<|wy (aW dh Z Z (gv.c _))<|wn Z<|aD<|wq<|wm Z<|wy (gT Z Z)<|aA ?_;refine bA Z (λda=> ?_) (λda=> ?_)
  ·refine wq<|wm Z<|wA Z Z<|wn Z<|aS<|aJ<|wA Z Z<|wm Z<|aA ?_;exact⟨A1,n1,c1,acc,i+1,m+1,⟨(by first|exact dp|simp[dp,qi]),G,G,G,G,(aJa hT bb G sv cF)⟩,G,KP⟩
  ·refine aH<|wq<|wm Z<|wm Z<|wa (aC bCj Z (Ct.fresh (λw hw=>OO G))) ?_;rintro _ _⟨_,rfl,cr,co,rfl,rfl⟩;refine wa (aY 1 Z aa zb3 Z Z Z (rdr 0 Z)) ?_;rintro _ _⟨me,mz,rfl,rfl⟩;refine bK (v:=sl me (n1+((iZ (m).toNat).length)) mz) Z<|wm Z<|wy (jJ dh au Z)<|wA Z Z<|wa (bQ .i64 [(rd b i)+1] aa zs3 Z Z Z) ?_;rintro _ _⟨gh,rfl,rfl⟩;refine wa (aY 2 Z aa zb3 Z Z Z (rdr 0 Z)) ?_;rintro _ _⟨jj,na,rfl,rfl⟩;refine bK (v:=sl jj ((n1+((iZ (m).toNat).length))+1) na) Z<|wn Z<|aJ<|wn Z<|aJ<|wA Z Z<|wm Z<|aA ?_;exact⟨jj,(n1+((iZ (m).toNat).length))+1,na,(acc++(iZ (m).toNat))++([(rd b i)+1]),i+1,0,⟨(by first|exact dp|simp[dp,qi]),G,G,G,G,(aOu hT bb G cF)⟩,G,SA,λ_ h=>h.sel [2] cC Z⟩
 ·refine aS<|wq<|wm Z<|wm Z<|wa (aC bCj Z (Ct.fresh (λw hw=>OO G))) ?_;rintro _ _⟨_,rfl,br,bw,rfl,rfl⟩;refine wa (aY 1 Z aa zb3 Z Z Z (rdr 0 Z)) ?_;rintro _ _⟨fa,fb,rfl,rfl⟩;refine bK (v:=sl fa (n1+((iZ (m).toNat).length)) fb) Z<|wn Z<|aX [1] 99 cC Z ?_;refine⟨_,Z,?_⟩;rw[zb G] at hT;have e2:acc++iZ m.toNat=cB 0 b:=hT;have e:n1+(iZ m.toNat).length=(cB 0 b).length:=by rw[<-e2,ai,dp]
  rw[e,e2];exact⟨_,_,Z,Z⟩
variable {B g n c:Nat} {w0:World} {R:List Row} {A:AF} {C:AH} {ia:Int}
theorem KX (hn:n=C.length) (hs:0<=ia/\ia<C.length):
  CT 202 #[PG g,I ia] B w0 ((rc 256 2 g [sl A n c,I (aR C)])::(ri 3 A n c C)::R) (λv R'=>v=bt/\R'=(rc 256 2 g [sl A n c,I (aR C)])::(ri 3 A n c C)::R):=by
 subst hn;refine fn1 Tryz.func202 Z Z Z ?_;refine wq<|wn Z<|wq<|wm Z<|wy (aWj Fb Z Z)<|wm Z<|aB Z Z<|wm Z<|aB Z Z<|wy (Yl.t (jN Z Z) G)<|wy (aQ Z Z)<|wm Z ?_;refine aB Z Z<|wm Z<|aB Z Z<|wm Z<|aB Z Z<|wy (aF Z)<|aB Z Z<|wy (yF 0 0 pu iL Z)<|aB Z Z<|wy (yL 0 aa Z Z Z)<|aB Z Z<|wy (aO aa Z)<|aB Z Z<|wy (Yl.t (fO Z Z) G)<|wy (aQ Z Z) ?_;refine wn Z<|bN (R1:=((rc 256 2 g [sl A C.length c,I (aR C)])::(ri 3 A C.length c C)::R)) hiZ ?_;exact⟨_,Z,Z,Z⟩
theorem iX:
  CT 133 #[PG g] B w0 ((rc 256 2 g [sl A n c,I (aR C)])::(ri 3 A n c C)::R) (λv R'=>v=I (aR C)/\R'=(rc 256 2 g [sl A n c,I (aR C)])::(ri 3 A n c C)::R):=by
 refine fn1 Tryz.func133 Z Z Z ?_;refine wq<|wn Z<|aD<|wq<|wm Z<|wy (kI Fb Z Z)<|aA<|aN Z<|aH<|wq<|wm Z ?_;refine wy (aF Z)<|wy (yF 1 1 pu sz3 Z)<|wy (yL 0 au Z Z Z)<|wn Z<|bN (R1:=((rc 256 2 g [sl A n c,I (aR C)])::(ri 3 A n c C)::R)) hiZ ?_;exact⟨_,Z,Z,Z⟩
theorem kR (hn:n=C.length) (hs:0<=ia/\ia<C.length) (dr:mH C):
  CT 131 #[PG g,I ia] B w0 ((rc 256 2 g [sl A n c,I (aR C)])::(ri 3 A n c C)::R) (λv R'=>v= .tuple #[I (aR (C.take ia.toNat)),I (rd C ia),bt]/\R'=(rc 256 2 g [sl A n c,I (aR C)])::(ri 3 A n c C)::R):=by
 subst hn;refine fn3 Tryz.func131 Z Z Z ?_;refine wq<|wg Z<|wg Z<|wn Z<|aD<|wq<|wm Z<|wm Z<|wa (aC bCi Z ((KX Z G))) ?_;rintro _ _⟨rfl,rfl⟩;refine wy (dH Z)<|aA<|aN Z<|aH<|aD<|wq<|wm Z<|wy (aF Z)<|wy (yF 0 0 pu iL Z)<|wy (yL 0 aa Z Z Z)<|wm Z<|wy (gK aa sz3 Z Z (rdr 1 Z))<|wy (aO aa Z)<|wm Z ?_;refine aA<|aI ?_;refine dS (λ(i:Int) (low:Int)=>[(0,PG g),(1,I ia),(4,I low),(18,sl A ((ia).toNat) c),(19,I (((ia).toNat:Nat):Int)),(20,I i)]) (λi low=>((rc 256 2 g [sl A C.length c,I (aR C)])::(ri 3 A C.length c C)::R)) (λi low=>(0<=i)/\(i<=ia)/\(low=aR (C.take i.toNat))) (λi low=>(ia-i).toNat) ?_ ?_
 ·exact⟨0,0,⟨G,G,(Z)⟩,KP⟩
 intro i low ⟨bb,ij,Ml⟩;have w4:=sG (i:=i) dr.2.1 bb G;have Mk:=dr.2.2;have ki:=dr.1;have s5:=SV (l:=C) (k:=ia) (i:=i) bb;refine wq<|wL Z Z<|aA<|aD<|bA Z (λbc=> ?_) (λbc=> ?_)
 ·have s5:=s5 G;refine aH<|aD<|aI<|wq<|wy (aG aa sz3 Z Z (RdC.toI (h:=(ia).toNat) (rdr 1 Z) cH)) ?_;refine wy (aW au Z Z (RdC.toI (h:=(ia).toNat) (rdr 1 Z) cH)) ?_;refine wn Z<|aJ<|wm Z<|wm Z<|wA Z Z<|wn Z<|aJ<|wA Z Z<|wm Z<|aA ?_;exact⟨i+1,low+(rd ((C).take (ia).toNat) i),⟨G,G,(by rw[sF bb G,<-Ml,SV bb G])⟩,G,KP⟩
 ·refine aS<|aD<|bL mixed<|wD 0 Z (aK Z)<|wD 1 Z (aK Z)<|wD 2 Z (aF Z)<|wD 3 Z (yF 0 0 pu iL Z)<|wD 4 Z (yL 0 aa Z Z Z)<|wD 5 Z (aK Z)<|wD 6 Z (aG aa sz3 Z Z (rdr 1 Z))<|wD 7 Z (aW au Z Z (rdr 1 Z))<|wD 8 Z (bB Z)<|wD 9 Z (bB Z)<|wD 10 Z (bB Z)<|wN ?_;refine bN (R1:=((rc 256 2 g [sl A C.length c,I (aR C)])::(ri 3 A C.length c C)::R)) hiZ ?_;refine⟨_,_,_,Z,Z,Z,?_⟩;obtain rfl:i=ia:=G
  rw[<-Ml];exact⟨Z,Z⟩
theorem vR {w:World}:
  CF 200 #[I 258] w (λv R'=> ∃g A c,v=PG g/\R'=[(rc 256 2 g [sl A 258 c,I 258]),(ri 3 A 258 c yS)]):=by
 refine fn1 Tryz.func200 Z Z Z ?_;refine wq<|wn Z<|aD<|wq<|wm Z<|wy (Yl.f (fO Z Z) cC)<|wm Z<|aB Z Z<|wm Z<|aB Z Z<|wy (Yl.f (dN Z Z) cC)<|wy (aP Z Z) ?_;refine aA<|aN Z<|aH<|wq<|wm Z<|wm Z<|wa (dM aa zb3 Z Z) ?_;rintro _ _⟨ao,rfl,rfl⟩;refine bK (v:=sl (GG ao) ((258:Int).toNat) ((258:Int).toNat)) Z<|wy (gV (v:= .agg #[sl (GG ao) ((258:Int).toNat) ((258:Int).toNat),I 258]) Z (λw=>cA))<|wa (dC (sz:=2) rfl rfl) ?_;rintro _ _⟨db,rfl,rfl⟩;refine wn Z<|aD<|wq<|wm Z<|wy (aF Z)<|wy (yF 0 0 pu iL Z)<|wy (yL 0 aa Z Z Z)<|wy (aO aa Z)<|wm Z<|aA<|aI ?_;refine dS (λ(i:Int) (V:AH)=>[(3,PG db),(20,I (((258:Int).toNat:Nat):Int)),(21,I i)]) (λi V=>[(rc 256 2 db [sl (GG ao) ((258:Int).toNat) ((258:Int).toNat),I 258]),(ri 3 (GG ao) ((258:Int).toNat) ((258:Int).toNat) V)]) (λi V=>(0<=i)/\(i<=258)/\(V.length=258)/\(∀j:Int,0<=j->j<i->rd V j=1)) (λi V=>(258-i).toNat) ?_ ?_
 ·exact⟨0,List.replicate ((258:Int).toNat) (0:Int),⟨G,G,(cz),(λj h1 h2=>G)⟩,KP⟩
 intro i V ⟨bb,ij,kd,hV⟩;refine wq<|wL Z Z<|aA<|aD<|bA Z (λbc=> ?_) (λbc=> ?_)
 ·refine aH<|aD<|aI<|wq<|wm Z<|wn Z<|aJ<|wm Z<|wy (aF Z)<|wy (yF 0 0 pu iL Z)<|wy (yL 0 aa Z Z Z)<|wm Z<|wy (aG aa sz3 Z Z (rdr 1 Z)) ?_;refine bY (bG 1 Z sz3 Z Z) ?_;rintro _ _ rfl;refine aA<|aJ<|wA Z Z<|wm Z<|aA ?_;exact⟨i+1,upd V i 1,⟨G,G,(by rw[aT];exact kd),(eX (f:=λ_=>1) bb G hV Z)⟩,G,KP⟩
 ·refine aS<|wq<|wm Z<|wn Z<|bN (R1:=[(rc 256 2 db [sl (GG ao) ((258:Int).toNat) ((258:Int).toNat),I 258]),(ri 3 (GG ao) ((258:Int).toNat) ((258:Int).toNat) V)]) hiZ ?_;refine⟨_,Z,?_⟩;obtain rfl:V=yS:=bEl kd (λj h1 h2=>hV j h1 G);exact⟨_,_,_,Z,Z⟩
theorem vQ (hn:n=C.length) (hs:0<=ia/\ia<C.length) (dr:mH C):
  CT 205 #[PG g,I ia] B w0 ((rc 256 2 g [sl A n c,I (aR C)])::(ri 3 A n c C)::R) (λv R'=>v=bt/\R'=(rc 256 2 g [sl A n c,I (aR (mI C ia))])::(ri 3 A n c (mI C ia))::R):=by
 subst hn;have ki:=dr.1;have w4:=dr.le.part (i:=ia) hs.1 G;have s7:=dr.up (s:=ia) hs.1 G;have Mk:=dr.2.2;have ux:=s7.1.1;have Od:=vD dr.2.1;refine fn1 Tryz.func205 Z Z Z ?_;refine wq<|wn Z<|aD<|wq<|wm Z<|wm Z<|wa (aC bCi Z ((KX Z G))) ?_;rintro _ _⟨rfl,rfl⟩;refine wy (dH Z)<|aA<|aN Z<|aH<|wq<|wm Z<|wy (aF Z)<|wy (yF 0 0 pu iL Z)<|wy (yL 0 aa Z Z Z)<|wm Z<|wy (aG aa sz3 Z Z (rdr 1 Z))<|wy (aW au Z Z (rdr 1 Z))<|wA Z Z<|wy (aG aa sz3 Z Z (rdr 1 Z)) ?_;refine bY (bG 1 Z sz3 Z Z) ?_;rintro _ _ rfl;refine aA<|wq<|wm Z<|wy (aF Z)<|wy (yF 1 1 pu sz3 Z)<|wy (yL 0 au Z Z Z)<|wA Z Z<|wy (aF Z)<|wy (yF 1 1 pu sz3 Z)<|bY (aZ 0 Z Z Z sz3 Z Z Z Z (ak Z)) ?_;rintro _ _ rfl;refine aA<|aD<|wq<|wm Z<|wy (aF Z)<|wy (yF 1 1 pu sz3 Z)<|wy (yL 0 au Z Z Z)<|wy (dN Z Z)<|aA<|bA Z (λbc=> ?_) (λbc=> ?_)
 ·refine wq<|wm Z<|wy (aF Z)<|wy (yF 1 1 pu sz3 Z)<|bY (aZ 0 Z Z Z sz3 Z Z Z Z (ak Z)) ?_;rintro _ _ rfl;refine aA<|wq<|wm Z<|wy (aF Z)<|wy (yF 0 0 pu iL Z)<|wy (yL 0 aa Z Z Z)<|wy (aO aa Z)<|wm Z<|aA<|aI ?_;refine gW (λ(i:Int) (V:AH) (t:Int)=>[(0,PG g),(38,sl A C.length c),(39,I (C.length:Int)),(40,I i)]) (λi V t=>((rc 256 2 g [sl A C.length c,I t])::(ri 3 A C.length c V)::R)) (λi V t=>(0<=i)/\(i<=258)/\(NH (upd C ia (rd C ia+32)) V i t)) (λi V t=>(258-i).toNat) ?_ ?_
  ·exact⟨0,upd C ia ((rd C ia)+32),0,⟨G,G,(aDa ux)⟩,KP⟩
  intro i V t ⟨bb,ij,hI⟩;have hhp:=s7.1.part (i:=i) bb;have Zf:=s7.1.half.le.part (i:=i) bb;have kd:=hI.len;have Mw:=hI.sum;refine wq<|wL Z Z<|aA<|aD<|bA Z (λda=> ?_) (λda=> ?_)
  ·have hhp:=hhp G;have Zf:=Zf G;have Wk:=hI.left i G G;have Wr:=eT (l:=V) (i:=i) (v:=(rd V i+1)/2) bb G;have hht:0<=t/\t<=65536:=by rw[Mw];exact Zf.1
   refine aH<|aD<|aI<|wq<|wm Z<|wy (aG aa sz3 Z Z (rdr 1 Z))<|wy (aW au Z Z (rdr 1 Z))<|wg Z<|wn Z<|wq<|wm Z<|wy (aF Z) ?_;refine wy (yF 0 0 pu iL Z)<|wy (yL 0 aa Z Z Z)<|wm Z<|wm Z<|wA Z Z<|wy (CY Z Z G G G)<|wy (aG aa sz3 Z Z (rdr 1 Z))<|bY (bG 1 Z sz3 Z Z) ?_;rintro _ _ rfl;refine aA<|bL mixed<|wD 0 Z (aK Z)<|wD 1 Z (aF Z)<|wD 2 Z (yF 1 1 pu sz3 Z)<|wD 3 Z (yL 0 au Z Z Z)<|wD 4 Z (aK Z)<|wD 5 Z (aF Z)<|wD 6 Z (yF 0 0 pu iL Z)<|wD 7 Z (yL 0 aa Z Z Z)<|wD 8 Z (aK Z)<|wD 9 Z (aG aa sz3 Z Z (rdr 1 Z))<|wD 10 Z (aW au Z Z (rdr 1 Z))<|wD 11 Z (dK Z Z)<|wD 12 Z (aF Z) ?_;refine wD 13 Z (yF 1 1 pu sz3 Z)<|qG 14 Z cA (aZ 0 Z Z Z sz3 Z Z Z Z (ak Z)) ?_;rintro _ _ rfl;refine⟨.inl cA,?_⟩;refine wN<|aJ<|wA Z Z<|wm Z<|aA ?_;exact⟨i+1,upd V i (((rd V i)+1)/2),(t+rd (upd V i ((rd V i+1)/2)) i),⟨G,G,(hI.step ux bb G)⟩,G,KP⟩
  ·refine aS<|wq<|wn Z<|bN (R1:=((rc 256 2 g [sl A C.length c,I t])::(ri 3 A C.length c V)::R)) hiZ ?_;refine⟨_,Z,?_⟩;obtain rfl:i=258:=G
   obtain⟨e1,e2⟩:=hI.done_all ux;have e3:mI C ia=V:=by unfold mI;rw[di G,e1]
   rw[e3,e1,<-e2];exact⟨Z,Z⟩
 ·refine aH<|wq<|wn Z<|bN (R1:=((rc 256 2 g [sl A C.length c,I ((aR C)+32)])::(ri 3 A C.length c (upd C ia ((rd C ia)+32)))::R)) hiZ ?_;refine⟨_,Z,?_⟩;have e3:mI C ia=(upd C ia (rd C ia+32)):=by unfold mI;rw[df G]
  rw[e3,s7.2];exact⟨Z,Z⟩
variable {w w0:World} {low size total:Int} {B g n c:Nat} {R:List Row} {A:AF}
theorem FK (s6:wU low size total):
  CF 203 #[I low,I size,I total] w (λv R'=>v=bt):=by
 refine fn1 Tryz.func203 Z Z Z ?_;obtain⟨s1,s2,s3,s4⟩:=s6;refine wq<|wn Z<|wq<|wm Z<|wy (Yl.t (uV Z Z) G)<|wm Z<|aB Z Z<|wm Z<|aB Z Z<|wy (Yl.t (jN Z Z) G)<|wy (aQ Z Z)<|wm Z ?_;refine aB Z Z<|wm Z<|aB Z Z<|wy (Yl.t (jN Z Z) G)<|wy (aQ Z Z)<|wm Z<|aB Z Z<|wm Z<|aB Z Z<|wm Z<|aB Z Z<|wy (Yl.t (uV Z Z) G)<|wy (aQ Z Z)<|wm Z<|aB Z Z ?_;refine wm Z<|aB Z Z<|wm Z<|aB Z Z<|wm Z<|aB Z Z<|wS Z Z<|aB Z Z<|wy (Yl.t (uV Z Z) G)<|wy (aQ Z Z)<|wn Z<|bT ?_;refine⟨_,Z,?_⟩;rfl
theorem KV:
  CF 128 #[] w (λv R'=> ∃g A c,v=PG g/\R'=[(rc 253 3 g [sl A cd0.k c, .int .u64 (cd0.N%4294967296), .int .u64 cd0.R]),(ru 5 A cd0.k c (beL cd0.k (cd0.N/4294967296)))]):=by
 refine fn1 Tryz.func128 Z Z Z ?_;refine wq<|wn Z<|wq<|wy (gV (v:= .agg #[sl none 0 0, .int .u64 0, .int .u64 4294967295]) Z (λw=>cA))<|wa (dC (sz:=3) rfl rfl) ?_;rintro _ _⟨ao,rfl,rfl⟩;refine bR (R1:=[(ru 5 none 0 0 ([])),(rc 253 3 ao [sl none 0 0, .int .u64 0, .int .u64 4294967295])]) (Sub.refl _) (λ_ h=>h.nil 5 1)<|wn Z<|aX [1,0] 99 cC Z ?_;exact⟨_,Z,_,_,_,Z,Z⟩
theorem UA {b:AH} {x r:Int} (hn:n=b.length) (hb:aL b) (hL:b.length<=1000000):
  CT 204 #[PG g] B w0 ((rc 253 3 g [sl A n c, .int .u64 x, .int .u64 r])::(ru 5 A n c b)::R) (λv R'=>v= .tuple #[]/\R'=(rc 253 3 g [sl A n c, .int .u64 x, .int .u64 r])::(ru 5 A n c (GD b 1))::R):=by
 subst hn;refine fn0 Tryz.func204 Z Z Z ?_;refine wq<|wm Z<|wy (aF Z)<|wy (yF 0 0 jk dP Z)<|wy (yL 0 ah Z Z Z)<|wy (aO ah Z)<|wS Z Z<|wn Z<|aI ?_;refine dS (λ(i:Int) (V:AH)=>[(0,PG g),(2,I i)]) (λi V=>((rc 253 3 g [sl A b.length c, .int .u64 x, .int .u64 r])::(ru 5 A b.length c V)::R)) (λi V=>(-1<=i)/\(i<b.length)/\(aEu b 1 V i 1)) (λi V=>(i+1).toNat) ?_ ?_
 ·exact⟨(b.length:Int)-1,b,⟨G,G,(aNt hb Z)⟩,KP⟩
 intro i V ⟨bb,ij,hI⟩;have kd:=hI.1;have hVb:=hI.2.1.rd i;have Wr:=eT (l:=V) (i:=i) (v:=(rd V i+1)%256);refine aD<|wq<|wm Z<|wy (jN Z Z)<|aA<|bA Z (λbc=> ?_) (λbc=> ?_)
 ·have Wr:=Wr G G;refine aH<|aD<|aI<|wq<|wm Z<|wy (aF Z)<|wy (yF 0 0 jk dP Z)<|wy (yL 0 ah Z Z Z)<|wm Z<|wy (aG ah sz5 Z Z (rdr 1 Z))<|wy (aW dh Z Z (rdr 1 Z))<|wy (bDb Z Z)<|wy (aG ah sz5 Z Z (rdr 1 Z))<|bY (bG 1 Z sz5 Z Z) ?_;rintro _ _ rfl;refine aA<|wq<|wm Z<|wy (aF Z)<|wy (yF 0 0 jk dP Z)<|wy (yL 0 ah Z Z Z)<|wm Z<|wy (aG ah sz5 Z Z (rdr 1 Z))<|wy (aW dh Z Z (rdr 1 Z))<|wy (iI Z Z)<|aA<|bA Z (λda=> ?_) (λda=> ?_)
  ·refine bN (R1:=((rc 253 3 g [sl A b.length c, .int .u64 x, .int .u64 r])::(ru 5 A b.length c (upd V i (((rd V i)+1)%256)))::R)) hiZ ?_
   skip
   have e:upd V i ((rd V i+1)%256)=GD b 1:=(hI.step (y:=0) (d:=(rd V i+1)%256) G G G G).stop (.inl rfl);rw[e];exact⟨Z,Z⟩
  ·refine aH<|aJ<|wm Z<|wS Z Z<|wn Z ?_;exact⟨i-1,upd V i (((rd V i)+1)%256),⟨G,G,(hI.step G G G G)⟩,G,KP⟩
 ·refine aS ?_
  skip
  obtain rfl:=hI.stop (.inr G);exact⟨Z,Z⟩
theorem KD {s:CdS} (hn:n=s.k) (hc:aAj s) (s6:wU low size total) (hk:s.k<=1000000):
  CT 132 #[PG g,I low,I size,I total] B w0 ((rc 253 3 g [sl A n c, .int .u64 (s.N%4294967296), .int .u64 s.R])::(ru 5 A n c (beL s.k (s.N/4294967296)))::R) (λv R'=> ∃(A1:AF) (c1:Nat),v=bt/\R'=(rc 253 3 g [sl A1 ((iN s low size total).k) c1, .int .u64 ((iN s low size total).N%4294967296), .int .u64 ((iN s low size total).R)])::(ru 5 A1 ((iN s low size total).k) c1 (beL (iN s low size total).k ((iN s low size total).N/4294967296)))::R):=by
 subst hn;obtain⟨r0,r1,n0,nr⟩:=hc;have Qc:=s6;obtain⟨s1,s2,s3,s4⟩:=Qc;obtain⟨f1,f2,f3,f4,f5⟩:=qJ s6 ⟨r0,r1⟩;refine fn1 Tryz.func132 Z Z Z ?_;refine wq<|wn Z<|aD<|wq<|wm Z<|wy (kI underlying181 Z Z)<|wm Z<|aB Z Z<|wm Z<|aB Z Z<|wm Z<|aB Z Z ?_;refine wm Z<|aB Z Z<|wa (aC bCh Z (Ct.quiet (λw hw=>FK s6))) ?_;rintro _ _⟨rfl,rfl⟩;refine aB Z Z<|wy (dH Z)<|wy (aP Z Z)<|aA<|aN Z<|aH<|wq<|wm Z<|wy (aF Z)<|wy (yF 2 2 jk dX Z)<|wy (yL 0 gy Z Z Z)<|wm Z<|wy (jI au gy Z)<|wy (II Z Z G G) ?_;refine wn Z<|wq<|wm Z<|wy (aF Z)<|wy (yF 1 1 jk dX Z)<|wy (yL 0 gy Z Z Z)<|wm Z<|wm Z<|wy (jI au gy Z)<|wy (yI Z Z G)<|wy (bDa Z Z G)<|wy (aF Z)<|wy (yF 1 1 jk dX Z) ?_;refine bY (aZ 0 Z Z Z dX Z Z Z Z (ak Z)) ?_;rintro _ _ rfl;refine aA<|aD<|wq<|wm Z<|wy (aF Z)<|wy (yF 1 1 jk dX Z)<|wy (yL 0 gy Z Z Z)<|wy (rF (k:=32) (m:=4294967296) Z Z Z G Z)<|wy (dN Z Z)<|aA<|bA Z (λbc=> ?_) (λbc=> ?_)
 ·refine wq<|wm Z<|wy (aF Z)<|wy (yF 1 1 jk dX Z)<|wy (yL 0 gy Z Z Z)<|wy (RV (m:=4294967296) 32 Z Z Z Z G Z)<|wy (aF Z)<|wy (yF 1 1 jk dX Z)<|bY (aZ 0 Z Z Z dX Z Z Z Z (ak Z)) ?_;rintro _ _ rfl;refine aA<|aJ<|wm Z<|wa (aC bIu Z ((UA (by rw[lL]) (EN _ _) (by rw[lL];omega)))) ?_;rintro _ _⟨rfl,rfl⟩;refine aA<|aD<|wq<|wm Z<|wm Z<|wm Z<|wy (jI au gy Z)<|wy (yI Z Z G)<|wy (aF Z)<|wy (yF 2 2 jk dX Z)<|bY (aZ 0 Z Z Z dX Z Z Z Z (ak Z)) ?_;rintro _ _ rfl;refine aA<|aI ?_;refine GK (λ(j:Nat) (A1:AF) (n1:Nat) (c1:Nat) (V:AH) (x:Int) (r:Int) (M:Int)=>[(0,PG g)]) (λj A1 n1 c1 V x r M=>((rc 253 3 g [sl A1 n1 c1, .int .u64 x, .int .u64 r])::(ru 5 A1 n1 c1 V)::R)) (λj A1 n1 c1 V x r M=>(M=(s.N+s.R/total*low)*256^j)/\(r=(s.R/total*size)*256^j)/\(j<=shN (s.R/total*size))/\(V=beL (s.k+j) (M/4294967296))/\(x=M%4294967296)/\(n1=s.k+j)) (λj A1 n1 c1 V x r M=>(4-j)) ?_ ?_
  ·exact⟨0,A,s.k,c,GD (beL s.k (s.N/4294967296)) 1,((s.N%4294967296)+((s.R/total)*low))%4294967296,(s.R/total)*size,(s.N+s.R/total*low),⟨(by rw[ww,Bj]),(by rw[ww,Bj]),(qh _),(by first|(rw[UI,qf,show(s.N+s.R/total*low)/4294967296=s.N/4294967296+1 by omega])|(rw[qf,show(s.N+s.R/total*low)/4294967296=s.N/4294967296 by omega])),G,(Z)⟩,KP⟩
  intro j A1 n1 c1 V x r M ⟨hM,hr,hj,hV,hx,dp⟩;have ka:=JG (s.R/total*size);have hrp:1<=r:=by rw[hr];exact KE G
  refine aD<|wq<|wm Z<|wy (aF Z)<|wy (yF 2 2 jk dX Z)<|wy (yL 0 gy Z Z Z)<|wL Z Z<|aA<|bA Z (λda=> ?_) (λda=> ?_)
  ·refine aH<|aD<|aI<|aD<|bL mixed<|wD 0 Z (aK Z)<|wD 1 Z (aK Z)<|wD 2 Z (aF Z)<|wD 3 Z (yF 0 0 jk dP Z)<|wD 4 Z (yL 0 ah Z Z Z)<|wD 5 Z (aK Z)<|wD 6 Z (aF Z)<|wD 7 Z (yF 1 1 jk dX Z)<|wD 8 Z (yL 0 gy Z Z Z)<|wD 9 Z (rF (k:=24) (m:=16777216) Z Z Z G Z) ?_;refine wD 10 Z (gU gy dh Z)<|wC 11 Z (bQ .u8 [(x/16777216)%256] ah zs5 Z Z Z) ?_;rintro _ _⟨db,rfl,rfl⟩;refine⟨.inr hrZ,?_⟩;refine wC 12 Z (aY 2 Z ah zb5 Z Z Z (rdr 0 Z)) ?_;rintro _ _⟨fg,fi,rfl,rfl⟩;refine⟨.inl cA,?_⟩;refine jS (v:=sl fg (n1+1) fi) Z<|wD 13 Z (aF Z)<|wD 14 Z (yF 0 0 jk dP Z)<|qG 15 Z cA (aZ 1 Z Z Z dP Z Z Z Z (ak Z)) ?_;rintro _ _ rfl;refine⟨.inl cA,?_⟩;refine wN<|aJ<|wm Z<|wm Z<|wy (aF Z)<|wy (yF 1 1 jk dX Z)<|wy (yL 1 gy Z Z Z)<|wy (yH (k:=8) (m:=256) Z Z Z G Z)<|wy (RV (m:=4294967296) 32 Z Z Z Z G Z)<|wy (aF Z)<|wy (yF 1 1 jk dX Z)<|bY (aZ 1 Z Z Z dX Z Z Z Z (ak Z)) ?_;rintro _ _ rfl;refine aA<|aJ<|wm Z<|wy (aF Z)<|wy (yF 2 2 jk dX Z)<|wy (yL 1 gy Z Z Z)<|wy (yH (k:=8) (m:=256) Z Z Z G Z)<|wy (aF Z)<|wy (yF 2 2 jk dX Z)<|bY (aZ 1 Z Z Z dX Z Z Z Z (ak Z)) ?_;rintro _ _ rfl;refine aA ?_;exact⟨(j+1),fg,n1+1,fi,V++([(x/16777216)%256]),(x*256)%4294967296,r*256,(M*256),⟨(by rw[hM,um,<-xx]),(by rw[hr,um,<-xx]),(JF G hj (by rw[<-hr];assumption)),(by rw[hV,hx];exact(ZY _ _).symm),G,(by rw[dp];rfl)⟩,G,SA,λ_ h=>h.selR (F:=[_,_,_]) (F':=[_,_]) [1,2] cC Z⟩
  ·refine aS<|wq<|wn Z<|bN (R1:=((rc 253 3 g [sl A1 n1 c1, .int .u64 x, .int .u64 r])::(ru 5 A1 n1 c1 V)::R)) hiZ ?_;refine⟨_,Z,?_⟩;obtain rfl:j=shN (s.R/total*size):=SI G hj (by rw[<-hr];omega);refine⟨A1,c1,Z,?_⟩;rw[hV,hx,hr,hM,dp];rfl
 ·refine aH<|aD<|wq<|wm Z<|wm Z<|wm Z<|wy (jI au gy Z)<|wy (yI Z Z G)<|wy (aF Z)<|wy (yF 2 2 jk dX Z)<|bY (aZ 0 Z Z Z dX Z Z Z Z (ak Z)) ?_;rintro _ _ rfl;refine aA<|aI ?_;refine GK (λ(j:Nat) (A1:AF) (n1:Nat) (c1:Nat) (V:AH) (x:Int) (r:Int) (M:Int)=>[(0,PG g)]) (λj A1 n1 c1 V x r M=>((rc 253 3 g [sl A1 n1 c1, .int .u64 x, .int .u64 r])::(ru 5 A1 n1 c1 V)::R)) (λj A1 n1 c1 V x r M=>(M=(s.N+s.R/total*low)*256^j)/\(r=(s.R/total*size)*256^j)/\(j<=shN (s.R/total*size))/\(V=beL (s.k+j) (M/4294967296))/\(x=M%4294967296)/\(n1=s.k+j)) (λj A1 n1 c1 V x r M=>(4-j)) ?_ ?_
  ·exact⟨0,A,s.k,c,beL s.k (s.N/4294967296),(s.N%4294967296)+((s.R/total)*low),(s.R/total)*size,(s.N+s.R/total*low),⟨(by rw[ww,Bj]),(by rw[ww,Bj]),(qh _),(by first|(rw[UI,qf,show(s.N+s.R/total*low)/4294967296=s.N/4294967296+1 by omega])|(rw[qf,show(s.N+s.R/total*low)/4294967296=s.N/4294967296 by omega])),G,(Z)⟩,KP⟩
  intro j A1 n1 c1 V x r M ⟨hM,hr,hj,hV,hx,dp⟩;have ka:=JG (s.R/total*size);have hrp:1<=r:=by rw[hr];exact KE G
  refine aD<|wq<|wm Z<|wy (aF Z)<|wy (yF 2 2 jk dX Z)<|wy (yL 0 gy Z Z Z)<|wL Z Z<|aA<|bA Z (λfk=> ?_) (λfk=> ?_)
  ·refine aH<|aD<|aI<|aD<|bL mixed<|wD 0 Z (aK Z)<|wD 1 Z (aK Z)<|wD 2 Z (aF Z)<|wD 3 Z (yF 0 0 jk dP Z)<|wD 4 Z (yL 0 ah Z Z Z)<|wD 5 Z (aK Z)<|wD 6 Z (aF Z)<|wD 7 Z (yF 1 1 jk dX Z)<|wD 8 Z (yL 0 gy Z Z Z)<|wD 9 Z (rF (k:=24) (m:=16777216) Z Z Z G Z) ?_;refine wD 10 Z (gU gy dh Z)<|wC 11 Z (bQ .u8 [(x/16777216)%256] ah zs5 Z Z Z) ?_;rintro _ _⟨fd,rfl,rfl⟩;refine⟨.inr hrZ,?_⟩;refine wC 12 Z (aY 2 Z ah zb5 Z Z Z (rdr 0 Z)) ?_;rintro _ _⟨ft,ee,rfl,rfl⟩;refine⟨.inl cA,?_⟩;refine jS (v:=sl ft (n1+1) ee) Z<|wD 13 Z (aF Z)<|wD 14 Z (yF 0 0 jk dP Z)<|qG 15 Z cA (aZ 1 Z Z Z dP Z Z Z Z (ak Z)) ?_;rintro _ _ rfl;refine⟨.inl cA,?_⟩;refine wN<|aJ<|wm Z<|wm Z<|wy (aF Z)<|wy (yF 1 1 jk dX Z)<|wy (yL 1 gy Z Z Z)<|wy (yH (k:=8) (m:=256) Z Z Z G Z)<|wy (RV (m:=4294967296) 32 Z Z Z Z G Z)<|wy (aF Z)<|wy (yF 1 1 jk dX Z)<|bY (aZ 1 Z Z Z dX Z Z Z Z (ak Z)) ?_;rintro _ _ rfl;refine aA<|aJ<|wm Z<|wy (aF Z)<|wy (yF 2 2 jk dX Z)<|wy (yL 1 gy Z Z Z)<|wy (yH (k:=8) (m:=256) Z Z Z G Z)<|wy (aF Z)<|wy (yF 2 2 jk dX Z)<|bY (aZ 1 Z Z Z dX Z Z Z Z (ak Z)) ?_;rintro _ _ rfl;refine aA ?_;exact⟨(j+1),ft,n1+1,ee,V++([(x/16777216)%256]),(x*256)%4294967296,r*256,(M*256),⟨(by rw[hM,um,<-xx]),(by rw[hr,um,<-xx]),(JF G hj (by rw[<-hr];assumption)),(by rw[hV,hx];exact(ZY _ _).symm),G,(by rw[dp];rfl)⟩,G,SA,λ_ h=>h.selR (F:=[_,_,_]) (F':=[_,_]) [1,2] cC Z⟩
  ·refine aS<|wq<|wn Z<|bN (R1:=((rc 253 3 g [sl A1 n1 c1, .int .u64 x, .int .u64 r])::(ru 5 A1 n1 c1 V)::R)) hiZ ?_;refine⟨_,Z,?_⟩;obtain rfl:j=shN (s.R/total*size):=SI G hj (by rw[<-hr];omega);refine⟨A1,c1,Z,?_⟩;rw[hV,hx,hr,hM,dp];rfl
theorem aTq {s:CdS} (hn:n=s.k) (hk:s.k<=1000000):
  CT 135 #[PG g] B w0 ((rc 253 3 g [sl A n c, .int .u64 (s.N%4294967296), .int .u64 s.R])::(ru 5 A n c (beL s.k (s.N/4294967296)))::R) (λv R'=> ∃(A1:AF) (c1:Nat),v=sl A1 (s.k+4) c1/\R'=(ru 5 A1 (s.k+4) c1 (beL (s.k+4) s.N))::(rc 253 3 g [sl A n c, .int .u64 (s.N%4294967296), .int .u64 s.R])::(ru 5 A n c (beL s.k (s.N/4294967296)))::R):=by
 subst hn;have b5:=lL s.k (s.N/4294967296);refine fn1 Tryz.func135 Z Z Z ?_;refine wq<|wn Z<|aD<|wq<|wm Z<|wy (kI underlying181 Z Z)<|aA<|aN Z<|aH<|wq<|wm Z ?_;refine wy (aF Z)<|wy (yF 0 0 jk dP Z)<|wy (yL 0 ah Z Z Z)<|wa (aC aMl Z (Ct.fresh (λw hw=>qD ((rdr 1 Z) w hw) (by rw[lL];exact hk)))) ?_;rintro _ _⟨_,rfl,cr,co,rfl,rfl⟩;refine wn Z<|aD<|wq<|wm Z<|aA<|aI<|oJ 5<|dZ<|wq<|wy (Yl.t (fO Z Z) cC)<|aA<|aD ?_;refine dI Z<|aH<|aD<|aI<|wq<|wm Z<|wn Z<|aJ<|wm Z<|wm Z<|wy (aF Z)<|wy (yF 1 1 jk dX Z)<|wy (yL 1 gy Z Z Z) ?_;refine wm Z<|wy (Yl.is (dK Z Z) Z)<|wy (Yl.is (iW Z Z) Z)<|wy (Yl.is (nG Z Z) Z)<|wy (rF (k:=24) (m:=16777216) Z Z Z G Z)<|wy (gU gy dh Z)<|wa (bQ .u8 [((s.N%4294967296)/16777216)%256] ah zs5 Z Z Z) ?_;rintro _ _⟨ef,rfl,rfl⟩;refine wa (aY 1 Z ah zb5 Z Z Z (rdr 0 Z)) ?_;rintro _ _⟨fz,mj,rfl,rfl⟩;refine bK (v:=sl fz (((beL s.k (s.N/4294967296)).length)+1) mj) Z<|wn Z<|aJ<|wy (Yl.is (dK Z Z) Z)<|wm Z<|aA<|dZ<|wq<|wy (Yl.t (fO Z Z) cC)<|aA<|aD<|dI Z<|aH ?_;refine aD<|aI<|wq<|wm Z<|wn Z<|aJ<|wm Z<|wm Z<|wy (aF Z)<|wy (yF 1 1 jk dX Z)<|wy (yL 2 gy Z Z Z)<|wm Z<|wy (Yl.is (dK Z Z) Z) ?_;refine wy (Yl.is (iW Z Z) Z)<|wy (Yl.is (nG Z Z) Z)<|wy (rF (k:=16) (m:=65536) Z Z Z G Z)<|wy (gU gy dh Z)<|wa (bQ .u8 [((s.N%4294967296)/65536)%256] ah zs5 Z Z Z) ?_;rintro _ _⟨u3,rfl,rfl⟩;refine wa (aY 2 Z ah zb5 Z Z Z (rdr 0 Z)) ?_;rintro _ _⟨en,cj,rfl,rfl⟩;refine bK (v:=sl en ((((beL s.k (s.N/4294967296)).length)+1)+1) cj) Z<|wn Z<|aJ<|wy (Yl.is (dK Z Z) Z)<|wm Z<|aA<|dZ<|wq<|wy (Yl.t (fO Z Z) cC)<|aA<|aD<|dI Z<|aH ?_;refine aD<|aI<|wq<|wm Z<|wn Z<|aJ<|wm Z<|wm Z<|wy (aF Z)<|wy (yF 1 1 jk dX Z)<|wy (yL 3 gy Z Z Z)<|wm Z<|wy (Yl.is (dK Z Z) Z) ?_;refine wy (Yl.is (iW Z Z) Z)<|wy (Yl.is (nG Z Z) Z)<|wy (rF (k:=8) (m:=256) Z Z Z G Z)<|wy (gU gy dh Z)<|wa (bQ .u8 [((s.N%4294967296)/256)%256] ah zs5 Z Z Z) ?_;rintro _ _⟨n5,rfl,rfl⟩;refine wa (aY 3 Z ah zb5 Z Z Z (rdr 0 Z)) ?_;rintro _ _⟨fa,fb,rfl,rfl⟩;refine bK (v:=sl fa (((((beL s.k (s.N/4294967296)).length)+1)+1)+1) fb) Z<|wn Z<|aJ<|wy (Yl.is (dK Z Z) Z)<|wm Z<|aA<|dZ<|wq<|wy (Yl.t (fO Z Z) cC)<|aA<|aD<|dI Z<|aH ?_;refine aD<|aI<|wq<|wm Z<|wn Z<|aJ<|wm Z<|wm Z<|wy (aF Z)<|wy (yF 1 1 jk dX Z)<|wy (yL 4 gy Z Z Z)<|wm Z<|wy (Yl.is (dK Z Z) Z) ?_;refine wy (Yl.is (iW Z Z) Z)<|wy (Yl.is (nG Z Z) Z)<|wy (rF (k:=0) (m:=1) Z Z Z G Z)<|wy (gU gy dh Z)<|wa (bQ .u8 [((s.N%4294967296)/1)%256] ah zs5 Z Z Z) ?_;rintro _ _⟨tj,rfl,rfl⟩;refine wa (aY 4 Z ah zb5 Z Z Z (rdr 0 Z)) ?_;rintro _ _⟨gn,go,rfl,rfl⟩;refine bK (v:=sl gn ((((((beL s.k (s.N/4294967296)).length)+1)+1)+1)+1) go) Z<|wn Z<|aJ<|wy (Yl.is (dK Z Z) Z)<|wm Z<|aA<|dZ<|wq<|wy (Yl.f (fO Z Z) cC)<|aA<|aD<|aN Z<|aS ?_;refine wq<|wm Z<|wn Z<|aX [4,5,6] 7 cC Z ?_;refine⟨_,Z,?_⟩;have e:(beL s.k (s.N/4294967296)).length+1+1+1+1=s.k+4:=G
 rw[e,<-bAr s.k s.N _ rfl];exact⟨_,_,Z,Z⟩
variable {w w0:World} {ia o cls x i:Int} {B g g0 g1 g2 c:Nat} {R:List Row} {A:AF} {C l:AH}
abbrev syb (b:AH):AH:=(cB 0 (bS bD b))++[257]
theorem zA:
  CF 206 #[I ia] w (λv R'=>v=I (mG ia)):=by
 refine fn1 Tryz.func206 Z Z Z ?_;refine wq<|wn Z<|aD<|aI<|wq<|wm Z<|wL Z Z<|wn Z<|bA Z (λbc=> ?_) (λbc=> ?_)
 ·refine wq<|wn Z<|bT ?_;refine⟨_,Z,?_⟩;exact bg (Value.int .i64) (by unfold mG;rw[di cF])
 ·refine wq<|wm Z<|wL Z Z<|wn Z<|bA Z (λda=> ?_) (λda=> ?_)
  ·refine wq<|wn Z<|bT ?_;refine⟨_,Z,?_⟩;exact bg (Value.int .i64) (by unfold mG;rw[df cF,di cF])
  ·refine aH<|wq<|wn Z<|bT ?_;refine⟨_,Z,?_⟩;exact bg (Value.int .i64) (by unfold mG;rw[df cF,df cF])
theorem BJ (ho:o=0\/o=1):
  CF 126 #[I o] w (λv R'=>v=bt):=by
 refine fn1 Tryz.func126 Z Z Z ?_;refine wq<|wn Z<|wq<|wm Z<|wy (gT Z Z)<|wm Z<|dD 3 [(8, .bool (decide ((o=0)\/(o=1))))] [] ?_ ?_
 ·refine bP 5 Z (λbc=> ?_) (λbc=> ?_)
  ·refine aM Z Z Z Z<|aM Z Z Z Z<|wy (aQ Z Z)<|aA ?_;exact KP
  ·refine aB Z Z<|wm Z<|aB Z Z<|wy (gT Z Z)<|wy (aP Z Z)<|aA ?_;exact KP
 refine oG 8 Z (ho)<|wn Z<|bT ?_;refine⟨_,Z,?_⟩;rfl
theorem PX:
  CF 127 #[I o] w (λv R'=> ∃(g g0 g1 g2:Nat) (A0 A1 A2:AF) (c0 c1 c2:Nat),v=PG g/\R'=[(rc 250 5 g [PG g0,PG g1,PG g2,I 0,I o]),(rc 256 2 g0 [sl A0 258 c0,I 258]),(ri 3 A0 258 c0 yS),(rc 256 2 g1 [sl A1 258 c1,I 258]),(ri 3 A1 258 c1 yS),(rc 256 2 g2 [sl A2 258 c2,I 258]),(ri 3 A2 258 c2 yS)]):=by
 refine fn1 Tryz.func127 Z Z Z ?_;refine wq<|wn Z<|wq<|wm Z<|wy (gV (v:= .agg #[.pointer none, .pointer none, .pointer none,I 0,I o]) Z (λw=>cA))<|wa (dC (sz:=5) rfl rfl) ?_;rintro _ _⟨ao,rfl,rfl⟩;refine wn Z<|aD<|wq<|wm Z<|aA<|aI<|oJ 4<|dZ<|wq<|wy (Yl.t (fO Z Z) cC)<|aA<|aD ?_;refine dI Z<|aH<|aD<|aI<|wq<|wm Z<|wn Z<|bL mixed<|wD 0 Z (aK Z)<|wD 1 Z (aK Z)<|wD 3 Z (aF Z)<|wD 4 Z (yF 0 0 si OQ Z)<|wC 2 Z (aC aUc Z (Ct.fresh (λw hw=>vR))) ?_;rintro _ _⟨_,rfl,db,fg,fi,rfl,rfl⟩;refine⟨.inr λ_ h=>h.right (R':=[_,_]),?_⟩;refine wD 5 Z (dE (q:=0) (rdr 2 Z) Cm zR Z Z (ak Z) cC cC Z)<|qG 6 Z cA (aZ 2 Z Z Z zR Z Z Z Z (ak Z)) ?_;rintro _ _ rfl;refine⟨.inl cA,?_⟩;refine wN<|aJ<|wy (Yl.is (dK Z Z) Z)<|wm Z<|aA<|dZ<|wq<|wy (Yl.t (fO Z Z) cC)<|aA<|aD<|dI Z<|aH<|aD<|aI ?_;refine wq<|wm Z<|wn Z<|bL mixed<|wD 0 Z (aK Z)<|wD 1 Z (aK Z)<|wD 3 Z (aF Z)<|wD 4 Z (yF 0 0 si OQ Z)<|wC 2 Z (aC aUc Z (Ct.fresh (λw hw=>vR))) ?_;rintro _ _⟨_,rfl,fd,ft,ee,rfl,rfl⟩;refine⟨.inr λ_ h=>h.right (R':=[_,_]),?_⟩;refine wD 5 Z (dE (q:=1) (rdr 4 Z) Cm zR Z Z (ak Z) cC cC Z)<|qG 6 Z cA (aZ 4 Z Z Z zR Z Z Z Z (ak Z)) ?_;rintro _ _ rfl;refine⟨.inl cA,?_⟩;refine wN<|aJ<|wy (Yl.is (dK Z Z) Z)<|wm Z<|aA<|dZ<|wq<|wy (Yl.t (fO Z Z) cC)<|aA<|aD<|dI Z<|aH<|aD<|aI ?_;refine wq<|wm Z<|wn Z<|bL mixed<|wD 0 Z (aK Z)<|wD 1 Z (aK Z)<|wD 3 Z (aF Z)<|wD 4 Z (yF 0 0 si OQ Z)<|wC 2 Z (aC aUc Z (Ct.fresh (λw hw=>vR))) ?_;rintro _ _⟨_,rfl,zj,gd,ce,rfl,rfl⟩;refine⟨.inr λ_ h=>h.right (R':=[_,_]),?_⟩;refine wD 5 Z (dE (q:=2) (rdr 6 Z) Cm zR Z Z (ak Z) cC cC Z)<|qG 6 Z cA (aZ 6 Z Z Z zR Z Z Z Z (ak Z)) ?_;rintro _ _ rfl;refine⟨.inl cA,?_⟩;refine wN<|aJ<|wy (Yl.is (dK Z Z) Z)<|wm Z<|aA<|dZ<|wq<|wy (Yl.f (fO Z Z) cC)<|aA<|aD<|aN Z<|aS<|wq ?_;refine wm Z<|wn Z<|aX [6,4,5,2,3,0,1] 99 cC Z ?_;exact⟨_,Z,_,_,_,_,_,_,_,_,_,_,Z,Z⟩
theorem nX (hk:cls*o=0):
  CT 130 #[PG g] B w0 ((rc 250 5 g [PG g0,PG g1,PG g2,I cls,I o])::R) (λv R'=>v=PG g0/\R'=(rc 250 5 g [PG g0,PG g1,PG g2,I cls,I o])::R):=by
 refine fn1 Jm Z Z Z ?_;refine wq<|wn Z<|aD<|bL mixed<|wD 0 Z (aK Z)<|wD 1 Z (aK Z)<|wD 2 Z (aF Z)<|wD 3 Z (yF 3 3 si sz3 Z)<|wD 4 Z (yL 0 au Z Z Z)<|wD 5 Z (aK Z)<|wD 6 Z (aF Z)<|wD 7 Z (yF 4 4 si sz3 Z)<|wD 8 Z (yL 0 au Z Z Z) ?_;refine wD 9 Z (Yl.is (iW Z Z) (by rw[hk])) ?_;refine wD 10 Z (aF Z)<|wD 11 Z (yF 0 0 si OQ Z)<|wD 12 Z (dE (q:=0) (rdr 0 Z) Cm zR Z Z (ak Z) cC cC Z)<|wD 13 Z (yL 0 Fb Z Z Z)<|wD 14 Z (bB Z)<|wN<|bN (R1:=((rc 250 5 g [PG g0,PG g1,PG g2,I cls,I o])::R)) hiZ ?_;exact⟨_,Z,Z,Z⟩
theorem nW (hk:cls*o=1):
  CT 130 #[PG g] B w0 ((rc 250 5 g [PG g0,PG g1,PG g2,I cls,I o])::R) (λv R'=>v=PG g1/\R'=(rc 250 5 g [PG g0,PG g1,PG g2,I cls,I o])::R):=by
 refine fn1 Jm Z Z Z ?_;refine wq<|wn Z<|aD<|bL mixed<|wD 0 Z (aK Z)<|wD 1 Z (aK Z)<|wD 2 Z (aF Z)<|wD 3 Z (yF 3 3 si sz3 Z)<|wD 4 Z (yL 0 au Z Z Z)<|wD 5 Z (aK Z)<|wD 6 Z (aF Z)<|wD 7 Z (yF 4 4 si sz3 Z)<|wD 8 Z (yL 0 au Z Z Z) ?_;refine wD 9 Z (Yl.is (iW Z Z) (by rw[hk])) ?_;refine wD 10 Z (aF Z)<|wD 11 Z (yF 0 0 si OQ Z)<|wD 12 Z (dE (q:=1) (rdr 0 Z) Cm zR Z Z (ak Z) cC cC Z)<|wD 13 Z (yL 0 Fb Z Z Z)<|wD 14 Z (bB Z)<|wN<|bN (R1:=((rc 250 5 g [PG g0,PG g1,PG g2,I cls,I o])::R)) hiZ ?_;exact⟨_,Z,Z,Z⟩
theorem nV (hk:cls*o=2):
  CT 130 #[PG g] B w0 ((rc 250 5 g [PG g0,PG g1,PG g2,I cls,I o])::R) (λv R'=>v=PG g2/\R'=(rc 250 5 g [PG g0,PG g1,PG g2,I cls,I o])::R):=by
 refine fn1 Jm Z Z Z ?_;refine wq<|wn Z<|aD<|bL mixed<|wD 0 Z (aK Z)<|wD 1 Z (aK Z)<|wD 2 Z (aF Z)<|wD 3 Z (yF 3 3 si sz3 Z)<|wD 4 Z (yL 0 au Z Z Z)<|wD 5 Z (aK Z)<|wD 6 Z (aF Z)<|wD 7 Z (yF 4 4 si sz3 Z)<|wD 8 Z (yL 0 au Z Z Z) ?_;refine wD 9 Z (Yl.is (iW Z Z) (by rw[hk])) ?_;refine wD 10 Z (aF Z)<|wD 11 Z (yF 0 0 si OQ Z)<|wD 12 Z (dE (q:=2) (rdr 0 Z) Cm zR Z Z (ak Z) cC cC Z)<|wD 13 Z (yL 0 Fb Z Z Z)<|wD 14 Z (bB Z)<|wN<|bN (R1:=((rc 250 5 g [PG g0,PG g1,PG g2,I cls,I o])::R)) hiZ ?_;exact⟨_,Z,Z,Z⟩
theorem JJ (hk:cls*o=0) (hs:0<=ia/\ia<C.length) (dr:mH C):
  CT 134 #[PG g,I ia] B w0 ((rc 250 5 g [PG g0,PG g1,PG g2,I cls,I o])::(rc 256 2 g0 [sl A 258 c,I (aR C)])::(ri 3 A 258 c C)::R) (λv R'=>v= .tuple #[]/\R'=(rc 250 5 g [PG g0,PG g1,PG g2,I (mG ia),I o])::(rc 256 2 g0 [sl A 258 c,I (aR (mI C ia))])::(ri 3 A 258 c (mI C ia))::R):=by
 have ki:=dr.1;refine fn0 Jn Z Z Z ?_;refine wq<|wm Z<|wa (aC nE Z (Ct.at 0 Z (nX cF))) ?_;rintro _ _⟨rfl,rfl⟩;refine wm Z<|wa (aC aUb Z (Ct.pick [1,2,0] 3 cC Z (vQ (by rw[ki]) hs dr))) ?_;rintro _ _⟨rfl,rfl⟩;refine bR (R1:=((rc 250 5 g [PG g0,PG g1,PG g2,I cls,I o])::(rc 256 2 g0 [sl A 258 c,I (aR (mI C ia))])::(ri 3 A 258 c (mI C ia))::R)) (Sub.refl _) (λ_ h=>h.selR (F:=[_,_,_]) (F':=[_,_,_]) [2,0,1] cC Z)<|aA<|aJ<|wm Z<|wm Z<|wa (aC aUa Z (Ct.quiet (λw hw=>zA))) ?_;rintro _ _⟨rfl,rfl⟩;refine wy (aF Z)<|wy (yF 3 3 si sz3 Z)<|bY (aZ 0 Z Z Z sz3 Z Z Z Z (ak Z)) ?_;rintro _ _ rfl;refine aA ?_
 skip
 exact⟨Z,Z⟩
theorem JI (hk:cls*o=1) (hs:0<=ia/\ia<C.length) (dr:mH C):
  CT 134 #[PG g,I ia] B w0 ((rc 250 5 g [PG g0,PG g1,PG g2,I cls,I o])::(rc 256 2 g1 [sl A 258 c,I (aR C)])::(ri 3 A 258 c C)::R) (λv R'=>v= .tuple #[]/\R'=(rc 250 5 g [PG g0,PG g1,PG g2,I (mG ia),I o])::(rc 256 2 g1 [sl A 258 c,I (aR (mI C ia))])::(ri 3 A 258 c (mI C ia))::R):=by
 have ki:=dr.1;refine fn0 Jn Z Z Z ?_;refine wq<|wm Z<|wa (aC nE Z (Ct.at 0 Z (nW cF))) ?_;rintro _ _⟨rfl,rfl⟩;refine wm Z<|wa (aC aUb Z (Ct.pick [1,2,0] 3 cC Z (vQ (by rw[ki]) hs dr))) ?_;rintro _ _⟨rfl,rfl⟩;refine bR (R1:=((rc 250 5 g [PG g0,PG g1,PG g2,I cls,I o])::(rc 256 2 g1 [sl A 258 c,I (aR (mI C ia))])::(ri 3 A 258 c (mI C ia))::R)) (Sub.refl _) (λ_ h=>h.selR (F:=[_,_,_]) (F':=[_,_,_]) [2,0,1] cC Z)<|aA<|aJ<|wm Z<|wm Z<|wa (aC aUa Z (Ct.quiet (λw hw=>zA))) ?_;rintro _ _⟨rfl,rfl⟩;refine wy (aF Z)<|wy (yF 3 3 si sz3 Z)<|bY (aZ 0 Z Z Z sz3 Z Z Z Z (ak Z)) ?_;rintro _ _ rfl;refine aA ?_
 skip
 exact⟨Z,Z⟩
theorem JH (hk:cls*o=2) (hs:0<=ia/\ia<C.length) (dr:mH C):
  CT 134 #[PG g,I ia] B w0 ((rc 250 5 g [PG g0,PG g1,PG g2,I cls,I o])::(rc 256 2 g2 [sl A 258 c,I (aR C)])::(ri 3 A 258 c C)::R) (λv R'=>v= .tuple #[]/\R'=(rc 250 5 g [PG g0,PG g1,PG g2,I (mG ia),I o])::(rc 256 2 g2 [sl A 258 c,I (aR (mI C ia))])::(ri 3 A 258 c (mI C ia))::R):=by
 have ki:=dr.1;refine fn0 Jn Z Z Z ?_;refine wq<|wm Z<|wa (aC nE Z (Ct.at 0 Z (nV cF))) ?_;rintro _ _⟨rfl,rfl⟩;refine wm Z<|wa (aC aUb Z (Ct.pick [1,2,0] 3 cC Z (vQ (by rw[ki]) hs dr))) ?_;rintro _ _⟨rfl,rfl⟩;refine bR (R1:=((rc 250 5 g [PG g0,PG g1,PG g2,I cls,I o])::(rc 256 2 g2 [sl A 258 c,I (aR (mI C ia))])::(ri 3 A 258 c (mI C ia))::R)) (Sub.refl _) (λ_ h=>h.selR (F:=[_,_,_]) (F':=[_,_,_]) [2,0,1] cC Z)<|aA<|aJ<|wm Z<|wm Z<|wa (aC aUa Z (Ct.quiet (λw hw=>zA))) ?_;rintro _ _⟨rfl,rfl⟩;refine wy (aF Z)<|wy (yF 3 3 si sz3 Z)<|bY (aZ 0 Z Z Z sz3 Z Z Z Z (ak Z)) ?_;rintro _ _ rfl;refine aA ?_
 skip
 exact⟨Z,Z⟩
theorem aFi {s:PpS} (h:s.cls*o=0):kU o s x=⟨mI s.c0 x,s.c1,s.c2,mG x,uQ s.cd s.c0 x⟩:=by
 unfold kU aJr vG;rw[di h,di h]
theorem aFh {s:PpS} (h:s.cls*o=1):kU o s x=⟨s.c0,mI s.c1 x,s.c2,mG x,uQ s.cd s.c1 x⟩:=by
 unfold kU aJr vG;rw[df G,di h,df G,di h]
theorem aFg {s:PpS} (h:s.cls*o=2):kU o s x=⟨s.c0,s.c1,mI s.c2 x,mG x,uQ s.cd s.c2 x⟩:=by
 unfold kU aJr vG;rw[df G,df G,df G,df G]
theorem sI {s t:PpS} (h:s=encP o (l.take i.toNat)) (h0:0<=i) (hi:i<l.length) (ht:kU o s (rd l i)=t):t=encP o (l.take (i+1).toNat):=by
 rw[dF h0 hi,aMj,<-h,ht]
theorem aHl {s:PpS} (hl:aEr l) (h:s=encP o (l.take i.toNat)):NZ s/\s.cd.k<=2*l.length:=by
 have:=BU (o:=o) (l:=l.take i.toNat) (λx hx=>hl x (ll hx));rw[<-h,ax] at this;exact⟨this.1,G⟩
theorem ZK {s:PpS} (h:NZ s) (ho:o=0\/o=1):s.cls*o=0\/s.cls*o=1\/s.cls*o=2:=by
 have:=h.2.1;rcases ho with rfl|rfl<;>omega
theorem sM {jx:AF} {pm jz:Nat} {b:AH} (gv:Rd w jx pm jz 1 (ints .u8 b)) (dd:aL b) (ho:o=0\/o=1) (hN:b.length<=100000):
  CF 75 #[sl jx pm jz,I o] w (λv R'=> ∃A c,v= .tuple #[sl A (bX b o).length c,bt]/\R'=[(ru 5 A ((bX b o).length) c (bX b o))]):=by
 obtain rfl:=gv.lenI;refine fn2 Tryz.func75 Z Z Z ?_;have Kz:=gv.max;have It:=sD dd;have ka:=OT b;have Mx:=qI (bS bD b) 0;rw[kQ] at Mx;have xl:(bI b).length=(cB 0 (bS bD b)).length+1:=by unfold bI;rw[ai];rfl
 refine wq<|wg Z<|wn Z<|aD<|wq<|wm Z<|wa (aC bCq Z (Ct.quiet (λw hw=>BJ ho))) ?_;rintro _ _⟨rfl,rfl⟩;refine wy (dH Z)<|wm Z<|aB Z Z<|wm Z<|aB Z Z<|wy (aO ah Z)<|aB Z Z<|wy (Yl.f (dN Z Z))<|wy (aP Z Z)<|aA<|aN Z<|aH<|wq<|wm Z ?_;refine wa (aC bCp Z (Ct.fresh (λw hw=>PX))) ?_;rintro _ _⟨_,rfl,ao,db,ew,ef,fz,fh,ft,ee,na,cj,rfl,rfl⟩;refine wn Z<|wq<|wa (aC bJl Z (Ct.fresh (λw hw=>KV))) ?_;rintro _ _⟨_,rfl,lf,qq,dj,rfl,rfl⟩;refine wn Z<|aD<|wq<|wm Z<|wa (aC bKv Z (Ct.fresh (λw hw=>aKn ((gv.c _) w hw) dd G))) ?_;rintro _ _⟨_,rfl,ge,gg,rfl,rfl⟩;refine wa (aC bJk Z (Ct.fresh (λw hw=>aJd ((rdr 0 Z) w hw) (qP dd) (by rw[kQ];omega)))) ?_;rintro _ _⟨_,rfl,gn,go,rfl,rfl⟩;refine wa (bQ .i64 [257] aa zs3 Z Z Z) ?_;rintro _ _⟨km,rfl,rfl⟩;refine wa (aY 1 Z aa zb3 Z Z Z (rdr 0 Z)) ?_;rintro _ _⟨gi,gl,rfl,rfl⟩;refine bK (v:=sl gi (((cB 0 (bS bD b)).length)+1) gl) Z<|wy (aO aa Z)<|wm Z<|aA<|aI ?_;refine GM (λ(i:Int) (Aw:AF) (cw:Nat) (Sx:PpS)=>[(6,PG ao),(7,PG lf),(28,sl gi (((cB 0 (bS bD b)).length)+1) gl),(29,I ((((cB 0 (bS bD b)).length)+1:Nat):Int)),(30,I i)]) (λi Aw cw Sx=>[(ri 3 (GG km) 1 1 ([257])),(ri 3 gi (((cB 0 (bS bD b)).length)+1) gl (syb b)),(ru 5 ge ((b).length) gg (bS bD b)),(rc 253 3 lf [sl Aw Sx.cd.k cw, .int .u64 (Sx.cd.N%4294967296), .int .u64 Sx.cd.R]),(ru 5 Aw Sx.cd.k cw (beL Sx.cd.k (Sx.cd.N/4294967296))),(rc 250 5 ao [PG db,PG ew,PG ef,I Sx.cls,I o]),(rc 256 2 db [sl fz 258 ee,I (aR Sx.c0)]),(ri 3 fz 258 ee Sx.c0),(rc 256 2 ew [sl fh 258 na,I (aR Sx.c1)]),(ri 3 fh 258 na Sx.c1),(rc 256 2 ef [sl ft 258 cj,I (aR Sx.c2)]),(ri 3 ft 258 cj Sx.c2)]) (λi Aw cw Sx=>(0<=i)/\(i<=(bI b).length)/\(Sx=encP o ((bI b).take i.toNat))) (λi Aw cw Sx=>((bI b).length-i).toNat) ?_ ?_
 ·exact⟨0,qq,dj,pp0,⟨G,G,(Z)⟩,KP⟩
 intro i Aw cw Sx ⟨bb,ij,hS⟩;have dv:=aHl It hS;refine wq<|wL Z Z<|aA<|aD<|bA Z (λbc=> ?_) (λbc=> ?_)
 ·have hx:=It _ (bF (L:=bI b) (k:=i) bb G);refine aH<|aD<|aI<|wq<|wy (aG aa sz3 Z Z (rdr 1 Z))<|wy (aW au Z Z (rdr 1 Z))<|wn Z<|wq ?_;rcases ZK dv.1 ho with hk|hk|hk
  ·refine wm Z<|wa (aC nE Z (Ct.at 5 Z (nX hk))) ?_;rintro _ _⟨rfl,rfl⟩;refine wm Z<|wa (aC QP Z (Ct.sub (R1:=[(rc 256 2 db [sl fz 258 ee,I (aR Sx.c0)]),(ri 3 fz 258 ee Sx.c0),(ri 3 (GG km) 1 1 ([257])),(ri 3 gi (((cB 0 (bS bD b)).length)+1) gl (syb b)),(ru 5 ge ((b).length) gg (bS bD b)),(rc 253 3 lf [sl Aw Sx.cd.k cw, .int .u64 (Sx.cd.N%4294967296), .int .u64 Sx.cd.R]),(ru 5 Aw Sx.cd.k cw (beL Sx.cd.k (Sx.cd.N/4294967296))),(rc 250 5 ao [PG db,PG ew,PG ef,I Sx.cls,I o]),(rc 256 2 ew [sl fh 258 na,I (aR Sx.c1)]),(ri 3 fh 258 na Sx.c1),(rc 256 2 ef [sl ft 258 cj,I (aR Sx.c2)]),(ri 3 ft 258 cj Sx.c2)]) (λ_ h=>h.sel [6,7,0,1,2,3,4,5,8,9,10,11] cC Z) (kR (by rw[dv.1.1.1.1]) (by rw[dv.1.1.1.1];exact hx) dv.1.1.1))) ?_;rintro _ _⟨rfl,rfl⟩;refine wm Z<|wX Z Z<|wX Z Z<|wX Z Z<|wg Z<|wg Z<|wn Z<|wq<|wm Z<|wm Z<|wm Z<|wm Z<|wa (aC nE Z (Ct.at 7 Z (nX hk))) ?_;rintro _ _⟨rfl,rfl⟩;refine wa (aC MC Z (Ct.sub (R1:=[(rc 256 2 db [sl fz 258 ee,I (aR Sx.c0)]),(ri 3 fz 258 ee Sx.c0),(ri 3 (GG km) 1 1 ([257])),(ri 3 gi (((cB 0 (bS bD b)).length)+1) gl (syb b)),(ru 5 ge ((b).length) gg (bS bD b)),(rc 253 3 lf [sl Aw Sx.cd.k cw, .int .u64 (Sx.cd.N%4294967296), .int .u64 Sx.cd.R]),(ru 5 Aw Sx.cd.k cw (beL Sx.cd.k (Sx.cd.N/4294967296))),(rc 250 5 ao [PG db,PG ew,PG ef,I Sx.cls,I o]),(rc 256 2 ew [sl fh 258 na,I (aR Sx.c1)]),(ri 3 fh 258 na Sx.c1),(rc 256 2 ef [sl ft 258 cj,I (aR Sx.c2)]),(ri 3 ft 258 cj Sx.c2)]) hiZ (iX))) ?_;rintro _ _⟨rfl,rfl⟩;refine wa (aC aUh Z (Ct.sub (R1:=[(rc 253 3 lf [sl Aw Sx.cd.k cw, .int .u64 (Sx.cd.N%4294967296), .int .u64 Sx.cd.R]),(ru 5 Aw Sx.cd.k cw (beL Sx.cd.k (Sx.cd.N/4294967296))),(rc 256 2 db [sl fz 258 ee,I (aR Sx.c0)]),(ri 3 fz 258 ee Sx.c0),(ri 3 (GG km) 1 1 ([257])),(ri 3 gi (((cB 0 (bS bD b)).length)+1) gl (syb b)),(ru 5 ge ((b).length) gg (bS bD b)),(rc 250 5 ao [PG db,PG ew,PG ef,I Sx.cls,I o]),(rc 256 2 ew [sl fh 258 na,I (aR Sx.c1)]),(ri 3 fh 258 na Sx.c1),(rc 256 2 ef [sl ft 258 cj,I (aR Sx.c2)]),(ri 3 ft 258 cj Sx.c2)]) (λ_ h=>h.sel [5,6,0,1,2,3,4,7,8,9,10,11] cC Z) (KD Z dv.1.2.2 (mR dv.1.1.1 hx.1 hx.2) G))) ?_;rintro _ _⟨js,jt,rfl,rfl⟩;refine aA<|aJ<|wm Z<|wm Z<|wa (aC QO Z (Ct.sub (R1:=[(rc 250 5 ao [PG db,PG ew,PG ef,I Sx.cls,I o]),(rc 256 2 db [sl fz 258 ee,I (aR Sx.c0)]),(ri 3 fz 258 ee Sx.c0),(rc 253 3 lf [sl js ((iN Sx.cd (aR (Sx.c0.take (rd (syb b) i).toNat)) (rd Sx.c0 (rd (syb b) i)) (aR Sx.c0)).k) jt, .int .u64 ((iN Sx.cd (aR (Sx.c0.take (rd (syb b) i).toNat)) (rd Sx.c0 (rd (syb b) i)) (aR Sx.c0)).N%4294967296), .int .u64 ((iN Sx.cd (aR (Sx.c0.take (rd (syb b) i).toNat)) (rd Sx.c0 (rd (syb b) i)) (aR Sx.c0)).R)]),(ru 5 js ((iN Sx.cd (aR (Sx.c0.take (rd (syb b) i).toNat)) (rd Sx.c0 (rd (syb b) i)) (aR Sx.c0)).k) jt (beL (iN Sx.cd (aR (Sx.c0.take (rd (syb b) i).toNat)) (rd Sx.c0 (rd (syb b) i)) (aR Sx.c0)).k ((iN Sx.cd (aR (Sx.c0.take (rd (syb b) i).toNat)) (rd Sx.c0 (rd (syb b) i)) (aR Sx.c0)).N/4294967296))),(ri 3 (GG km) 1 1 ([257])),(ri 3 gi (((cB 0 (bS bD b)).length)+1) gl (syb b)),(ru 5 ge ((b).length) gg (bS bD b)),(rc 256 2 ew [sl fh 258 na,I (aR Sx.c1)]),(ri 3 fh 258 na Sx.c1),(rc 256 2 ef [sl ft 258 cj,I (aR Sx.c2)]),(ri 3 ft 258 cj Sx.c2)]) (λ_ h=>h.sel [7,2,3,0,1,4,5,6,8,9,10,11] cC Z) (JJ hk (by rw[dv.1.1.1.1];exact hx) dv.1.1.1))) ?_;rintro _ _⟨rfl,rfl⟩;refine aA<|aJ<|wA Z Z<|wm Z<|aA ?_;exact⟨i+1,js,jt,(⟨mI Sx.c0 (rd (bI b) i),Sx.c1,Sx.c2,mG (rd (bI b) i),uQ Sx.cd Sx.c0 (rd (bI b) i)⟩:PpS),⟨G,G,(sI hS bb G (aFi hk))⟩,G,SA,λ_ h=>h.sel [5,6,7,3,4,0,1,2,8,9,10,11] cC Z⟩
  ·refine wm Z<|wa (aC nE Z (Ct.at 5 Z (nW hk))) ?_;rintro _ _⟨rfl,rfl⟩;refine wm Z<|wa (aC QP Z (Ct.sub (R1:=[(rc 256 2 ew [sl fh 258 na,I (aR Sx.c1)]),(ri 3 fh 258 na Sx.c1),(ri 3 (GG km) 1 1 ([257])),(ri 3 gi (((cB 0 (bS bD b)).length)+1) gl (syb b)),(ru 5 ge ((b).length) gg (bS bD b)),(rc 253 3 lf [sl Aw Sx.cd.k cw, .int .u64 (Sx.cd.N%4294967296), .int .u64 Sx.cd.R]),(ru 5 Aw Sx.cd.k cw (beL Sx.cd.k (Sx.cd.N/4294967296))),(rc 250 5 ao [PG db,PG ew,PG ef,I Sx.cls,I o]),(rc 256 2 db [sl fz 258 ee,I (aR Sx.c0)]),(ri 3 fz 258 ee Sx.c0),(rc 256 2 ef [sl ft 258 cj,I (aR Sx.c2)]),(ri 3 ft 258 cj Sx.c2)]) (λ_ h=>h.sel [8,9,0,1,2,3,4,5,6,7,10,11] cC Z) (kR (by rw[dv.1.1.2.1.1]) (by rw[dv.1.1.2.1.1];exact hx) dv.1.1.2.1))) ?_;rintro _ _⟨rfl,rfl⟩;refine wm Z<|wX Z Z<|wX Z Z<|wX Z Z<|wg Z<|wg Z<|wn Z<|wq<|wm Z<|wm Z<|wm Z<|wm Z<|wa (aC nE Z (Ct.at 7 Z (nW hk))) ?_;rintro _ _⟨rfl,rfl⟩;refine wa (aC MC Z (Ct.sub (R1:=[(rc 256 2 ew [sl fh 258 na,I (aR Sx.c1)]),(ri 3 fh 258 na Sx.c1),(ri 3 (GG km) 1 1 ([257])),(ri 3 gi (((cB 0 (bS bD b)).length)+1) gl (syb b)),(ru 5 ge ((b).length) gg (bS bD b)),(rc 253 3 lf [sl Aw Sx.cd.k cw, .int .u64 (Sx.cd.N%4294967296), .int .u64 Sx.cd.R]),(ru 5 Aw Sx.cd.k cw (beL Sx.cd.k (Sx.cd.N/4294967296))),(rc 250 5 ao [PG db,PG ew,PG ef,I Sx.cls,I o]),(rc 256 2 db [sl fz 258 ee,I (aR Sx.c0)]),(ri 3 fz 258 ee Sx.c0),(rc 256 2 ef [sl ft 258 cj,I (aR Sx.c2)]),(ri 3 ft 258 cj Sx.c2)]) hiZ (iX))) ?_;rintro _ _⟨rfl,rfl⟩;refine wa (aC aUh Z (Ct.sub (R1:=[(rc 253 3 lf [sl Aw Sx.cd.k cw, .int .u64 (Sx.cd.N%4294967296), .int .u64 Sx.cd.R]),(ru 5 Aw Sx.cd.k cw (beL Sx.cd.k (Sx.cd.N/4294967296))),(rc 256 2 ew [sl fh 258 na,I (aR Sx.c1)]),(ri 3 fh 258 na Sx.c1),(ri 3 (GG km) 1 1 ([257])),(ri 3 gi (((cB 0 (bS bD b)).length)+1) gl (syb b)),(ru 5 ge ((b).length) gg (bS bD b)),(rc 250 5 ao [PG db,PG ew,PG ef,I Sx.cls,I o]),(rc 256 2 db [sl fz 258 ee,I (aR Sx.c0)]),(ri 3 fz 258 ee Sx.c0),(rc 256 2 ef [sl ft 258 cj,I (aR Sx.c2)]),(ri 3 ft 258 cj Sx.c2)]) (λ_ h=>h.sel [5,6,0,1,2,3,4,7,8,9,10,11] cC Z) (KD Z dv.1.2.2 (mR dv.1.1.2.1 hx.1 hx.2) G))) ?_;rintro _ _⟨pn,pr,rfl,rfl⟩;refine aA<|aJ<|wm Z<|wm Z<|wa (aC QO Z (Ct.sub (R1:=[(rc 250 5 ao [PG db,PG ew,PG ef,I Sx.cls,I o]),(rc 256 2 ew [sl fh 258 na,I (aR Sx.c1)]),(ri 3 fh 258 na Sx.c1),(rc 253 3 lf [sl pn ((iN Sx.cd (aR (Sx.c1.take (rd (syb b) i).toNat)) (rd Sx.c1 (rd (syb b) i)) (aR Sx.c1)).k) pr, .int .u64 ((iN Sx.cd (aR (Sx.c1.take (rd (syb b) i).toNat)) (rd Sx.c1 (rd (syb b) i)) (aR Sx.c1)).N%4294967296), .int .u64 ((iN Sx.cd (aR (Sx.c1.take (rd (syb b) i).toNat)) (rd Sx.c1 (rd (syb b) i)) (aR Sx.c1)).R)]),(ru 5 pn ((iN Sx.cd (aR (Sx.c1.take (rd (syb b) i).toNat)) (rd Sx.c1 (rd (syb b) i)) (aR Sx.c1)).k) pr (beL (iN Sx.cd (aR (Sx.c1.take (rd (syb b) i).toNat)) (rd Sx.c1 (rd (syb b) i)) (aR Sx.c1)).k ((iN Sx.cd (aR (Sx.c1.take (rd (syb b) i).toNat)) (rd Sx.c1 (rd (syb b) i)) (aR Sx.c1)).N/4294967296))),(ri 3 (GG km) 1 1 ([257])),(ri 3 gi (((cB 0 (bS bD b)).length)+1) gl (syb b)),(ru 5 ge ((b).length) gg (bS bD b)),(rc 256 2 db [sl fz 258 ee,I (aR Sx.c0)]),(ri 3 fz 258 ee Sx.c0),(rc 256 2 ef [sl ft 258 cj,I (aR Sx.c2)]),(ri 3 ft 258 cj Sx.c2)]) (λ_ h=>h.sel [7,2,3,0,1,4,5,6,8,9,10,11] cC Z) (JI hk (by rw[dv.1.1.2.1.1];exact hx) dv.1.1.2.1))) ?_;rintro _ _⟨rfl,rfl⟩;refine aA<|aJ<|wA Z Z<|wm Z<|aA ?_;exact⟨i+1,pn,pr,(⟨Sx.c0,mI Sx.c1 (rd (bI b) i),Sx.c2,mG (rd (bI b) i),uQ Sx.cd Sx.c1 (rd (bI b) i)⟩:PpS),⟨G,G,(sI hS bb G (aFh hk))⟩,G,SA,λ_ h=>h.sel [5,6,7,3,4,0,8,9,1,2,10,11] cC Z⟩
  ·refine wm Z<|wa (aC nE Z (Ct.at 5 Z (nV hk))) ?_;rintro _ _⟨rfl,rfl⟩;refine wm Z<|wa (aC QP Z (Ct.sub (R1:=[(rc 256 2 ef [sl ft 258 cj,I (aR Sx.c2)]),(ri 3 ft 258 cj Sx.c2),(ri 3 (GG km) 1 1 ([257])),(ri 3 gi (((cB 0 (bS bD b)).length)+1) gl (syb b)),(ru 5 ge ((b).length) gg (bS bD b)),(rc 253 3 lf [sl Aw Sx.cd.k cw, .int .u64 (Sx.cd.N%4294967296), .int .u64 Sx.cd.R]),(ru 5 Aw Sx.cd.k cw (beL Sx.cd.k (Sx.cd.N/4294967296))),(rc 250 5 ao [PG db,PG ew,PG ef,I Sx.cls,I o]),(rc 256 2 db [sl fz 258 ee,I (aR Sx.c0)]),(ri 3 fz 258 ee Sx.c0),(rc 256 2 ew [sl fh 258 na,I (aR Sx.c1)]),(ri 3 fh 258 na Sx.c1)]) (λ_ h=>h.sel [10,11,0,1,2,3,4,5,6,7,8,9] cC Z) (kR (by rw[dv.1.1.2.2.1]) (by rw[dv.1.1.2.2.1];exact hx) dv.1.1.2.2))) ?_;rintro _ _⟨rfl,rfl⟩;refine wm Z<|wX Z Z<|wX Z Z<|wX Z Z<|wg Z<|wg Z<|wn Z<|wq<|wm Z<|wm Z<|wm Z<|wm Z<|wa (aC nE Z (Ct.at 7 Z (nV hk))) ?_;rintro _ _⟨rfl,rfl⟩;refine wa (aC MC Z (Ct.sub (R1:=[(rc 256 2 ef [sl ft 258 cj,I (aR Sx.c2)]),(ri 3 ft 258 cj Sx.c2),(ri 3 (GG km) 1 1 ([257])),(ri 3 gi (((cB 0 (bS bD b)).length)+1) gl (syb b)),(ru 5 ge ((b).length) gg (bS bD b)),(rc 253 3 lf [sl Aw Sx.cd.k cw, .int .u64 (Sx.cd.N%4294967296), .int .u64 Sx.cd.R]),(ru 5 Aw Sx.cd.k cw (beL Sx.cd.k (Sx.cd.N/4294967296))),(rc 250 5 ao [PG db,PG ew,PG ef,I Sx.cls,I o]),(rc 256 2 db [sl fz 258 ee,I (aR Sx.c0)]),(ri 3 fz 258 ee Sx.c0),(rc 256 2 ew [sl fh 258 na,I (aR Sx.c1)]),(ri 3 fh 258 na Sx.c1)]) hiZ (iX))) ?_;rintro _ _⟨rfl,rfl⟩;refine wa (aC aUh Z (Ct.sub (R1:=[(rc 253 3 lf [sl Aw Sx.cd.k cw, .int .u64 (Sx.cd.N%4294967296), .int .u64 Sx.cd.R]),(ru 5 Aw Sx.cd.k cw (beL Sx.cd.k (Sx.cd.N/4294967296))),(rc 256 2 ef [sl ft 258 cj,I (aR Sx.c2)]),(ri 3 ft 258 cj Sx.c2),(ri 3 (GG km) 1 1 ([257])),(ri 3 gi (((cB 0 (bS bD b)).length)+1) gl (syb b)),(ru 5 ge ((b).length) gg (bS bD b)),(rc 250 5 ao [PG db,PG ew,PG ef,I Sx.cls,I o]),(rc 256 2 db [sl fz 258 ee,I (aR Sx.c0)]),(ri 3 fz 258 ee Sx.c0),(rc 256 2 ew [sl fh 258 na,I (aR Sx.c1)]),(ri 3 fh 258 na Sx.c1)]) (λ_ h=>h.sel [5,6,0,1,2,3,4,7,8,9,10,11] cC Z) (KD Z dv.1.2.2 (mR dv.1.1.2.2 hx.1 hx.2) G))) ?_;rintro _ _⟨rx,sd,rfl,rfl⟩;refine aA<|aJ<|wm Z<|wm Z<|wa (aC QO Z (Ct.sub (R1:=[(rc 250 5 ao [PG db,PG ew,PG ef,I Sx.cls,I o]),(rc 256 2 ef [sl ft 258 cj,I (aR Sx.c2)]),(ri 3 ft 258 cj Sx.c2),(rc 253 3 lf [sl rx ((iN Sx.cd (aR (Sx.c2.take (rd (syb b) i).toNat)) (rd Sx.c2 (rd (syb b) i)) (aR Sx.c2)).k) sd, .int .u64 ((iN Sx.cd (aR (Sx.c2.take (rd (syb b) i).toNat)) (rd Sx.c2 (rd (syb b) i)) (aR Sx.c2)).N%4294967296), .int .u64 ((iN Sx.cd (aR (Sx.c2.take (rd (syb b) i).toNat)) (rd Sx.c2 (rd (syb b) i)) (aR Sx.c2)).R)]),(ru 5 rx ((iN Sx.cd (aR (Sx.c2.take (rd (syb b) i).toNat)) (rd Sx.c2 (rd (syb b) i)) (aR Sx.c2)).k) sd (beL (iN Sx.cd (aR (Sx.c2.take (rd (syb b) i).toNat)) (rd Sx.c2 (rd (syb b) i)) (aR Sx.c2)).k ((iN Sx.cd (aR (Sx.c2.take (rd (syb b) i).toNat)) (rd Sx.c2 (rd (syb b) i)) (aR Sx.c2)).N/4294967296))),(ri 3 (GG km) 1 1 ([257])),(ri 3 gi (((cB 0 (bS bD b)).length)+1) gl (syb b)),(ru 5 ge ((b).length) gg (bS bD b)),(rc 256 2 db [sl fz 258 ee,I (aR Sx.c0)]),(ri 3 fz 258 ee Sx.c0),(rc 256 2 ew [sl fh 258 na,I (aR Sx.c1)]),(ri 3 fh 258 na Sx.c1)]) (λ_ h=>h.sel [7,2,3,0,1,4,5,6,8,9,10,11] cC Z) (JH hk (by rw[dv.1.1.2.2.1];exact hx) dv.1.1.2.2))) ?_;rintro _ _⟨rfl,rfl⟩;refine aA<|aJ<|wA Z Z<|wm Z<|aA ?_;exact⟨i+1,rx,sd,(⟨Sx.c0,Sx.c1,mI Sx.c2 (rd (bI b) i),mG (rd (bI b) i),uQ Sx.cd Sx.c2 (rd (bI b) i)⟩:PpS),⟨G,G,(sI hS bb G (aFg hk))⟩,G,SA,λ_ h=>h.sel [5,6,7,3,4,0,8,9,10,11,1,2] cC Z⟩
 ·refine aS<|wq<|wm Z<|wa (aC bJj Z (Ct.sub (R1:=[(rc 253 3 lf [sl Aw Sx.cd.k cw, .int .u64 (Sx.cd.N%4294967296), .int .u64 Sx.cd.R]),(ru 5 Aw Sx.cd.k cw (beL Sx.cd.k (Sx.cd.N/4294967296))),(ri 3 (GG km) 1 1 ([257])),(ri 3 gi (((cB 0 (bS bD b)).length)+1) gl (syb b)),(ru 5 ge ((b).length) gg (bS bD b)),(rc 250 5 ao [PG db,PG ew,PG ef,I Sx.cls,I o]),(rc 256 2 db [sl fz 258 ee,I (aR Sx.c0)]),(ri 3 fz 258 ee Sx.c0),(rc 256 2 ew [sl fh 258 na,I (aR Sx.c1)]),(ri 3 fh 258 na Sx.c1),(rc 256 2 ef [sl ft 258 cj,I (aR Sx.c2)]),(ri 3 ft 258 cj Sx.c2)]) (λ_ h=>h.sel [3,4,0,1,2,5,6,7,8,9,10,11] cC Z) (aTq Z G))) ?_;rintro _ _⟨tc,th,rfl,rfl⟩;refine wg Z<|wn Z<|bN (R1:=[(ru 5 tc (Sx.cd.k+4) th (beL (Sx.cd.k+4) Sx.cd.N))]) (λ_ h=>h.sel [0] cC Z) ?_;refine⟨_,_,Z,Z,?_⟩;rw[bi G] at hS;have e:(bX b o).length=Sx.cd.k+4:=by unfold bX;rw[lL,<-hS]
  have e2:bX b o=beL (Sx.cd.k+4) Sx.cd.N:=by unfold bX;rw[<-hS]
  rw[e,e2];exact⟨_,_,Z,Z⟩
end Go.Proofs.YtdbebmmhdefgdaaGreat
namespace Go.Pure
open Go Go.Eng
variable {k i b d s r x:Int} {t l:AH} {B:Nat} {w0:World} {R:List Row} {vals:AG} {ls:AD}
def aHw (x:BitVec 32):BitVec 32:=if x &&& 1#32=1#32 then(x>>>1)^^^3988292384#32 else x>>>1
def MG:Nat->BitVec 32->BitVec 32
 |0,x=>x
 |k+1,x=>MG k (aHw x)
def aDp (x:BitVec 32):BitVec 32:=MG 8 x
theorem QU {x:BitVec 32} (h:k<8):MG (8-k).toNat x=MG (8-(k+1)).toNat (aHw x):=by
 have e:(8-k).toNat=(8-(k+1)).toNat+1:=G
 rw[e];rfl
def aDq (x:BitVec 32) (b:Int):BitVec 32:=(x &&& 255#32)^^^BitVec.ofInt 32 b
def bJy (x:BitVec 32) (b:Int):BitVec 32:=(x>>>8)^^^aDp (aDq x b)
def MS (x:BitVec 32) (l:AH):BitVec 32:=l.foldl bJy x
def gP (l:AH):BitVec 32:=MS 4294967295#32 l^^^4294967295#32
def rY:AH:=(List.range 256).map λi=>bv (aDp (BitVec.ofNat 32 i))
theorem wI:rY.length=256:=by unfold rY;rw[az,yo]
theorem aHv {i:Nat} (h:i<256):rY[i]? =some (bv (aDp (BitVec.ofNat 32 i))):=by
 unfold rY;rw[kv,yz h];rfl
theorem PT (i:Nat):BitVec.ofInt 32 (i:Int)=BitVec.ofNat 32 i:=rfl
theorem aVa {x:BitVec 32} (hb:0<=b/\b<256):(aDq x b).toNat=(x.toNat%256)^^^b.toNat:=by
 obtain⟨b,rfl⟩: ∃m:Nat,b=m:=⟨b.toNat,G⟩;unfold aDq;have e1:(255#32).toNat=2^8-1:=rfl;have e2:(BitVec.ofInt 32 (b:Int)).toNat=b:=by rw[PT,BitVec.toNat_ofNat];omega
 rw[BitVec.toNat_xor,BitVec.toNat_and,e1,e2,Eu,bq]
theorem TY {x:BitVec 32} (hb:0<=b/\b<256):0<=bv (aDq x b)/\bv (aDq x b)<256:=by
 have h:(aDq x b).toNat<2^8:=by
  rw[aVa hb];exact Nat.xor_lt_two_pow (by have:=yx x.toNat (show 0<256 by omega);omega) G
 unfold bv;omega
def uR (d s r:Int) (t:AH):AG:=[.int .u32 d, .int .i32 s, .int .u32 0, .int .i32 r]++ints .u32 t
def dJ (T g:Nat) (d s r:Int) (t:AH):Row:=⟨T,260,some ⟨g,0,none⟩,1,1,uR d s r t,false⟩
theorem EI (d s r:Int) (t:AH):(uR d s r t).length=4+t.length:=by
 unfold uR;rw[ai,bO];rfl
theorem aUs {i:Nat} (h:t[i]? =some x):(uR d s r t)[4+i]? =some (.int .u32 x):=by
 unfold uR;rw[jh cD];simp[ints,h]
theorem aMt {i:Nat}:(uR d s r t).set (4+i) (.int .u32 x)=uR d s r (t.set i x):=by
 unfold uR ints;rw[Ep _ _ cD,List.map_set];simp
theorem aMs (ht:t.length=256) (h0:0<=k) (h1:k<256):(rY.take k.toNat++t.drop k.toNat).set k.toNat (bv (aDp (BitVec.ofInt 32 k)))=rY.take (k+1).toNat++t.drop (k+1).toNat:=by
 obtain⟨k,rfl⟩: ∃m:Nat,k=m:=⟨k.toNat,G⟩;have e:((k:Int)+1).toNat=k+1:=G
 rw[e,bq,PT];have hk:k<rY.length:=by rw[wI];omega
 have hl:(rY.take k).length=k:=by rw[ax];omega
 rw[Ep _ _ G,hl,Dy,kz (by omega:k<t.length),Gy,qc,aHv G];simp
theorem bAb {x:BitVec 32} (h:bv x<256):rY[(bv x).toNat]? =some (bv (aDp x)):=by
 have e:(bv x).toNat=x.toNat:=by unfold bv;rw[bq]
 rw[e,aHv (by unfold bv at h;omega),BitVec.ofNat_toNat,BitVec.setWidth_eq]
def wV (B:Nat) (w0:World) (R:List Row) (vals:AG) (ls:AD):Prop:=vals.length=ls.length/\ ∀(j:Nat) (v:Value),vals[j]? =some v-> ∃(A:AF) (c:Nat) (l:AH),v=Value.slice A l.length c/\ls[j]? =some l/\RdC B w0 R A l.length c 1 (ints .u8 l)/\aL l
theorem wV.at (h:wV B w0 R vals ls) (h0:0<=i) (h1:i<vals.length): ∃(A:AF) (c:Nat) (l:AH),vals[i.toNat]? =some (Value.slice A l.length c)/\ls[i.toNat]? =some l/\RdC B w0 R A l.length c 1 (ints .u8 l)/\aL l:=by
 have bo:i.toNat<vals.length:=G
 obtain⟨A,c,l,e,h2,h3,h4⟩:=h.2 i.toNat _ (av bo);exact⟨A,c,l,by rw[av bo,e],h2,h3,h4⟩
theorem wV.one {A:AF} {c n:Nat} (h:RdC B w0 R A n c 1 (ints .u8 l)) (hb:aL l) (hn:n=l.length):wV B w0 R [.slice A n c] [l]:=by
 subst hn
 exact⟨rfl,λj v hv=>by
  cases j with
  |zero=>exact⟨A,c,l,by simpa using hv.symm,rfl,h,hb⟩
  |succ j=>simp at hv⟩
theorem wV.of {w:World} (h:SlW .u8 w vals ls):wV w.heap.size w R vals ls:=
 ⟨h.1,λj v hv=>by
  have bo:j<ls.length:=by rw[<-h.1];exact(gm.1 hv).1
  obtain⟨A,c,h1,h2,h3,_⟩:=h.2 j bo;rw[h1] at hv;have e:ls.getD j []=ls[j]:=by simp[af,av bo]
  rw[e] at hv h2 h3
  exact⟨A,c,ls[j],(jd hv).symm,av bo,h2.c R,byteL_wf h3⟩⟩
def Big (ls:AD):Prop:=ls.length<=1000000/\ ∀(j:Nat) (l:AH),ls[j]? =some l->l.length<=1000000
theorem Big.one (h:l.length<=1000000):Big [l]:=⟨cD,λj q hq=>by
 cases j with
 |zero=>simp at hq;subst hq;exact h
 |succ j=>simp at hq⟩
theorem Big.nil:Big []:=⟨cD,λj q hq=>by simp at hq⟩
theorem Big.snoc {q:AH} (h:Big ls) (h1:ls.length<1000000) (h2:q.length<=1000000):Big (ls++[q]):=⟨cG,λj r hr=>by
 rw[List.getElem?_append] at hr;split at hr
 ·exact h.2 j r hr
 ·rename_i hj
  have hz:j-ls.length=0:=by
   rcases fe (j-ls.length) with e|e
   ·exact e
   ·rw[lm cG] at hr;cases hr
  rw[hz] at hr;simp at hr
  rw[<-hr];exact h2⟩
theorem wV.nil:wV B w0 R [] []:=⟨rfl,λj v hv=>by simp at hv⟩
theorem drop_flat (h0:0<=i) (h:ls[i.toNat]? =some l):(ls.drop i.toNat).flatten=l++(ls.drop (i+1).toNat).flatten:=by
 have bo:i.toNat<ls.length:=(gm.1 h).1;have e:(i+1).toNat=i.toNat+1:=G
 rw[kz bo,(gm.1 h).2,e];rfl
theorem aDy {x:BitVec 32} {m:AH} (h0:0<=i) (h:i<l.length):MS x (l.drop i.toNat++m)=MS (bJy x (rd l i)) (l.drop (i+1).toNat++m):=by
 rw[eP h0 h];rfl
theorem YU {α:Type} {l:List α} (h:(l.length:Int)<=i):l.drop i.toNat=[]:=qm G
end Go.Pure
namespace Go.Proofs.YtdbebmmhdefgdaaGreat
open Go Go.Eng Go.Pure
theorem FC (w:World):(callFunc 306 #[]).run Tryz.prog w= .ok (.value (.tuple #[])) w:=run_call_mark0 Tryz.func306 cA cA cA .disable cA w
theorem JZ (w:World):(callFunc 308 #[]).run Tryz.prog w= .ok (.value (.tuple #[])) w:=run_call_mark0 Tryz.func308 cA cA cA .enable cA w
theorem WP (a:Addr) (w:World):(callFunc 309 #[.pointer (some a)]).run Tryz.prog w= .ok (.value (.tuple #[])) w:=run_call_marked Tryz.func309 cA cA cA .acquire cA a w
theorem DN (a:Addr) (w:World):(callFunc 311 #[.pointer (some a)]).run Tryz.prog w= .ok (.value (.tuple #[])) w:=run_call_marked Tryz.func311 cA cA cA .releaseMerge cA a w
theorem NJ (a:Addr) (x:Value) (u:FrameMode) (w:World) (hc:w.cell? a=some x) (hz:w.frozen? a=false):
  CallsD Tryz.prog 256 #[.pointer (some a), .bool true] u w λe u' w'=>u'=u/\(e= .returned (.tuple #[])/\w'=w.drew.setCell a (.int .u32 1)):=by
 have Yo:w.drew.cell? a=some x:=by go_simp
 have hz':w.drew.frozen? a=false:=by go_simp
 have ff:=run_call_store (P:=Tryz.prog) Tryz.func288 cA cA cA cA (k:= .u32) (y:=1) Yo hz'
 go_enter_d Tryz.func256,Tryz.ntmps256
 go_wp2
 go_region_calls
 all_goals (go_end0;exact⟨rfl,rfl⟩)
set_option maxRecDepth 100000 in
theorem IX (a:Addr) (u:FrameMode) (w:World) (hc:w.cell? a=some (.int .i32 1)) (hz:w.frozen? a=false):
  CallsD Tryz.prog 255 #[.pointer (some a)] u w λe u' w'=>u'=u/\(e= .returned (.tuple #[])/\w'=w.setCell a (.int .i32 0)):=by
 have hd:=FC;have he:=JZ;have hr:=DN;have Ma:=Gw (P:=Tryz.prog) Tryz.func257 cA cA cA .i32 cA (y:= -1) (s:=0) hc hz (by simp[go_sem];rfl);have hcv:=run_convert_to_unsafe (P:=Tryz.prog) (src:=340) (dst:=343) Tryz.underlying340 Tryz.underlying343 cA hc
 go_enter_d Tryz.func255,Tryz.ntmps255
 go_wp2
 go_end0
 go_wp2
 go_end0
 exact⟨rfl,rfl⟩
set_option maxRecDepth 100000 in
theorem aSe (a:Addr) (w:World) (hc:w.cell? a=some (.int .i32 0)) (hz:w.frozen? a=false):
  Calls Tryz.prog 254 #[.pointer (some a)] w λe w'=>e= .returned (.tuple #[])/\w'=w.setCell a (.int .i32 1):=by
 have hd:=FC;have he:=JZ;have ha:=WP;have hcas:=run_call_cas_hit (P:=Tryz.prog) Tryz.func307 cA cA cA .i32 cA (y:=1) hc hz;have Yo:(w.setCell a (.int .i32 1)).cell? a=some (.int .i32 1):=World.cell?_setCell_same w a _ hc;have hcv:=run_convert_to_unsafe (P:=Tryz.prog) (src:=340) (dst:=343) Tryz.underlying340 Tryz.underlying343 cA Yo
 go_enter Tryz.func254,Tryz.ntmps254
 go_wp2
 first|go_end0|(simp only[Exit.inBlock,Exit.then];refine bodyPost_ret (results_none rfl _ _ _) rfl ?_)|refine bodyPost_ret (results_none rfl _ _ _) rfl ?_
 go_wp2
 go_end0
 exact⟨rfl,rfl⟩
section
variable {B:Nat} {w0:World} {R:List Row} {T g:Nat} {r r':Int} {t t':AH}
theorem BV {w:World} {d s:Int} (h:Hp B w0 w (dJ T g d s r t::R)) (j:Nat):w.frozen? ⟨g,j,none⟩=false:=h.openAt 0 j rfl rfl rfl
theorem BX {w:World} {d s:Int} (h:Hp B w0 w (dJ T g d s r t::R)):w.cell? ⟨g,0,none⟩=some (.int .u32 d):=h.cellAt 0 (r:=dJ T g d s r t) (j:=0) rfl rfl rfl
theorem ZC {w:World} {d s:Int} (h:Hp B w0 w (dJ T g d s r t::R)):w.cell? ⟨g,1,none⟩=some (.int .i32 s):=h.cellAt 0 (r:=dJ T g d s r t) (j:=1) rfl rfl rfl
theorem aUq {w:World} {d s:Int} (h:Hp B w0 w (dJ T g d s r t::R)):w.cell? ⟨g,3,none⟩=some (.int .i32 r):=h.cellAt 0 (r:=dJ T g d s r t) (j:=3) rfl rfl rfl
theorem ZB {w:World} {d s:Int} (h:Hp B w0 w (dJ T g d s r t::R)) (x:Int):Hp B w0 (w.setCell ⟨g,0,none⟩ (.int .u32 x)) (dJ T g x s r t::R):=h.set1 0 (r:=dJ T g d s r t) (j:=0) (v:= .int .u32 x) rfl rfl rfl
theorem FO {w:World} {d s:Int} (h:Hp B w0 w (dJ T g d s r t::R)) (x:Int):Hp B w0 (w.setCell ⟨g,1,none⟩ (.int .i32 x)) (dJ T g d x r t::R):=h.set1 0 (r:=dJ T g d s r t) (j:=1) (v:= .int .i32 x) rfl rfl rfl
theorem ZA {w:World} {d s:Int} (h:Hp B w0 w (dJ T g d s r t::R)) (x:Int):Hp B w0 (w.setCell ⟨g,3,none⟩ (.int .i32 x)) (dJ T g d s x t::R):=h.set1 0 (r:=dJ T g d s r t) (j:=3) (v:= .int .i32 x) rfl rfl rfl
theorem aUr {w:World} {R:List Row} (h:Hp B w0 w R):Hp B w0 w.drew R:=h.drawn _ (Ia _)
set_option maxRecDepth 100000 in
theorem aRl {w:World} (hh:Hp B w0 w (dJ T g 0 0 r t::R)) (hm: ∀w,Hp B w0 w (dJ T g 0 1 r t::R)->Calls Tryz.prog 137 #[.pointer (some ⟨g,0,none⟩)] w λe w'=>e= .returned (.tuple #[])/\Hp B w0 w' (dJ T g 0 1 r' t'::R)):
  Calls Tryz.prog 208 #[.pointer (some ⟨g,0,none⟩), .func (.func 137) #[.pointer (some ⟨g,0,none⟩)] #[]] w λe w'=>e= .returned (.tuple #[])/\Hp B w0 w' (dJ T g 1 0 r' t'::R):=by
 have h1:=FO hh 1;have hl:=run_call_load (P:=Tryz.prog) Tryz.func253 cA cA cA .u32 cA (BX h1);have Mo: ∀(x:Bool) (w:World),(Op.unary .not (.bool x)).run Tryz.prog w= .ok (.bool (!x)) w:=λ_ _=>rfl;have k1:=ZC hh;have k2:=BV hh 1
 go_enter_defers Tryz.func208,Tryz.ntmps208
 go_wp2_with (first|(go_at_call 254;refine(aSe ⟨g,1,none⟩ _ (by go_simp) (by go_simp)).mono ?_;rintro e w' ⟨rfl,rfl⟩)|(go_at_call 137;refine(hm _ h1).mono ?_;rintro e w' ⟨rfl,h2⟩)|(go_at_call 207;go_in))
 refine leaves_cons (f:=256) (args:= #[.pointer (some ⟨g,0,none⟩), .bool true]) cD (by simp[go_sem]) ?_;refine(NJ ⟨g,0,none⟩ _ .returning _ (BX h2) (BV h2 0)).mono ?_;rintro e u' Ql ⟨rfl,rfl,rfl⟩;have h3:=ZB (aUr h2) 1;refine leaves_cons (f:=255) (args:= #[.pointer (some ⟨g,1,none⟩)]) (by simp[settle]) (by simp[go_sem]) ?_;refine(IX ⟨g,1,none⟩ _ _ (ZC h3) (BV h3 1)).mono ?_;rintro e u' Ql ⟨rfl,rfl,rfl⟩;have h4:=FO h3 0;simp[Leaves,settle,results,Tryz.results208];exact h4
set_option maxRecDepth 100000 in
theorem aKk (hm: ∀w,Hp B w0 w (dJ T g 0 1 r t::R)->Calls Tryz.prog 137 #[.pointer (some ⟨g,0,none⟩)] w λe w'=>e= .returned (.tuple #[])/\Hp B w0 w' (dJ T g 0 1 r' t'::R)):
  Ct Tryz.prog 136 #[.pointer (some ⟨g,0,none⟩), .func (.func 137) #[.pointer (some ⟨g,0,none⟩)] #[]] B w0 (dJ T g 0 0 r t::R) (λv R'=>v= .tuple #[]/\R'=dJ T g 1 0 r' t'::R):=by
 intro w hh;have hl:=run_call_load (P:=Tryz.prog) Tryz.func253 cA cA cA .u32 cA (BX hh);have Mo: ∀(x:Bool) (w:World),(Op.unary .not (.bool x)).run Tryz.prog w= .ok (.bool (!x)) w:=λ_ _=>rfl
 go_enter Tryz.func136,Tryz.ntmps136
 go_wp2_with (first|(go_at_call 208;refine(aRl hh hm).mono ?_;rintro e w' ⟨rfl,h2⟩)|(go_at_call 207;go_in))
 go_end0
 exact⟨_,_,rfl,h2,rfl,rfl⟩
theorem aRm {fv:Value}:Ct Tryz.prog 136 #[.pointer (some ⟨g,0,none⟩),fv] B w0 (dJ T g 1 0 r t::R) (λv R'=>v= .tuple #[]/\R'=dJ T g 1 0 r t::R):=by
 intro w hh;have hl:=run_call_load (P:=Tryz.prog) Tryz.func253 cA cA cA .u32 cA (BX hh);have Mo: ∀(x:Bool) (w:World),(Op.unary .not (.bool x)).run Tryz.prog w= .ok (.bool (!x)) w:=λ_ _=>rfl
 go_enter Tryz.func136,Tryz.ntmps136
 go_wp2
 go_end0
 exact⟨_,_,rfl,hh,rfl,rfl⟩
theorem aXe (hr:0<=r/\r<1000000): ∀ {d s:Int} {w:World},Hp B w0 w (dJ T g d s r t::R)-> ∃w',(callFunc 257 #[.pointer (some ⟨g,3,none⟩), .int .i32 1]).run Tryz.prog w= .ok (.value (.int .i32 (r+1))) w'/\Hp B w0 w' (dJ T g d s (r+1) t::R):=by
 intro d s w hh;refine⟨_,Gw (P:=Tryz.prog) Tryz.func257 cA cA cA .i32 cA (y:=1) (s:=r+1) (aUq hh) (BV hh 3) ?_,ZA hh (r+1)⟩;have:IntKind.i32.wrap (r+1)=r+1:=by rw[IntKind.wrap_i32];omega
 simp[Op.intArith,this]
end
open Tryz
set_option maxRecDepth 100000
variable {B T g:Nat} {w0:World} {R:List Row} {d s r r':Int} {t:AH}
theorem aVg (w:World):(Instr.build 203 #[]).run Tryz.prog w= .ok (.agg (uR 0 0 0 (List.replicate 256 0)).toArray) w:=cA
theorem mD {w:World}:
  CF 77 #[] w (λv R'=> ∃g,v=PG g/\R'=[dJ 203 g 0 0 0 (List.replicate 256 0)]):=by
 refine fn1 Tryz.func77 Z Z Z ?_;refine wq<|wn Z<|wq<|wy (aOd aVg)<|wa (dC (sz:=260) Z cA) ?_;rintro _ _⟨ao,rfl,rfl⟩;refine wn Z<|aX [0] 99 cC Z ?_;exact⟨_,Z,_,Z,Z⟩
theorem aMu (hr:0<=r/\r<1000000):
  CT 209 #[.pointer (some ⟨g,3,none⟩), .int .i32 1] B w0 (dJ T g d s r t::R) (λv R'=>v= .int .i32 (r+1)/\R'=dJ T g d s (r+1) t::R):=by
 refine fn1 Tryz.func209 Z Z Z ?_;refine wq<|wn Z<|wq<|wm Z<|wy (aF Z)<|wy (yF 0 3 underlying200 bKl Z)<|wm Z<|wa (aIj Z (λw hw=>aXe hr hw)) ?_;rintro _ _⟨rfl,rfl⟩;refine wn Z<|bT ?_;exact⟨_,Z,Z,Z⟩
theorem ZE (hr:0<=r/\r<1000000) (ht:t.length=256):
  CT 137 #[PG g] B w0 (dJ T g d s r t::R) (λv R'=>v= .tuple #[]/\R'=dJ T g d s (r+1) rY::R):=by
 refine fn0 Tryz.func137 Z Z Z ?_;refine wq<|wm Z<|wy (aF Z)<|wy (yF 3 3 Jc bGo Z)<|wa (aC bIt Z (Ct.at 0 Z (aMu G))) ?_;rintro _ _⟨rfl,rfl⟩;refine aA<|wq<|wm Z<|aA<|aI ?_;refine lF (λ(k:Int)=>[(0,PG g),(9,I k)]) (λk=>(dJ T g d s (r+1) (rY.take k.toNat++t.drop k.toNat)::R)) (λk=>(0<=k)/\(k<=256)) (λk=>(256-k).toNat) ?_ ?_
 ·exact⟨0,⟨G,G⟩,KP⟩
 intro k ⟨ld,yr⟩;refine wq<|wL Z Z<|aA<|aD<|bA Z (λbc=> ?_) (λbc=> ?_)
 ·refine aH<|aD<|aI<|wq<|wm Z<|wn Z<|wq<|wm Z<|wy (aFb au wu Z)<|wn Z<|aD ?_;refine wq<|wm Z<|aA<|aI ?_;refine dS (λ(j:Int) (x:BitVec 32)=>[(0,PG g),(2,I k),(3, .int .u32 (bv x)),(9,I k),(14,I j)]) (λj x=>(dJ T g d s (r+1) (rY.take k.toNat++t.drop k.toNat)::R)) (λj x=>(0<=j)/\(j<=8)/\(aDp (BitVec.ofInt 32 k)=MG (8-j).toNat x)) (λj x=>(8-j).toNat) ?_ ?_
  ·exact⟨0,BitVec.ofInt 32 k,⟨G,G,(Z)⟩,KP⟩
  intro j x ⟨b8,hj8,hx⟩;refine wq<|wL Z Z<|aA<|aD<|bA Z (λda=> ?_) (λda=> ?_)
  ·refine aH<|aD<|aI<|wq<|wm Z<|wy (aOe (p:=x) (q:=1#32) Z Z)<|wn Z<|wq<|wm Z<|wy (aNy (k:=1) Z Z Z)<|wn Z ?_;refine wq<|wm Z<|wy (bGh (p:=x &&& (1#32)) (q:=1#32) Z Z)<|aA<|bA Z (λfk=> ?_) (λfk=> ?_)
   ·refine aJ<|wm Z<|wy (RQ (p:=x>>>1) (q:=3988292384#32) Z Z)<|wn Z<|aJ<|wA Z Z<|wm Z<|aA ?_;exact⟨j+1,(x>>>1)^^^(3988292384#32),⟨G,G,(by rw[hx,QU G];unfold aHw;rw[di cF])⟩,G,KP⟩
   ·refine aH<|aJ<|wA Z Z<|wm Z<|aA ?_;exact⟨j+1,x>>>1,⟨G,G,(by rw[hx,QU G];unfold aHw;rw[df cF])⟩,G,KP⟩
  ·refine aS<|aJ<|wm Z<|wm Z<|wm Z<|wy (aF Z)<|wy (yF 4 4 Jc bBq Z)<|wy (OA 0 Z Z underlying201 aPd Z Z (by show _<(uR _ _ _ _).length;rw[EI,ai,ax,bn,wI,ht];omega) G G) ?_;refine bY (aZ 0 Z Z Z aPd Z Z Z Z (by show _<(uR _ _ _ _).length;rw[EI,ai,ax,bn,wI,ht];omega)) ?_;rintro _ _ rfl;refine fA (R1:=(dJ T g d s (r+1) (rY.take (k+1).toNat++t.drop (k+1).toNat)::R)) (by have hj:j=8:=G;subst hj;have hf:=aMs ht ld (show k<256 by omega);rw[hx] at hf;simp only[Gy,dJ,aMt];rw[<-hf];rfl) ?_;refine aA<|aJ<|wA Z Z<|wm Z<|aA ?_;exact⟨k+1,⟨G,G⟩,G,KP⟩
 ·refine aS ?_
  skip
  obtain rfl:k=256:=G
  refine⟨Z,?_⟩;have e:rY.take (256:Int).toNat++t.drop (256:Int).toNat=rY:=by rw[bi (by rw[wI];decide),qm (by rw[ht];decide),ji]
  rw[e]
theorem aYj {g:Nat} (ff:(d=0/\r'=r+1/\t.length=256/\0<=r/\r<1000000)\/(d=1/\r'=r/\t=rY)):
  CT 136 #[PG g, .func (.func 137) #[PG g] #[]] B w0 (dJ T g d 0 r t::R) (λv R'=>v= .tuple #[]/\R'=dJ T g 1 0 r' rY::R):=by
 rcases ff with⟨rfl,rfl,ht,hr⟩|⟨rfl,rfl,rfl⟩
 ·exact aKk (λw hw=>(ZE hr ht w hw).mono (by rintro e w' ⟨v,R',rfl,hh,rfl,rfl⟩;exact⟨rfl,hh⟩))
 ·exact aRm
theorem lZ {A:AF} {m c:Nat} {vals:AG} {ls:AD} (ff:(d=0/\r'=r+1/\t.length=256/\0<=r/\r<1000000)\/(d=1/\r'=r/\t=rY)) (hA:RdC B w0 R A m c 1 vals) (hm:m=vals.length) (yy:wV B w0 R vals ls) (Me:Big ls):
  CT 78 #[PG g,sl A m c] B w0 (dJ T g d 0 r t::R) (λv R'=>v= .int .u32 (bv (gP ls.flatten))/\R'=dJ T g 1 0 r' rY::R):=by
 refine fn1 Tryz.func78 Z Z Z ?_;have sk:=Me.1;have mw:=yy.1;refine wq<|wn Z<|aD<|wq<|wm Z<|wy (kI underlying124 Z Z)<|aA<|aN Z<|aH<|wq<|wm Z ?_;refine wy (aF Z)<|wy (yF 0 0 Jc bGp Z)<|wm Z<|wy (lM Z Z)<|wa (aC bJi Z (Ct.at 0 Z (aYj ff))) ?_;rintro _ _⟨rfl,rfl⟩;refine aA<|wq<|wn Z<|aD<|wq<|wm Z<|wy (aO ay Z)<|wm Z<|aA<|aI ?_;refine dS (λ(k:Int) (x:BitVec 32)=>[(0,PG g),(5, .int .u32 (bv x)),(18,sl A m c),(19,I (m:Int)),(20,I k)]) (λk x=>(dJ T g 1 0 r' rY::R)) (λk x=>(0<=k)/\(k<=m)/\(MS 4294967295#32 ls.flatten=MS x (ls.drop k.toNat).flatten)) (λk x=>(m-k).toNat) ?_ ?_
 ·exact⟨0,4294967295#32,⟨G,G,(Z)⟩,KP⟩
 intro k x ⟨ld,yr,hx⟩;refine wq<|wL Z Z<|aA<|aD<|bA Z (λbc=> ?_) (λbc=> ?_)
 ·refine aH<|aD<|aI<|wq<|wy (aG ay dP Z Z (RdC.tail hA)) ?_;obtain⟨A1,c1,l1,Uw,wb,Pz,pj⟩:=yy.at ld (by have:=yy.1;omega);have b5:=Me.2 _ _ wb;refine wy (pI ah Z Z Z (RdC.tail hA) Uw)<|wn Z<|wq<|wm Z<|wy (aO ah Z)<|wm Z<|aA<|aI ?_;refine dS (λ(j:Int) (y:BitVec 32)=>[(0,PG g),(5, .int .u32 (bv y)),(18,sl A m c),(19,I (m:Int)),(20,I k),(24,sl A1 l1.length c1),(25,I (l1.length:Int)),(26,I j)]) (λj y=>(dJ T g 1 0 r' rY::R)) (λj y=>(0<=j)/\(j<=l1.length)/\(MS 4294967295#32 ls.flatten=MS y (l1.drop j.toNat++(ls.drop (k+1).toNat).flatten))) (λj y=>(l1.length-j).toNat) ?_ ?_
  ·exact⟨0,x,⟨G,G,(by rw[hx,drop_flat ld wb];rfl)⟩,KP⟩
  intro j y ⟨b8,Pn,hy⟩;refine wq<|wL Z Z<|aA<|aD<|bA Z (λda=> ?_) (λda=> ?_)
  ·refine aH<|aD<|aI<|wq<|wy (aG ah sz5 Z Z (RdC.tail Pz))<|wy (aW dh Z Z (RdC.tail Pz))<|wn Z<|aJ<|wm Z<|wy (aNy (k:=8) Z Z Z)<|wm Z<|wm Z<|wy (aOe (p:=y) (q:=255#32) Z Z) ?_;refine wm Z<|wy (aFb dh wu Z)<|wy (RQ Z Z)<|wy (aF Z)<|wy (yF 4 4 Jc bBq Z)<|wy (OA 0 Z Z underlying201 aPd Z Z (by show _<(uR _ _ _ _).length;rw[EI,wI];omega) (by exact(TY (x:=y) (pj.rd j)).1) (by exact(TY (x:=y) (pj.rd j)).2)) ?_;refine wy (bCy 0 Z Z wu Z Z (aUs (bAb (TY (x:=y) (pj.rd j)).2)))<|wy (RQ Z Z)<|wn Z<|aJ<|wA Z Z<|wm Z<|aA ?_;exact⟨j+1,(y>>>8)^^^(aDp (aDq y (rd l1 j))),⟨G,G,(by rw[hy,aDy b8 G];rfl)⟩,G,KP⟩
  ·refine aS<|aJ<|wA Z Z<|wm Z<|aA ?_;exact⟨k+1,y,⟨G,G,(by rw[hy,YU G];rfl)⟩,G,KP⟩
 ·refine aS<|wq<|wm Z<|wy (RQ (p:=x) (q:=4294967295#32) Z Z)<|wn Z<|bT ?_;refine⟨_,Z,?_⟩;refine⟨?_,Z⟩;rw[YU G] at hx;unfold gP;rw[hx];rfl
end Go.Proofs.YtdbebmmhdefgdaaGreat
namespace Go.Eng
open Go Go.RowKit Go.Pure
section
variable {P:Program} {n:Nd} {B:Nat} {w0:World} {L:Env} {R:List Row} {ty:TypeId}
theorem aWa {f:FuncId} {fn:Func} {x:Operand} {ts:Array TypeId} {m:Nat} {ps:Array TypeId} {t e:TypeId} (hf:P.funcs[f]? =some fn) (c5:(fn.name== "runtime.NumGoroutine")=false) (hb:fn.body.isNone=true) (hn:Extern.findNext fn=none) (he:Extern.find fn=some (Extern.BytealgMakeNoZero.makeNoZero ps #[t]))
  (ht:P.underlying t=some (.slice e)) (hx:ev L x=some (.int .i64 (m:Int))) (hm:m<=1000000):
  Ac P n B w0 (.call {callee:= .value (.func f),args:=[x].toArray,argTypes:=ts}) ty L R (λv R'=> ∃g C,m<=C/\v= .slice (some ⟨g,0,none⟩) m C/\R'=⟨e,1,some ⟨g,0,none⟩,0,C,ints .u8 [],false⟩::R):=
 UL (vs:=[.int .i64 (m:Int)]) (by simp[evs,hx]) λw hw=>by
  obtain⟨cs,hr,Fo,mw⟩:=Lib.run_makeNoZero (P:=P) w ps t e ht m G;have nf:=((hw.drawn (w.drawn+1+1) G).newC cs e m Fo (mw (by unfold maxLen;omega))).cut (k:=0) (qh _) cD;refine⟨_,_,_,?_,nf,w.heap.size,cs.size,Fo,rfl,by simp[ints]⟩;rw[Gl hf c5 hb hn he];rw[show [Value.int .i64 (m:Int)].toArray= #[.int .i64 m] from rfl,hr];rfl
theorem RL {x y:Operand} {t t2 e:TypeId} {pp:AF} {g p dl dc c m2 c2:Nat} {A2:AF} {k:IntKind} {D src:AH} (i:Nat) (hi:R[i]? =some ⟨e,1,some ⟨g,0,none⟩,p,c,ints k D,false⟩) (ht:P.underlying t=some (.slice e)) (ff:(P.info? e).map (·.size)=some 1)
  (hx:ev L x=some (.slice pp dl dc)) (hy:ev L y=some (.slice A2 m2 c2)) (Ms:pp=some ⟨g,p,none⟩) (hdl:p+dl<=c) (jp:RdC B w0 R A2 m2 c2 1 (ints k src)):
  Ac P n B w0 (.call {callee:= .builtin .copy,args:= #[x,y],argTypes:= #[t,t2]}) ty L R (λv R'=>v= .int .i64 ((min m2 dl:Nat):Int)/\R'=R.set i ⟨e,1,some ⟨g,0,none⟩,p+min m2 dl,c,ints k (D++src.take (min m2 dl)),false⟩):=by
 intro a w o K Q ho Iv hs hw hk;have fc:=Row.lies_w (hw.own _ (gq hi)) rfl;have e9:=jp w hw;have Rb:m2=src.length:=e9.lenI;have hl:p=D.length:=by have:=fc.1;rw[bO] at this;simp only at this;omega
 rcases fc.2 with⟨hv,_⟩|⟨g',cap,cur,hv,hb,hg,hnc,pt,ie,w6⟩
 ·simp at hv
 simp only[jv,lv,Bb,Ag,zy] at hv;obtain⟨rfl,rfl⟩:=hv;simp only at w6 ie hnc hg hb;rw[qg] at w6 ie;subst Ms;obtain⟨q,hq⟩: ∃q,min m2 dl=q:=⟨_,rfl⟩;rw[hq] at hk;have Rk:Nat.min m2 dl=q:=hq;have ki:(ints k (src.take q)).length=q:=by rw[bO,ax];omega
 rcases fe m2 with hz|dy
 ·have io:q=0:=G
  have oa:=run_copy_none (P:=P) w t t2 o.type e (some ⟨g,p,none⟩) A2 dl dc m2 c2 ht ff (by rw[hz];exact Nat.zero_min _);unfold Oper.wp execOp;simp only[ho,resolve,invoke,builtin,jl,nu,jo,tq,jq,qo,hs.ev hx,hs.ev hy,oa,Oper.upon];refine hk (.int .i64 ((0:Nat):Int)) w R hw ⟨by rw[io],?_⟩;rw[io];simp only[zg,ji,qf]
  exact(by
   apply uj;intro j;rw[wz];split
   ·rename_i e;subst e;rw[di (gm.1 hi).1,hi]
   ·rfl)
 ·obtain ⟨a2,rfl⟩: ∃a2,A2=some a2:=by
   obtain⟨a2,h,_⟩:=e9.at_ 0 _ (av (by rw[bO];omega));exact⟨a2,h⟩
  have oa:=run_copy_row P w t t2 o.type e g p dl dc a2 m2 c2 cur e (ints k (src.take q)) ht ff hg (by rw[ki];exact hq.symm) (λj v hv=>by
   obtain⟨b,h1,h2⟩:=e9.at_ j v (by
    rw[ints,Cg] at hv;rw[pg] at hv;split at hv
    ·exact hv
    ·cases hv)
   obtain rfl:=jd h1
   exact h2) (by rw[ki,ie];omega) (BK k _)
  rw[ki] at oa;unfold Oper.wp execOp;simp only[ho,resolve,invoke,builtin,jl,nu,jo,tq,jq,qo,hs.ev hx,hs.ev hy,oa,Oper.upon];refine hk (.int .i64 (q:Int)) _ _ ?_ ⟨rfl,rfl⟩;refine hw.upd hi (row:=some g) ⟨rfl,rfl,rfl,cD,λj _ hj=>Jy w g j _ (λe=>hj (by simp[e]))⟩ (dn _) (λj hj=>by cases hj;exact⟨_,rfl,rfl⟩) ?_ (λa' nb=> .inl ⟨a',nb,rfl⟩);unfold Row.lies;simp only;refine⟨?_, .inr ⟨g,c,_,rfl,hb,Km w g cur _ e _ hg,G,pt,?_,?_⟩⟩
  ·simp only[bO,ai,ax];omega
  ·simp only[qb,ai,ax,bn,jr,bO];omega
  ·simp only[qg];rw[rP,<-w6]
   have h1:(cur.toList.take p++ints k (src.take q)).length=p+q:=by
    rw[ai,ki,ax,jr];omega
   rw[List.take_append,h1,bi G,Dy,zg,ji]
theorem aNx {x y:Operand} {t e:TypeId} {A:AF} {m c sz:Nat} {k1:IntKind} {vh:Int} (ht:P.underlying t=some (.slice e)) (hi:(P.info? e).map (·.size)=some sz) (hx:ev L x=some (.slice A m c)) (hy:ev L y=some (.int k1 vh)) (h0:0<=vh) (hc:vh<=c):
  Yl P n B w0 (.slice t x none (some y) none) ty L R (.slice A vh.toNat c):=by
 intro a w o ho _ hs hp;obtain⟨i0,bb,hsz0⟩:=iy.1 hi;have sg:P.elem t=e:=by simp[Program.elem,ht]
 have px:P.underlying t=some (.slice (P.elem t)):=by rw[sg];exact ht
 simp only[execOp,ho,jy,Az,hs.ev hx,hs.ev hy,jl,zx w t _ _ _ _ px,run_slice_h w t A m c px k1 vh h0 hc,sg]
 have:(if c=0 then A else Option.map (λx=>x.add 0) A)=A:=by
  split
  ·rfl
  ·exact AV A
 simp[sizeOf,typeInfo,bb,hsz0,sliced,this]
theorem aIo {x y z:Operand} {t e:TypeId} {A:AF} {m c h sz:Nat} {k1 k2:IntKind} {vh vm:Int} (ht:P.underlying t=some (.slice e)) (hi:(P.info? e).map (·.size)=some sz) (hx:ev L x=some (.slice A m c)) (hy:ev L y=some (.int k1 vh)) (hz:ev L z=some (.int k2 vm)) (e1:vh=(h:Int)) (e2:vm=(h:Int)) (hc:h<=c):
  Yl P n B w0 (.slice t x none (some y) (some z)) ty L R (.slice A h h):=by
 subst e1;subst e2;intro a w o ho _ hs hp;obtain⟨i0,bb,hsz0⟩:=iy.1 hi;have sg:P.elem t=e:=by simp[Program.elem,ht]
 have px:P.underlying t=some (.slice (P.elem t)):=by rw[sg];exact ht
 simp only[execOp,ho,jy,Az,hs.ev hx,hs.ev hy,hs.ev hz,jl,zx w t _ _ _ _ px,run_slice_hm w t A m c px k1 k2 (h:Int) (h:Int) G G G,sg]
 have:(if h=0 then A else Option.map (λx=>x.add 0) A)=A:=by
  split
  ·rfl
  ·exact AV A
 simp[sizeOf,typeInfo,bb,hsz0,sliced,this]
theorem Row.lies_ro {w:World} {e sz m c c':Nat} {A:AF} {xs:AG} (h:Row.lies B w ⟨e,sz,A,m,c,xs,false⟩) (hA:A≠none) (hc:m<=c'):Row.lies B w ⟨e,sz,A,m,c',xs,true⟩:=by
 have h1:=Row.lies_w h rfl;unfold Row.lies;simp only;obtain⟨hl,h2⟩:=h1;simp only at hl h2;rcases h2 with⟨hv,_⟩|⟨g,cap,cur,hv,hb,hg,hnc,pt,ie,ht⟩
 ·simp only[jv] at hv;exact absurd hv.1 hA
 ·simp only[jv] at hv;obtain⟨rfl,_,rfl⟩:=hv;exact⟨g,cur,_,rfl,hb,hg,G,hc,hl,ht⟩
theorem Hp.toRo {w:World} {e sz m c c':Nat} {A:AF} {xs:AG} (h:Hp B w0 w (⟨e,sz,A,m,c,xs,false⟩::R)) (hA:A≠none) (hc:m<=c'):Hp B w0 w (⟨e,sz,A,m,c',xs,true⟩::R):=
 ⟨h.below,h.base,λr hr=>by
  rcases iw.1 hr with rfl|hr
  ·exact Row.lies_ro (h.own _ (.head _)) hA hc
  ·exact h.own r (.tail _ hr),by
  obtain⟨h1,h2⟩:=il.1 h.apart
  exact il.2 ⟨λr hr=>h1 r hr,h2⟩,h.late⟩
theorem RdC.capI {A:AF} {m c c':Nat} {k:IntKind} {l:AH} (h:RdC B w0 R A m c 1 (ints k l)) (hc:m<=c'):RdC B w0 R A m c' 1 (ints k l):=λw hw=>
 let q:=h w hw
 ⟨q.len,q.max,hc,q.at_⟩
structure UO (u D:AH) (N:Nat) (p:Int):Prop where
 p0:0<=p
 pN:p<=N
 up:(u.length:Int)<=p
 len:(D.length:Int)=p
 at_: ∀j:Nat,j<p->lt D j=om u j
 dvd:p=N\/(u.length:Int)∣p
theorem bEo {D E:AH} {j:Nat}:lt (D++E) j=if j<D.length then lt D j else lt E (j-D.length):=by
 unfold lt;rw[af];split
 ·rw[jf G,af]
 ·rw[jh G,af]
theorem lt_take {D:AH} {j q:Nat} (h:j<q):lt (D.take q) j=lt D j:=by
 unfold lt;rw[af,qw h,af]
theorem UO.init {u:AH} {N:Nat} (hu:u.length<=N):UO u ([]++u.take (min u.length N)) N ((min u.length N:Nat):Int):=by
 have e:min u.length N=u.length:=G
 rw[e,ig,qa];exact⟨G,G,G,rfl,λj hj=>(oO G).symm, .inr (Int.dvd_refl _)⟩
theorem UO.step {u D:AH} {N:Nat} {p:Int} (h:UO u D N p) (hu:0<u.length) (hp:p<N):
  UO u (D++(D.take (min p N).toNat).take (min (min p N).toNat (N-p.toNat))) N (p+((min (min p N).toNat (N-p.toNat):Nat):Int)):=by
 obtain⟨p0,pN,up,len,at_,dvd⟩:=h;have e:min p (N:Int)=p:=G
 rw[e];obtain⟨q,hq⟩: ∃q,min p.toNat (N-p.toNat)=q:=⟨_,rfl⟩;rw[hq];have hd:(u.length:Int)∣p:=dvd.resolve_left G;refine⟨G,G,G,by rw[ai,ax,ax];omega,λj hj=> ?_,?_⟩
 ·rw [bEo];split
  ·exact at_ j G
  ·rename_i hc;rw[lt_take G,lt_take G,at_ _ G];obtain⟨k,hk⟩:=hd
   have ld:0<=k:=by
    rcases bu k 0 with g|g
    ·have:=Ab (show(0:Int)<=u.length by omega) (show 0<= -k by omega);rw[Int.mul_neg] at this;omega
    ·exact g
   have e3:D.length=u.length*k.toNat:=by
    have:(D.length:Int)=((u.length*k.toNat:Nat):Int):=by rw[len,hk,Av,lc ld]
    exact_mod_cast this
   have:=(rV u).mul k.toNat (j-D.length);rw[<-this,<-e3,qx G]
 ·rcases gu q p.toNat with g|g
  ·left;omega
  ·right;have:(q:Int)=p:=G
   rw[this];exact Int.dvd_add hd hd
theorem UO.done {u D:AH} {cn:Int} {N:Nat} {p:Int} (h:UO u D N p) (hp: ¬p<N) (hN:N=cn.toNat*u.length):D=rep u cn:=by
 have hl:=h.len;have hpN:=h.pN;refine bE (by rw[nK];omega) λj h0 h1=> ?_;have h2:=h.at_ j.toNat G;have h3:=JU u cn.toNat j.toNat G;rw[LC,h2,<-h3];unfold rd rep;rw[bq]
end
end Go.Eng
namespace Go.Proofs
open Go.Shelf
def Tryz.laysRing_ren:Go.Shelf.Ren:=⟨λ|6=>117|15=>192|14=>191|28=>251|29=>252|20=>243|21=>244|22=>245|23=>246|24=>247|25=>248|26=>249|27=>250|46=>281|47=>282|48=>283|49=>284|50=>285|57=>305|n=>n,λ|22=>114|24=>117|25=>171|3=>3|39=>167|0=>0|53=>123|55=>112|4=>4|46=>289|45=>288|50=>97|5=>5|9=>9|66=>316|70=>320|76=>337|77=>338|n=>n,λ|n=>n⟩
theorem Tryz.laysRing:Go.Proofs.SlLaysF0.n6 Tryz.prog Tryz.laysRing_ren:= {
 mixed:=cA
 f6:=⟨Tryz.f117.name,cC,Tryz.func117.trans (bg some cA)⟩
 f14:=⟨Tryz.f191.name,cC,Tryz.func191.trans (bg some cA)⟩
 f15:=Jp.trans (bg some cA)
 f20:=⟨Tryz.f243.name,cC,Tryz.func243.trans (bg some cA)⟩
 f21:=⟨Tryz.f244.name,cC,Tryz.func244.trans (bg some cA)⟩
 f22:=⟨Tryz.f245.name,cC,Tryz.func245.trans (bg some cA)⟩
 f23:=⟨Tryz.f246.name,cC,Tryz.func246.trans (bg some cA)⟩
 f24:=⟨Tryz.f247.name,cC,Tryz.func247.trans (bg some cA)⟩
 f25:=⟨Tryz.f248.name,cC,Tryz.func248.trans (bg some cA)⟩
 f26:=⟨Tryz.f249.name,cC,Tryz.func249.trans (bg some cA)⟩
 f27:=⟨Tryz.f250.name,cC,Tryz.func250.trans (bg some cA)⟩
 f28:=Jr.trans (bg some cA)
 f29:=Js.trans (bg some cA)
 f46:=⟨Tryz.f281.name,cC,Tryz.func281.trans (bg some cA)⟩
 f47:=Jt.trans (bg some cA)
 f48:=Ju.trans (bg some cA)
 f49:=⟨Tryz.f284.name,cC,Tryz.func284.trans (bg some cA)⟩
 f50:=⟨Tryz.f285.name,cC,Tryz.func285.trans (bg some cA)⟩
 f57:=⟨Tryz.f305.name,cC,Tryz.func305.trans (bg some cA)⟩
 t0:=Bt
 a0:=Ij
 z0:=Gs
 v0:=Cq
 t3:=Af
 a3:=Ga
 z3:=Ec
 v3:=Ba
 t4:=Bu
 a4:=Ik
 z4:=Gt
 v4:=Cr
 t5:=Bv
 a5:=Il
 z5:=Gu
 v5:=Cs
 t9:=Bw
 a9:=Im
 z9:=Gv
 v9:=Cu
 t22:=Tryz.underlying114
 a22:=Tryz.isAgg114
 z22:=Tryz.sizeOf114
 v22:=Tryz.zeroValue114
 t25:=Tryz.underlying171
 a25:=Tryz.isAgg171
 z25:=Tryz.sizeOf171
 v25:=Tryz.zeroValue171
 t39:=zh
 a39:=Ch
 z39:=Bl
 v39:=zu
 t45:=Cz
 a45:=Ir
 z45:=Hd
 v45:=Ee
 t46:=Da
 a46:=Iu
 z46:=He
 v46:=Ef
 t50:=Ed
 a50:=Jv
 z50:=Jb
 v50:=Ew
 t53:=Ao
 a53:=Fa
 z53:=Eb
 v53:=Bh
 t55:=Am
 a55:=Ez
 z55:=Ea
 v55:=Bg
 t66:=Db
 a66:=Iw
 z66:=Hf
 v66:=Eg
 t70:=Dc
 a70:=Iy
 z70:=Hg
 v70:=Eh
 t76:=De
 a76:=Iz
 z76:=Hl
 v76:=Ei
 t77:=Dg
 a77:=Ja
 z77:=Hm
 v77:=Ej}
def Tryz.laysRow_ren:Go.Shelf.Ren:=⟨λ|6=>303|15=>192|14=>328|28=>251|29=>252|20=>350|21=>351|22=>352|23=>353|24=>354|25=>355|26=>356|27=>357|46=>363|47=>282|48=>283|49=>364|50=>365|57=>375|n=>n,λ|22=>23|24=>22|25=>149|3=>3|39=>167|0=>0|53=>123|55=>112|4=>4|46=>289|45=>288|50=>97|5=>5|9=>9|66=>316|70=>320|76=>337|77=>338|n=>n,λ|n=>n⟩
theorem Tryz.laysRow:Go.Proofs.SlLaysF.n6 Tryz.prog Tryz.laysRow_ren:= {
 mixed:=cA
 f6:=⟨Tryz.f303.name,cC,Tryz.func303.trans (bg some cA)⟩
 f14:=⟨Tryz.f328.name,cC,Tryz.func328.trans (bg some cA)⟩
 f15:=Jp.trans (bg some cA)
 f20:=⟨Tryz.f350.name,cC,Tryz.func350.trans (bg some cA)⟩
 f21:=⟨Tryz.f351.name,cC,Tryz.func351.trans (bg some cA)⟩
 f22:=⟨Tryz.f352.name,cC,Tryz.func352.trans (bg some cA)⟩
 f23:=⟨Tryz.f353.name,cC,Tryz.func353.trans (bg some cA)⟩
 f24:=⟨Tryz.f354.name,cC,Tryz.func354.trans (bg some cA)⟩
 f25:=⟨Tryz.f355.name,cC,Tryz.func355.trans (bg some cA)⟩
 f26:=⟨Tryz.f356.name,cC,Tryz.func356.trans (bg some cA)⟩
 f27:=⟨Tryz.f357.name,cC,Tryz.func357.trans (bg some cA)⟩
 f28:=Jr.trans (bg some cA)
 f29:=Js.trans (bg some cA)
 f46:=⟨Tryz.f363.name,cC,Tryz.func363.trans (bg some cA)⟩
 f47:=Jt.trans (bg some cA)
 f48:=Ju.trans (bg some cA)
 f49:=⟨Tryz.f364.name,cC,Tryz.func364.trans (bg some cA)⟩
 f50:=⟨Tryz.f365.name,cC,Tryz.func365.trans (bg some cA)⟩
 f57:=⟨Tryz.f375.name,cC,Tryz.func375.trans (bg some cA)⟩
 t0:=Bt
 a0:=Ij
 z0:=Gs
 v0:=Cq
 t3:=Af
 a3:=Ga
 z3:=Ec
 v3:=Ba
 t4:=Bu
 a4:=Ik
 z4:=Gt
 v4:=Cr
 t5:=Bv
 a5:=Il
 z5:=Gu
 v5:=Cs
 t9:=Bw
 a9:=Im
 z9:=Gv
 v9:=Cu
 t22:=Tryz.underlying23
 a22:=Tryz.isAgg23
 z22:=Tryz.sizeOf23
 v22:=Tryz.zeroValue23
 a24:=Tryz.isAgg22
 z24:=Tryz.sizeOf22
 t25:=Tryz.underlying149
 a25:=Tryz.isAgg149
 z25:=Tryz.sizeOf149
 v25:=Tryz.zeroValue149
 t39:=zh
 a39:=Ch
 z39:=Bl
 v39:=zu
 t45:=Cz
 a45:=Ir
 z45:=Hd
 v45:=Ee
 t46:=Da
 a46:=Iu
 z46:=He
 v46:=Ef
 t50:=Ed
 a50:=Jv
 z50:=Jb
 v50:=Ew
 t53:=Ao
 a53:=Fa
 z53:=Eb
 v53:=Bh
 t55:=Am
 a55:=Ez
 z55:=Ea
 v55:=Bg
 t66:=Db
 a66:=Iw
 z66:=Hf
 v66:=Eg
 t70:=Dc
 a70:=Iy
 z70:=Hg
 v70:=Eh
 t76:=De
 a76:=Iz
 z76:=Hl
 v76:=Ei
 t77:=Dg
 a77:=Ja
 z77:=Hm
 v77:=Ej}
end Go.Proofs
