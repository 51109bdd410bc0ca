/- Own work. -/
import Derived.Ground.SlsfProg
import Derived.Shelf.SlSortCmp.WholeK
import Derived.Test.YtdbebmmhdefgdaaGreatProg
import Derived.Tactics
import Derived.Tactics2
import Derived.Defers
import Derived.Laws.Pointers
import Derived.Laws.LoneSync
import Derived.RegionTactic
import Derived.RegionCalls
import Derived.ChangeAlike
import Derived.Lib.MakeNoZero
import Derived.Shelf.SlSortCmp.NoneTotal
import Derived.Test.YtdbebmmhdefgdaaGreatM3
set_option linter.unusedVariables false
set_option linter.unusedSimpArgs false
namespace Go.Proofs.YtdbebmmhdefgdaaGreat
open Go Go.Eng Go.Pure
open Tryz
set_option maxRecDepth 100000
theorem aIq {cs V:List Int} {i:Int} (h0:0<=i) (hi:i<cs.length) (hl:V.length=cs.length) (hV: ∀j:Int,0<=j->j<cs.length->rd V j=if j<i then ps cs (j+1) else ps cs j):
  ∀j:Int,0<=j->j<cs.length->rd (upd V i (rd V i+rd cs i)) j=if j<i+1 then ps cs (j+1) else ps cs j:=by
 intro j j0 j1;have e1:rd (upd V i (rd V i+rd cs i)) j=if j=i then rd V i+rd cs i else rd V j:=fI h0 j0 G
 have e2:=hV i h0 hi;rw[bu G] at e2;rw[e1,e2,hV j j0 j1];by_cases e:j=i
 ·subst e;rw[cu rfl,cu G,lQ h0 hi]
 ·rw [bu e];by_cases h:j<i
  ·rw[cu h,cu G]
  ·rw[bu h,bu G]
theorem aFa {s:List Int} {k:Int} (hk:0<=k) (hs: ∀x∈s,0<=x/\x<k):(dR s k).sum=s.length:=by
 have h:=JG (order:=iota s.length) (keys:=s) (k:=k) hk λi hi=>hs _ (bH (aW.1 hi).1 (aW.1 hi).2);rwa[kZ,bF] at h
theorem aIr {cs V:List Int} (hl:V.length=cs.length) (hV: ∀j:Int,0<=j->j<cs.length->rd V j=if j<cs.length then ps cs (j+1) else ps cs j):V=pK cs:=
 bI (hl.trans (BP cs).symm) λj h1 h2=>by rw[GH h1 G,hV j h1 G,cu G]
theorem aEn {B:Nat} {w0:World} {R:List Row} {sg:Nat} {bp uc yy ju:Option Addr} {bo ud zj jz:Nat} {s:List Int} {k:Int} (js:RdC B w0 R (GG sg) 1 1 4 [sl bp s.length bo,sl uc s.length ud,sl yy k.toNat zj,sl ju s.length jz]) (Ki:RdC B w0 R yy k.toNat zj 1 (ints .i64 (dR s k))) (hk:0<=k/\k<=1048576) (hs: ∀x∈s,0<=x/\x<k) (hN:s.length<=1000000):
  Ct Tryz.prog 317 #[PG sg] B w0 (R) (λv R'=> ∃A c,v=sl A k.toNat c/\R'=(ri 3 A k.toNat c (pK (dR s k)))::R):=by
 refine fn1 Tryz.func317 Z Z Z ?_;have kc:(dR s k).length=k.toNat:=dL _ _;have o6:(dR s k).sum=s.length:=aFa G hs;have Ax:(bZ (dR s k)).length=k.toNat:=by rw[eB,kc]
 refine wq<|wn Z<|wq<|wm Z<|wy (aD Z)<|wy (aB (off:=2) (m:=2) nk Z gW Z Z Z)<|wy (aK (RdC.right js []) aa Z Z Z)<|wa (aF aEs Z (Ct.fresh (λw hw=>vF ((RdC.right Ki []) w hw) (lD _ _) (by rw[o6];omega) (by rw[kc];omega)))) ?_;rintro _ _ ⟨_,rfl,bx,br,rfl,rfl⟩;refine wn Z<|aG<|wq<|wm Z<|wy (aD Z)<|wy (aB (off:=2) (m:=2) nk Z gW Z Z Z)<|wy (aK (RdC.right js [_]) aa Z Z Z)<|wy (aQ aa Z)<|wm Z<|aA<|aI ?_;refine dS (λ(i:Int) (V:List Int)=>[(3,sl bx ((bZ (dR s k)).length) br),(14,sl yy k.toNat zj),(15,I ((k.toNat:Nat):Int)),(16,I i)]) (λi V=>((ri 3 bx ((bZ (dR s k)).length) br V)::R)) (λi V=>(0<=i)/\(i<=(dR s k).length)/\(V.length=(dR s k).length)/\(∀j:Int,0<=j->j<(dR s k).length->rd V j=if j<i then ps (dR s k) (j+1) else ps (dR s k) j)) (λi V=>((dR s k).length-i).toNat) ?_ ?_
 ·exact⟨0,bZ (dR s k),⟨G,G,(by rw[eB]),(λj h1 h2=>by rw[bu G];exact mJ h1 h2)⟩,SA,λ_ h=>h⟩
 intro i V ⟨ar,ia,iu,hV⟩;refine wq<|wL Z Z<|aA<|aG<|bJ Z (λaq=> ?_) (λaq=> ?_)
 ·have sk:=uB (lD s k) i;have wc:=uB (lD s k) (i+1);rw[o6] at sk wc;have hvi:=hV i ar G;rw[bu G] at hvi;have Ll:=lQ (L:=dR s k) ar G;refine aJ<|aG<|aI<|wq<|wm Z<|wy (aH aa sz3 Z Z (RdC.right Ki [_]))<|wy (aX ak Z Z (RdC.right Ki [_]))<|wg Z<|wn Z<|aM<|wm Z<|wm Z<|wy (aH aa sz3 Z Z (rdr 0 Z)) ?_;refine wy (aX ak Z Z (rdr 0 Z))<|wm Z<|wA Z Z<|wy (aH aa sz3 Z Z (rdr 0 Z))<|bX (bG 0 Z sz3 Z Z) ?_;rintro _ _ rfl;refine aA<|aM<|wA Z Z<|wm Z<|aA ?_;exact⟨i+1,upd V i ((rd V i)+(rd (dR s k) i)),⟨G,G,(by rw[aV];exact iu),(aIq ar G iu hV)⟩,G,SA,λ_ h=>h⟩
 ·refine aZ<|wq<|wm Z<|wn Z ?_;have Ue:k.toNat=(dR s k).length:=kc.symm;obtain rfl:V=pK (dR s k):=aIr iu λj h1 h2=>by rw[hV j h1 h2,cu G,cu G]
  refine dF ?_;rw[eB,kc];exact⟨_,Z,_,_,Z,Z⟩
theorem lgC {s D:List Int} {i:Int} (Ds:rd D i= -1\/(0<=rd D i/\rd D i<s.length)):(0<rd D i/\ ¬rdb (smL s) (rd D i-1)=true)↔(0<rd D i/\smB s (rd D i-1)=false):=by
 constructor
 ·rintro ⟨h1,h2⟩;rw[lN G G] at h2;exact⟨h1,by simpa using h2⟩
 ·rintro ⟨h1,h2⟩;rw[lN G G,h2];exact⟨h1,cD⟩
theorem smC {s D:List Int} {i:Int} (Ds:rd D i= -1\/(0<=rd D i/\rd D i<s.length)):(0<rd D i/\rdb (smL s) (rd D i-1)=true)↔(0<rd D i/\smB s (rd D i-1)=true):=by
 constructor
 ·rintro ⟨h1,h2⟩;rw[lN G G] at h2;exact⟨h1,h2⟩
 ·rintro ⟨h1,h2⟩;rw[lN G G,h2];exact⟨h1,Z⟩
section
variable {s l D H:List Int} {k i:Int} (hk:0<=k) (hs: ∀x∈s,0<=x/\x<k) (hp:l.Perm (bM s)) (hn:0<s.length)
include hk hs hp hn
theorem bAq (i0:0<=i) (hi:i<s.length) (hD:D=(itL s k l i.toNat).1) (hH:H=(itL s k l i.toNat).2):(rd D i= -1\/(0<=rd D i/\rd D i<s.length))/\(D.length=s.length/\H.length=k.toNat):=by
 have h:=fLe hk hs hp hn (i:=i.toNat) G hD hH;rwa[ou i0] at h
theorem fLZ (i0:0<=i) (hi:i<s.length) (hD:D=(itL s k l i.toNat).1) (hH:H=(itL s k l i.toNat).2) (hc:0<rd D i/\ ¬rdb (smL s) (rd D i-1)=true):
  rd D i<s.length/\(0<=rd s (rd D i-1)/\rd s (rd D i-1)<k)/\(0<=rd H (rd s (rd D i-1))/\rd H (rd s (rd D i-1))<s.length)/\upd D (rd H (rd s (rd D i-1))) (rd D i-1)=(itL s k l (i+1).toNat).1/\upd H (rd s (rd D i-1)) (rd H (rd s (rd D i-1))+1)=(itL s k l (i+1).toNat).2:=by
 have he:=(bAq hk hs hp hn i0 hi hD hH).1;have h:=fL hk hs hp hn (i:=i.toNat) G hD hH (by rw[ou i0];exact(lgC he).1 hc);rw[ou i0] at h;rwa[show(i+1).toNat=i.toNat+1 by omega]
theorem bGh (i0:0<=i) (hi:i<s.length) (hD:D=(itL s k l i.toNat).1) (hH:H=(itL s k l i.toNat).2) (hc: ¬(0<rd D i/\ ¬rdb (smL s) (rd D i-1)=true)):D=(itL s k l (i+1).toNat).1/\H=(itL s k l (i+1).toNat).2:=by
 have he:=(bAq hk hs hp hn i0 hi hD hH).1;have h:=fLs (i:=i.toNat) hD hH (by rw[ou i0];exact λh=>hc ((lgC he).2 h));rwa[show(i+1).toNat=i.toNat+1 by omega]
theorem bAp (i0:0<=i) (hi:i<s.length) (hD:D=(itS s k l (s.length-1-i).toNat).1) (hH:H=(itS s k l (s.length-1-i).toNat).2):(rd D i= -1\/(0<=rd D i/\rd D i<s.length))/\(D.length=s.length/\H.length=k.toNat):=
 fSe hk hs hp hn (m:=((s.length:Int)-1-i).toNat) G G hD hH
theorem fSZ (i0:0<=i) (hi:i<s.length) (hD:D=(itS s k l (s.length-1-i).toNat).1) (hH:H=(itS s k l (s.length-1-i).toNat).2) (hc:0<rd D i/\rdb (smL s) (rd D i-1)=true):
  rd D i<s.length/\(0<=rd s (rd D i-1)/\rd s (rd D i-1)<k)/\(0<=rd H (rd s (rd D i-1))-1/\rd H (rd s (rd D i-1))-1<s.length)/\upd D (rd H (rd s (rd D i-1))-1) (rd D i-1)=(itS s k l (s.length-1-(i-1)).toNat).1/\upd H (rd s (rd D i-1)) (rd H (rd s (rd D i-1))-1)=(itS s k l (s.length-1-(i-1)).toNat).2:=by
 have he:=(bAp hk hs hp hn i0 hi hD hH).1;have h:=fS hk hs hp hn (m:=((s.length:Int)-1-i).toNat) G G hD hH ((smC he).1 hc);rwa[show((s.length:Int)-1-(i-1)).toNat=((s.length:Int)-1-i).toNat+1 by omega]
theorem bGg (i0:0<=i) (hi:i<s.length) (hD:D=(itS s k l (s.length-1-i).toNat).1) (hH:H=(itS s k l (s.length-1-i).toNat).2) (hc: ¬(0<rd D i/\rdb (smL s) (rd D i-1)=true)):D=(itS s k l (s.length-1-(i-1)).toNat).1/\H=(itS s k l (s.length-1-(i-1)).toNat).2:=by
 have he:=(bAp hk hs hp hn i0 hi hD hH).1;have h:=fSs (m:=((s.length:Int)-1-i).toNat) (i:=i) G hD hH (λh=>hc ((smC he).2 h));rwa[show((s.length:Int)-1-(i-1)).toNat=((s.length:Int)-1-i).toNat+1 by omega]
end
theorem aOs {B:Nat} {w0:World} {R:List Row} {sg:Nat} {bp uc yy ju:Option Addr} {bo ud zj jz:Nat} {s:List Int} {k:Int} {w6:Option Addr} {o9 z6:Nat} {row E:List Int} {j:Int} (js:RdC B w0 R (GG sg) 1 1 4 [sl bp s.length bo,sl uc s.length ud,sl yy k.toNat zj,sl ju s.length jz]) (ba:RdC B w0 R bp s.length bo 1 (ints .i64 s)) (hk:0<=k/\k<=1048576) (hN:s.length<=1000000) (hj:0<=j/\j<s.length) (hc:0<=rd s j/\rd s j<k) (hl:row.length=s.length/\E.length=k.toNat/\o9=k.toNat) (hv:0<=(rd E (rd s j))-1/\(rd E (rd s j))-1<s.length):
  Ct Tryz.prog 318 #[PG sg,sl w6 o9 z6,I j] B w0 ((ri 3 ju s.length jz row)::(ri 3 w6 o9 z6 E)::R) (λv R'=>v= .tuple #[]/\R'=(ri 3 ju s.length jz (upd row ((rd E (rd s j))-1) j))::(ri 3 w6 o9 z6 (upd E (rd s j) ((rd E (rd s j))-1)))::R):=by
 refine fn0 Tryz.func318 Z Z Z ?_;obtain⟨vj,po,wi⟩:=hl;have he:rd (upd E (rd s j) ((rd E (rd s j))-1)) (rd s j)=(rd E (rd s j))-1:=eD hc.1 G;refine wq<|wm Z<|wm Z<|wy (aD Z)<|wy (aB (off:=0) (m:=0) nk Z gW Z Z Z)<|wy (aK (RdC.right js [_,_]) aa Z Z Z)<|wm Z<|wy (aH aa sz3 Z Z (RdC.right ba [_,_]))<|wy (aX ak Z Z (RdC.right ba [_,_]))<|wy (aH aa sz3 Z Z (rdr 1 Z))<|wy (aX ak Z Z (rdr 1 Z))<|wS Z Z<|wy (aH aa sz3 Z Z (rdr 1 Z))<|bX (bG 1 Z sz3 Z Z) ?_;rintro _ _ rfl;refine iW (R1:=((ri 3 ju s.length jz row)::(ri 3 w6 o9 z6 (upd E (rd s j) ((rd E (rd s j))-1)))::R)) Z<|aA<|bT mixed<|wD 0 Z (aN Z)<|wD 1 Z (aD Z)<|wD 2 Z (aB (off:=3) (m:=3) nk Z gW Z Z Z)<|wD 3 Z (aK (RdC.right js [_,_]) aa Z Z Z)<|wD 4 Z (aN Z)<|wD 5 Z (aN Z)<|wD 6 Z (aD Z)<|wD 7 Z (aB (off:=0) (m:=0) nk Z gW Z Z Z)<|wD 8 Z (aK (RdC.right js [_,_]) aa Z Z Z)<|wD 9 Z (aN Z)<|wD 10 Z (aH aa sz3 Z Z (RdC.right ba [_,_]))<|wD 11 Z (aX ak Z Z (RdC.right ba [_,_])) ?_;refine wD 12 Z (aH aa sz3 Z Z (rdr 1 Z))<|wD 13 Z (aX ak Z Z (rdr 1 Z))<|wD 14 Z (aN Z)<|wD 15 Z (aH aa sz3 Z Z (rdr 0 Z))<|pQ 16 Z cA (bG 0 Z sz3 Z Z) ?_;rintro _ _ rfl;refine⟨.inl cA,?_⟩;refine xQ (R1:=((ri 3 ju s.length jz (upd row (rd (upd E (rd s j) ((rd E (rd s j))-1)) (rd s j)) j))::(ri 3 w6 o9 z6 (upd E (rd s j) ((rd E (rd s j))-1)))::R)) Z<|wN ?_;exact⟨Z,by rw[he]⟩
theorem aEa {B:Nat} {w0:World} {R:List Row} {sg:Nat} {bp uc yy ju:Option Addr} {bo ud zj jz:Nat} {s:List Int} {k:Int} {w6:Option Addr} {o9 z6:Nat} {row E:List Int} {j:Int} (js:RdC B w0 R (GG sg) 1 1 4 [sl bp s.length bo,sl uc s.length ud,sl yy k.toNat zj,sl ju s.length jz]) (ba:RdC B w0 R bp s.length bo 1 (ints .i64 s)) (hk:0<=k/\k<=1048576) (hN:s.length<=1000000) (hj:0<=j/\j<s.length) (hc:0<=rd s j/\rd s j<k) (hl:row.length=s.length/\E.length=k.toNat/\o9=k.toNat) (hv:0<=rd E (rd s j)/\rd E (rd s j)<s.length):
  Ct Tryz.prog 347 #[PG sg,sl w6 o9 z6,I j] B w0 ((ri 3 ju s.length jz row)::(ri 3 w6 o9 z6 E)::R) (λv R'=>v= .tuple #[]/\R'=(ri 3 ju s.length jz (upd row (rd E (rd s j)) j))::(ri 3 w6 o9 z6 (upd E (rd s j) ((rd E (rd s j))+1)))::R):=by
 refine fn0 Tryz.func347 Z Z Z ?_;obtain⟨vj,po,wi⟩:=hl;refine aG<|bT mixed<|wD 0 Z (aN Z)<|wD 1 Z (aD Z)<|wD 2 Z (aB (off:=3) (m:=3) nk Z gW Z Z Z)<|wD 3 Z (aK (RdC.right js [_,_]) aa Z Z Z)<|wD 4 Z (aN Z)<|wD 5 Z (aN Z)<|wD 6 Z (aD Z)<|wD 7 Z (aB (off:=0) (m:=0) nk Z gW Z Z Z)<|wD 8 Z (aK (RdC.right js [_,_]) aa Z Z Z)<|wD 9 Z (aN Z)<|wD 10 Z (aH aa sz3 Z Z (RdC.right ba [_,_]))<|wD 11 Z (aX ak Z Z (RdC.right ba [_,_]))<|wD 12 Z (aH aa sz3 Z Z (rdr 1 Z)) ?_;refine wD 13 Z (aX ak Z Z (rdr 1 Z))<|wD 14 Z (aN Z)<|wD 15 Z (aH aa sz3 Z Z (rdr 0 Z))<|pQ 16 Z cA (bG 0 Z sz3 Z Z) ?_;rintro _ _ rfl;refine⟨.inl cA,?_⟩;refine wN<|aM<|wm Z<|wm Z<|wy (aD Z)<|wy (aB (off:=0) (m:=0) nk Z gW Z Z Z)<|wy (aK (RdC.right js [_,_]) aa Z Z Z)<|wm Z<|wy (aH aa sz3 Z Z (RdC.right ba [_,_]))<|wy (aX ak Z Z (RdC.right ba [_,_]))<|wy (aH aa sz3 Z Z (rdr 1 Z))<|wy (aX ak Z Z (rdr 1 Z))<|wA Z Z<|wy (aH aa sz3 Z Z (rdr 1 Z))<|bX (bG 1 Z sz3 Z Z) ?_;rintro _ _ rfl;refine aA ?_;exact⟨Z,Z⟩
theorem aOt {B:Nat} {w0:World} {R:List Row} {sg:Nat} {bp uc yy ju:Option Addr} {bo ud zj jz:Nat} {s l:List Int} {k:Int} {row:List Int} (js:RdC B w0 R (GG sg) 1 1 4 [sl bp s.length bo,sl uc s.length ud,sl yy k.toNat zj,sl ju s.length jz]) (ba:RdC B w0 R bp s.length bo 1 (ints .i64 s)) (xf:RdC B w0 R uc s.length ud 1 (bools (smL s))) (Ki:RdC B w0 R yy k.toNat zj 1 (ints .i64 (dR s k))) (hk:0<=k/\k<=1048576) (hs: ∀x∈s,0<=x/\x<k) (hN:s.length<=1000000) (hp:l.Perm (bM s)) (hn:0<s.length) (dv:row=(itF s k l).1):
  Ct Tryz.prog 319 #[PG sg] B w0 ((ri 3 ju s.length jz row)::R) (λv R'=>v= .tuple #[]/\R'=(ri 3 ju s.length jz ((itL s k l s.length).1))::R):=by
 refine fn0 Tryz.func319 Z Z Z ?_;have kc:(dR s k).length=k.toNat:=dL _ _;have o6:(dR s k).sum=s.length:=aFa hk.1 hs;have Ax:(bZ (dR s k)).length=k.toNat:=by rw[eB,kc]
 obtain⟨f1,f2,f3,f4,f5,f6⟩:=fL0 hk.1 hs hp hn dv (rfl:bZ (dR s k)=_);refine wq<|wm Z<|wy (aD Z)<|wy (aB (off:=2) (m:=2) nk Z gW Z Z Z)<|wy (aK (RdC.right js [_]) aa Z Z Z)<|wa (aF aEs Z (Ct.fresh (λw hw=>vF ((RdC.right Ki [_]) w hw) (lD _ _) (by rw[o6];omega) (by rw[kc];omega)))) ?_;rintro _ _ ⟨_,rfl,bx,br,rfl,rfl⟩;refine wn Z<|wq<|wm Z<|wm Z<|wm Z<|wy (aD Z)<|wy (aB (off:=0) (m:=0) nk Z gW Z Z Z)<|wy (aK (RdC.right js [_,_]) aa Z Z Z)<|wy (aQ aa Z)<|wS Z Z<|dH (R1:=((ri 3 ju s.length jz row)::(ri 3 bx ((bZ (dR s k)).length) br (bZ (dR s k)))::R)) (Sub.refl _) (λ_ h=>h.selR (F:=[_,_]) (F':=[_,_]) [1,0] cC Z)<|wa (aF aXn Z (aEa (row:=row) (E:=(bZ (dR s k))) (j:=(((s.length:Nat):Int)-1)) (RdC.right js []) (RdC.right ba []) hk hN ⟨G,G⟩ f1 ⟨f3.1,f3.2,by rw[eB,kc]⟩ f2)) ?_;rintro _ _ ⟨rfl,rfl⟩;refine aA<|wq<|wm Z<|wy (aD Z)<|wy (aB (off:=3) (m:=3) nk Z gW Z Z Z)<|wy (aK (RdC.right js [_,_]) aa Z Z Z)<|wy (aQ aa Z)<|wm Z<|aA<|aI ?_;refine fU (λ(i:Int) (D:List Int) (H:List Int)=>[(0,PG sg),(2,sl bx ((bZ (dR s k)).length) br),(23,I ((s.length:Nat):Int)),(24,I i)]) (λi D H=>((ri 3 ju s.length jz D)::(ri 3 bx ((bZ (dR s k)).length) br H)::R)) (λi D H=>(0<=i)/\(i<=s.length)/\(D=(itL s k l i.toNat).1)/\(H=(itL s k l i.toNat).2)) (λi D H=>(s.length-i).toNat) ?_ ?_
 ·exact⟨0,upd row (rd (bZ (dR s k)) (rd s (((s.length:Nat):Int)-1))) (((s.length:Nat):Int)-1),upd (bZ (dR s k)) (rd s (((s.length:Nat):Int)-1)) ((rd (bZ (dR s k)) (rd s (((s.length:Nat):Int)-1)))+1),⟨G,G,(f4),(f5)⟩,SA,λ_ h=>h⟩
 intro i D H ⟨ar,ia,hD,hH⟩;refine wq<|wL Z Z<|aA<|aG<|bJ Z (λaq=> ?_) (λaq=> ?_)
 ·have hf:=bAq hk.1 hs hp hn ar G hD hH;have hf1:=hf.1;refine aJ<|aG<|aI<|wq<|wm Z<|wn Z<|wq<|wm Z<|wy (aD Z)<|wy (aB (off:=3) (m:=3) nk Z gW Z Z Z)<|wy (aK (RdC.right js [_,_]) aa Z Z Z)<|wm Z ?_;refine wy (aH aa sz3 Z Z (rdr 0 Z))<|wy (aX ak Z Z (rdr 0 Z))<|wn Z<|wq<|wm Z<|wy (dV Z Z)<|wm Z<|dQ 10 [(0,PG sg),(2,sl bx ((bZ (dR s k)).length) br),(4,I (rd D i)),(23,I ((s.length:Nat):Int)),(24,I i),(46, .bool (decide ((0<(rd D i))/\(¬(rdb (smL s) ((rd D i)-1)=true)))))] ((ri 3 ju s.length jz D)::(ri 3 bx ((bZ (dR s k)).length) br H)::R) ?_ ?_
  ·refine cK 36 Z (λcr=> ?_) (λcr=> ?_)
   ·refine aC Z Z<|wm Z<|aC Z Z<|wy (aD Z)<|aC Z Z<|wy (aB (off:=1) (m:=1) nk Z aLq Z Z Z)<|aC Z Z<|wy (aK (RdC.right js [_,_]) og Z Z Z)<|aC Z Z<|wm Z<|aC Z Z<|wS Z Z<|aC Z Z<|wy (aH og sz4 Z Z (RdC.right xf [_,_]))<|aC Z Z ?_;refine wy (CF Ar Z Z (RdC.right xf [_,_]))<|aC Z Z<|wy (ET Z)<|wy (aY Z Z)<|aA ?_;exact⟨SA,λ_ h=>h⟩
   ·refine aP Z Z Z Z<|aP Z Z Z Z<|aP Z Z Z Z<|aP Z Z Z Z<|aP Z Z Z Z<|aP Z Z Z Z<|aP Z Z Z Z<|aP Z Z Z Z<|aP Z Z Z Z<|wy (aR Z Z)<|aA ?_;exact⟨SA,λ_ h=>h⟩
  refine aA<|bJ Z (λfd=> ?_) (λfd=> ?_)
  ·obtain ⟨g1,g2,g3,g4,g5⟩:=fLZ hk.1 hs hp hn ar G hD hH fd;refine aM<|wm Z<|wm Z<|wm Z<|wS Z Z<|wa (aF aXn Z (aEa (row:=D) (E:=H) (j:=((rd D i)-1)) (RdC.right js []) (RdC.right ba []) hk hN ⟨G,G⟩ g2 ⟨hf.2.1,hf.2.2,by rw[eB,kc]⟩ g3)) ?_;rintro _ _ ⟨rfl,rfl⟩;refine aA<|aM<|wA Z Z<|wm Z<|aA ?_;exact⟨i+1,upd D (rd H (rd s ((rd D i)-1))) ((rd D i)-1),upd H (rd s ((rd D i)-1)) ((rd H (rd s ((rd D i)-1)))+1),⟨G,G,(g4),(g5)⟩,G,SA,λ_ h=>h⟩
  ·have g4:=bGh hk.1 hs hp hn ar G hD hH fd;refine aJ<|aM<|wA Z Z<|wm Z<|aA ?_;exact⟨i+1,D,H,⟨G,G,(g4.1),(g4.2)⟩,G,SA,λ_ h=>h⟩
 ·refine aCm (R1:=((ri 3 ju s.length jz D)::R)) (Sub.refl _) (λ_ h=>h.selR (F:=[_,_]) (F':=[_]) [0] cC Z) ?_;have Mm:i.toNat=s.length:=G
  rw[Mm] at hD;subst hD;refine aZ ?_;exact⟨Z,Z⟩
theorem bFq {s D:List Int} {q:Int} (Ds:rd D q= -1\/(0<=rd D q/\rd D q<s.length)):(0<=rd D q/\rdb (smL s) (rd D q)=true)↔(0<=rd D q/\smB s (rd D q)=true):=by
 constructor<;>rintro⟨h1,h2⟩<;>refine⟨h1,?_⟩
 ·rwa[lN h1 G] at h2
 ·rwa[lN h1 G]
theorem aWh {s l D:List Int} {k q:Int} (hk:0<=k) (hs: ∀x∈s,0<=x/\x<k) (hp:l.Perm (bM s)) (hn:0<s.length) (q0:0<=q) (hq:q<s.length) (hD:D=pO s (itL s k l s.length).1 q):rd D q= -1\/(0<=rd D q/\rd D q<s.length):=by
 rw[hD,PI q0 (ky _) q0 (by rw[EQ hk hs hp hn];omega)];exact aWg hk hs hp hn q0 hq
theorem aRf {s l D:List Int} {k q:Int} (hk:0<=k) (hs: ∀x∈s,0<=x/\x<k) (hp:l.Perm (bM s)) (hn:0<s.length) (hq:(s.length:Int)<=q) (hD:D=pO s (itL s k l s.length).1 q):D=(itS s k l 0).1:=by
 rw[hD,aRg (by rw[EQ hk hs hp hn];exact hq)];rfl
theorem aGg {B:Nat} {w0:World} {R:List Row} {sg:Nat} {bp uc yy ju:Option Addr} {bo ud zj jz:Nat} {s l:List Int} {k:Int} (js:RdC B w0 R (GG sg) 1 1 4 [sl bp s.length bo,sl uc s.length ud,sl yy k.toNat zj,sl ju s.length jz]) (ba:RdC B w0 R bp s.length bo 1 (ints .i64 s)) (xf:RdC B w0 R uc s.length ud 1 (bools (smL s))) (Ki:RdC B w0 R yy k.toNat zj 1 (ints .i64 (dR s k))) (hk:0<=k/\k<=1048576) (hs: ∀x∈s,0<=x/\x<k) (hN:s.length<=1000000) (hp:l.Perm (bM s)) (hn:0<s.length):
  Ct Tryz.prog 320 #[PG sg] B w0 ((ri 3 ju s.length jz ((itL s k l s.length).1))::R) (λv R'=>v= .tuple #[]/\R'=(ri 3 ju s.length jz (pJ s k l))::R):=by
 refine fn0 Tryz.func320 Z Z Z ?_;have d7:=EQ hk.1 hs hp hn;refine aG<|wq<|wm Z<|wy (aD Z)<|wy (aB (off:=3) (m:=3) nk Z gW Z Z Z)<|wy (aK (RdC.right js [_]) aa Z Z Z)<|wy (aQ aa Z)<|wm Z<|aA<|aI ?_;refine dS (λ(q:Int) (D:List Int)=>[(0,PG sg),(10,sl ju s.length jz),(11,I ((s.length:Nat):Int)),(12,I q)]) (λq D=>((ri 3 ju s.length jz D)::R)) (λq D=>(0<=q)/\(q<=s.length)/\(D=pO s (itL s k l s.length).1 q)) (λq D=>(s.length-q).toNat) ?_ ?_
 ·exact⟨0,(itL s k l s.length).1,⟨G,G,(aJq.symm)⟩,SA,λ_ h=>h⟩
 intro q D ⟨gv,f9,hD⟩;refine wq<|wL Z Z<|aA<|aG<|bJ Z (λaq=> ?_) (λaq=> ?_)
 ·have hf1:=aWh hk.1 hs hp hn gv G hD;have hDl:D.length=s.length:=by rw[hD,WS,EQ hk.1 hs hp hn]
  refine aJ<|aG<|aI<|wq<|wm Z<|wy (aH aa sz3 Z Z (rdr 0 Z))<|wy (aX ak Z Z (rdr 0 Z))<|wg Z<|wn Z<|wq<|wm Z<|wy (jF Z Z) ?_;refine wm Z<|dQ 8 [(0,PG sg),(2,I q),(10,sl ju s.length jz),(11,I ((s.length:Nat):Int)),(12,I q),(27, .bool (decide ((0<=(rd D q))/\(rdb (smL s) (rd D q)=true))))] ((ri 3 ju s.length jz D)::R) ?_ ?_
  ·refine cK 19 Z (λcr=> ?_) (λcr=> ?_)
   ·refine aC Z Z<|wm Z<|aC Z Z<|wy (aD Z)<|aC Z Z<|wy (aB (off:=1) (m:=1) nk Z aLq Z Z Z)<|aC Z Z<|wy (aK (RdC.right js [_]) og Z Z Z)<|aC Z Z<|wm Z<|aC Z Z<|wy (aH og sz4 Z Z (RdC.right xf [_]))<|aC Z Z<|wy (CF Ar Z Z (RdC.right xf [_]))<|wy (aY Z Z) ?_;refine aA ?_;exact⟨SA,λ_ h=>h⟩
   ·refine aP Z Z Z Z<|aP Z Z Z Z<|aP Z Z Z Z<|aP Z Z Z Z<|aP Z Z Z Z<|aP Z Z Z Z<|aP Z Z Z Z<|wy (aR Z Z)<|aA ?_;exact⟨SA,λ_ h=>h⟩
  refine aA<|bJ Z (λfd=> ?_) (λfd=> ?_)
  ·refine aM<|wm Z<|wy (aD Z)<|wy (aB (off:=3) (m:=3) nk Z gW Z Z Z)<|wy (aK (RdC.right js [_]) aa Z Z Z)<|wm Z<|wy (aH aa sz3 Z Z (rdr 0 Z))<|bX (bG 0 Z sz3 Z Z) ?_;rintro _ _ rfl;refine aA<|aM<|wA Z Z<|wm Z<|aA ?_;exact⟨q+1,upd D q (-1),⟨G,G,(by rw[hD];exact aWf gv G (by rw[<-hD];exact(bFq hf1).1 fd))⟩,G,SA,λ_ h=>h⟩
  ·refine aJ<|aM<|wA Z Z<|wm Z<|aA ?_;exact⟨q+1,D,⟨G,G,(by rw[hD];exact bBb gv G (by rw[<-hD];exact λh=>fd ((bFq hf1).2 h)))⟩,G,SA,λ_ h=>h⟩
 ·have Zr:=aRf hk.1 hs hp hn G hD;refine aZ<|wq<|wm Z<|wa (aF aXq Z (aEn (RdC.right js [_]) (RdC.right Ki [_]) hk hs hN)) ?_;rintro _ _ ⟨bx,br,rfl,rfl⟩;refine wn Z<|wq<|wm Z<|wy (aD Z)<|wy (aB (off:=3) (m:=3) nk Z gW Z Z Z)<|wy (aK (RdC.right js [_,_]) aa Z Z Z)<|wy (aQ aa Z)<|wS Z Z<|wn Z<|aI ?_;refine fU (λ(i:Int) (D:List Int) (H:List Int)=>[(0,PG sg),(4,sl bx k.toNat br),(5,I i)]) (λi D H=>((ri 3 bx k.toNat br H)::(ri 3 ju s.length jz D)::R)) (λi D H=>(-1<=i)/\(i<s.length)/\(D=(itS s k l (s.length-1-i).toNat).1)/\(H=(itS s k l (s.length-1-i).toNat).2)) (λi D H=>(i+1).toNat) ?_ ?_
  ·exact⟨((s.length:Nat):Int)-1,D,pK (dR s k),⟨G,G,(by rw[show((s.length:Int)-1-(((s.length:Nat):Int)-1)).toNat=0 by omega];exact Zr),(by rw[show((s.length:Int)-1-(((s.length:Nat):Int)-1)).toNat=0 by omega];rfl)⟩,SA,λ_ h=>h⟩
  intro i D H ⟨ar,ia,hD,hH⟩;refine aG<|wq<|wm Z<|wy (jF Z Z)<|aA<|bJ Z (λka=> ?_) (λka=> ?_)
  ·have hf:=bAp hk.1 hs hp hn G G hD hH;have hf1:=hf.1;refine aJ<|aG<|aI<|wq<|wm Z<|wy (aD Z)<|wy (aB (off:=3) (m:=3) nk Z gW Z Z Z)<|wy (aK (RdC.right js [_,_]) aa Z Z Z)<|wm Z<|wy (aH aa sz3 Z Z (rdr 1 Z))<|wy (aX ak Z Z (rdr 1 Z))<|wn Z<|aG ?_;refine aM<|wm Z<|wy (dV Z Z)<|wm Z<|dQ 9 [(0,PG sg),(4,sl bx k.toNat br),(5,I i),(6,I (rd D i)),(65, .bool (decide ((0<(rd D i))/\(rdb (smL s) ((rd D i)-1)=true))))] ((ri 3 bx k.toNat br H)::(ri 3 ju s.length jz D)::R) ?_ ?_
   ·refine cK 56 Z (λkj=> ?_) (λkj=> ?_)
    ·refine aC Z Z<|wm Z<|aC Z Z<|wy (aD Z)<|aC Z Z<|wy (aB (off:=1) (m:=1) nk Z aLq Z Z Z)<|aC Z Z<|wy (aK (RdC.right js [_,_]) og Z Z Z)<|aC Z Z<|wm Z<|aC Z Z<|wS Z Z<|aC Z Z<|wy (aH og sz4 Z Z (RdC.right xf [_,_]))<|aC Z Z ?_;refine wy (CF Ar Z Z (RdC.right xf [_,_]))<|wy (aY Z Z)<|aA ?_;exact⟨SA,λ_ h=>h⟩
    ·refine aP Z Z Z Z<|aP Z Z Z Z<|aP Z Z Z Z<|aP Z Z Z Z<|aP Z Z Z Z<|aP Z Z Z Z<|aP Z Z Z Z<|aP Z Z Z Z<|wy (aR Z Z)<|aA ?_;exact⟨SA,λ_ h=>h⟩
   refine aA<|bJ Z (λxi=> ?_) (λxi=> ?_)
   ·obtain ⟨g1,g2,g3,g4,g5⟩:=fSZ hk.1 hs hp hn G G hD hH xi;refine aM<|wm Z<|wm Z<|wm Z<|wS Z Z<|dH (R1:=((ri 3 ju s.length jz D)::(ri 3 bx k.toNat br H)::R)) (Sub.refl _) (λ_ h=>h.selR (F:=[_,_]) (F':=[_,_]) [1,0] cC Z)<|wa (aF aXp Z (aOs (row:=D) (E:=H) (j:=((rd D i)-1)) (RdC.right js []) (RdC.right ba []) hk hN ⟨G,G⟩ g2 ⟨hf.2.1,hf.2.2,rfl⟩ g3)) ?_;rintro _ _ ⟨rfl,rfl⟩;refine aA<|aM<|wm Z<|wS Z Z<|wn Z ?_;exact⟨i-1,upd D ((rd H (rd s ((rd D i)-1)))-1) ((rd D i)-1),upd H (rd s ((rd D i)-1)) ((rd H (rd s ((rd D i)-1)))-1),⟨G,G,(g4),(g5)⟩,G,SA,λ_ h=>h.selR (F:=[_,_]) (F':=[_,_]) [1,0] cC Z⟩
   ·have g4:=bGg hk.1 hs hp hn G G hD hH xi;refine aJ<|aM<|wm Z<|wS Z Z<|wn Z ?_;exact⟨i-1,D,H,⟨G,G,(g4.1),(g4.2)⟩,G,SA,λ_ h=>h⟩
  ·refine aCm (R1:=((ri 3 ju s.length jz D)::R)) (Sub.refl _) (λ_ h=>h.selR (F:=[_,_]) (F':=[_]) [1] cC Z) ?_;have Mm:((s.length:Int)-1-i).toNat=s.length:=G
   rw[Mm] at hD;subst hD;refine aZ ?_;exact⟨Z,Z⟩
theorem UX (s:List Int):(bM s).Pairwise (· <= ·):=by
 unfold bM iota;exact((ik.2 (List.pairwise_lt_range.imp λh=>G)).sublist rz)
theorem aGe {s l:List Int}:jY l=bM s↔l.Perm (bM s):=by
 constructor
 ·intro h;rw[<-h];exact(kR l).symm
 ·intro h;exact((kR l).trans h).eq_of_pairwise (λa b _ _ h1 h2=>Int.le_antisymm h1 h2) (xZ l) (UX s)
theorem fFZ {s l D H:List Int} {k:Int} (hk:0<=k) (hs: ∀x∈s,0<=x/\x<k) (hp:l.Perm (bM s)) {m:Nat} (hm:m<l.length) (hr:D=(itF s k (l.drop (l.length-m))).1) (hE:H=(itF s k (l.drop (l.length-m))).2):
  (0<=rd l ((l.length-1-m:Nat):Int)/\rd l ((l.length-1-m:Nat):Int)<s.length)/\(0<=rd s (rd l ((l.length-1-m:Nat):Int))/\rd s (rd l ((l.length-1-m:Nat):Int))<k)/\(0<=rd H (rd s (rd l ((l.length-1-m:Nat):Int)))-1/\rd H (rd s (rd l ((l.length-1-m:Nat):Int)))-1<s.length)/\(D.length=s.length/\H.length=k.toNat)/\
  upd D (rd H (rd s (rd l ((l.length-1-m:Nat):Int)))-1) (rd l ((l.length-1-m:Nat):Int))=(itF s k (l.drop (l.length-(m+1)))).1/\upd H (rd s (rd l ((l.length-1-m:Nat):Int))) (rd H (rd s (rd l ((l.length-1-m:Nat):Int)))-1)=(itF s k (l.drop (l.length-(m+1)))).2:=by
 have e:l.length-1-m+1=l.length-m:=G
 have h:=fF (row:=D) (E:=H) hk hs hp (m:=l.length-1-m) G (by rw[e];exact hr) (by rw[e];exact hE);rwa[show l.length-(m+1)=l.length-1-m by omega]
theorem aAe {s l:List Int} (hp:l.Perm (bM s)):l.length<=s.length:=by rw[hp.length_eq];exact IW
set_option maxHeartbeats 2000000 in
theorem aCw {w:World} {bp:Option Addr} {eh bo:Nat} {s:List Int} {k:Int} {im:Option Addr} {lj ir:Nat} {l:List Int} (ba:Rd w bp eh bo 1 (ints .i64 s)) (gr:Rd w im lj ir 1 (ints .i64 l)) (cx:(0<=k/\k<=1048576)/\ ∀x∈s,0<=x/\x<k) (hp:l.Perm (bM s)) (hN:s.length<=1000000):
  Ct Tryz.prog 291 #[sl bp eh bo,I k,sl im lj ir] w.heap.size w [] (λv R'=> ∃A c,v= .tuple #[sl A s.length c,bt]/\R'=[(ri 3 A s.length c (pJ s k l))]):=by
 obtain rfl:=ba.lenI;obtain rfl:=gr.lenI;refine fnV Tryz.func291 Z Z ?_;have ub:=ba.max;have Qm:=gr.max;have hk:=cx.1;have hs:=cx.2;have qn:=aAe hp;have kc:(dR s k).length=k.toNat:=dL _ _;refine fP ?_;refine aM<|wg Z<|wn Z ?_;refine fP ?_;refine aM<|wm Z<|wm Z<|wa (aF VP Z (Ct.fresh (λw hw=>nI ((ba.c _) w hw) cE))) ?_;rintro _ _ ⟨_,rfl,bx,br,rfl,rfl⟩;refine wm Z<|wX Z Z<|wX Z Z<|wg Z<|wn Z ?_;refine fP ?_;refine aM<|wm Z<|wa (aF aXr Z (LH)) ?_;rintro _ _ ⟨dq,rfl,rfl⟩;refine wa (aF aXs Z (Ct.fresh (λw hw=>LZ ((gr.c _) w hw) ((rdr 0 Z) w hw) G))) ?_;rintro _ _ ⟨_,rfl,fh,nf,rfl,rfl⟩;refine wn Z ?_;refine fP ?_;refine wq<|wm Z<|wy (dI Z)<|wm Z<|aC Z Z<|wm Z<|aC Z Z<|wm Z<|aC Z Z<|wa (aF aXw Z (Ct.fresh (λw hw=>UZ ((ba.c _) w hw) cE))) ?_;rintro _ _ ⟨_,rfl,gw,kf,rfl,rfl⟩;refine aC Z Z<|wa (aF bCy Z (Ct.quiet (λw hw=>NP ((rdr 1 Z) w hw) ((rdr 0 Z) w hw) (by rw[(kR l).length_eq];omega)))) ?_;rintro _ _ ⟨rfl,rfl⟩;refine kK 30 Z (aGe.2 hp)<|aC Z Z<|wy (dI Z)<|wy (aR Z Z)<|aA<|aL Z<|aJ ?_;refine fP ?_;refine wq<|wm Z<|wy (aQ aa Z)<|wy (bC Z Z)<|aA<|bJ Z (λaq=> ?_) (λaq=> ?_)
 ·refine wq<|wa (bS .i64 [] aa zs3 Z Z Z) ?_;rintro _ _ ⟨j6,rfl,rfl⟩;refine wg Z<|wn Z<|aT [0] 99 cC Z ?_;refine aPr Z Gd.refl ⟨_,_,Z,Z,?_⟩;have e:s=[]:=ed G;subst e;rw[UT hp];exact⟨_,_,Z,Z⟩
 ·have hn:0<s.length:=G
  refine aJ ?_;refine fP ?_;refine aM<|wm Z<|wm Z<|wa (aF aXt Z (Ct.fresh (λw hw=>SX ((ba.c _) w hw) cE))) ?_;rintro _ _ ⟨_,rfl,fz,ge,rfl,rfl⟩;refine wm Z<|wa (bS .i64 [-1] aa zs3 Z Z Z) ?_;rintro _ _ ⟨j8,rfl,rfl⟩;refine wm Z<|wy (aQ aa Z)<|wa (aF bDl Z (Ct.fresh (λw hw=>YW ((rdr 0 Z) w hw) Z Z ⟨G,G⟩))) ?_;rintro _ _ ⟨_,rfl,gd,gg,rfl,rfl⟩;refine wy (dU (v:= .agg #[sl bp s.length bo,sl fz s.length ge,sl bx ((k).toNat) br,sl gd s.length gg]) Z (λw=>cA))<|wa (bY (sz:=4) rfl rfl) ?_;rintro _ _ ⟨sv,rfl,rfl⟩;refine wa (iH (sz:=1) bBs Z) ?_;rintro _ _ ⟨jn,rfl,rfl⟩;refine bX (bA 0 Z Z Z bCo Z Z Z Z (au Z)) ?_;rintro _ _ rfl;refine aA ?_;refine fP ?_;refine aM<|wy (aK (rdr 0 Z) Dl Z Z Z)<|wa (aF aXq Z (aEn (rdr 1 Z) (rdr 8 Z) hk hs hN)) ?_;rintro _ _ ⟨en,ew,rfl,rfl⟩;refine wa (iH (sz:=1) bFw Z) ?_;rintro _ _ ⟨tc,rfl,rfl⟩;refine bX (bA 0 Z Z Z gW Z Z Z Z (au Z)) ?_;rintro _ _ rfl;refine aA ?_;refine aCn ?_;refine fP ?_;refine aM<|wm Z<|wa (aF aYf Z (XE)) ?_;rintro _ _ ⟨Kd,rfl,rfl⟩;refine aA ?_;refine EC ?_;refine aLc Z aXz (JU (A:=im) (c:=ir) (zs:=l) G) Z (λ_=>Z) Gd.refl (λ(kr:Nat) (D:List Int) (H:List Int)=>[(rc 52 1 Kd [sl im l.length ir]),(rc 52 1 tc [sl en k.toNat ew]),(ri 3 en k.toNat ew H),(rc 350 1 jn [PG sv]),(rc 352 4 sv [sl bp s.length bo,sl fz s.length ge,sl bx ((k).toNat) br,sl gd s.length gg]),(ri 3 gd s.length gg D),(ri 3 (GG j8) 1 1 ([-1])),⟨4,1,fz,s.length,ge,bools (smL s),false⟩,(ri 3 gw ((bM s).length) kf (bM s)),(ri 3 fh ((jY l).length) nf (jY l)),(rc 52 1 dq [sl im l.length ir]),(ri 3 bx ((k).toNat) br (dR s k))]) (λkr D H=>(D=(itF s k (l.drop (l.length-kr))).1)/\(H=(itF s k (l.drop (l.length-kr))).2)) ?_ ?_ ?_ ?_
  ·exact⟨List.replicate s.length ((-1):Int),pK (dR s k),⟨(by rw[yc,Gz];rfl),(by rw[yc,Gz];rfl)⟩,λ_ h=>h⟩
  ·intro kr D H w ⟨hD,hH⟩ hw;exact⟨(rdr 0 Z) w hw,(gr.c _) w hw⟩
  ·intro lr kr D H Za Lc ⟨hD,hH⟩ To;obtain⟨f1,f2,f3,f4,f5,f6⟩:=fFZ hk.1 hs hp Lc hD hH;refine aM<|wn Z ?_;intro Sk xr;refine aI<|aM<|wy (aK (rdr 3 Z) Dl Z Z Z)<|wy (aK (rdr 1 Z) aa Z Z Z)<|wm Z<|dH (R1:=[(ri 3 gd s.length gg D),(ri 3 en k.toNat ew H),(rc 52 1 Kd [sl im l.length ir]),(rc 52 1 tc [sl en k.toNat ew]),(rc 350 1 jn [PG sv]),(rc 352 4 sv [sl bp s.length bo,sl fz s.length ge,sl bx ((k).toNat) br,sl gd s.length gg]),(ri 3 (GG j8) 1 1 ([-1])),⟨4,1,fz,s.length,ge,bools (smL s),false⟩,(ri 3 gw ((bM s).length) kf (bM s)),(ri 3 fh ((jY l).length) nf (jY l)),(rc 52 1 dq [sl im l.length ir]),(ri 3 bx ((k).toNat) br (dR s k))]) (Sub.refl _) (λ_ h=>h.sel [5,2,0,1,3,4,6,7,8,9,10,11] cC Z)<|wa (aF aXp Z (aOs (row:=D) (E:=H) (j:=(rd l ((l.length-1-kr:Nat):Int))) (rdr 3 Z) (ba.cb xr _) hk hN f1 f2 ⟨f4.1,f4.2,Z⟩ f3)) ?_;rintro _ _ ⟨rfl,rfl⟩;refine aA ?_;exact⟨upd D ((rd H (rd s (rd l ((l.length-1-kr:Nat):Int))))-1) (rd l ((l.length-1-kr:Nat):Int)),upd H (rd s (rd l ((l.length-1-kr:Nat):Int))) ((rd H (rd s (rd l ((l.length-1-kr:Nat):Int))))-1),⟨(f5),(f6)⟩,λ_=>λ_ h=>h.sel [2,3,1,4,5,0,6,7,8,9,10,11] cC Z⟩
  intro Zb DW2 D H ⟨hD,hH⟩ Hv Ny;rw[Bc,Ev] at hD;refine aCp ?_;refine aSp ?_;refine v_w ?_;refine wq<|wy (aK (rdr 3 Z) Dl Z Z Z)<|dH (R1:=[(ri 3 gd s.length gg D),(rc 52 1 Kd [sl im l.length ir]),(rc 52 1 tc [sl en k.toNat ew]),(ri 3 en k.toNat ew H),(rc 350 1 jn [PG sv]),(rc 352 4 sv [sl bp s.length bo,sl fz s.length ge,sl bx ((k).toNat) br,sl gd s.length gg]),(ri 3 (GG j8) 1 1 ([-1])),⟨4,1,fz,s.length,ge,bools (smL s),false⟩,(ri 3 gw ((bM s).length) kf (bM s)),(ri 3 fh ((jY l).length) nf (jY l)),(rc 52 1 dq [sl im l.length ir]),(ri 3 bx ((k).toNat) br (dR s k))]) (Sub.refl _) (λ_ h=>h.sel [5,0,1,2,3,4,6,7,8,9,10,11] cC Z)<|wa (aF bDk Z (aOt (row:=D) (rdr 4 Z) (ba.cb Hv _) (rdr 6 Z) (rdr 10 Z) hk hs hN hp hn hD)) ?_;rintro _ _ ⟨rfl,rfl⟩;refine aA<|wq<|wy (aK (rdr 4 Z) Dl Z Z Z)<|wa (aF bDj Z (aGg (rdr 4 Z) (ba.cb Hv _) (rdr 6 Z) (rdr 10 Z) hk hs hN hp hn)) ?_;rintro _ _ ⟨rfl,rfl⟩;refine aA<|wq<|wy (aK (rdr 4 Z) Dl Z Z Z)<|wy (aD Z)<|wy (aB (off:=3) (m:=3) nk Z gW Z Z Z)<|wy (aK (rdr 5 Z) aa Z Z Z)<|wg Z<|wn Z<|aT [0] 99 cC Z ?_;refine aPr Z Ny ⟨_,_,Z,Z,?_⟩;exact⟨_,_,Z,Z⟩
end Go.Proofs.YtdbebmmhdefgdaaGreat
namespace Go.Eng
open Go Go.RowKit
section
variable {P:Program} {n:Nd} {B:Nat} {w0:World} {ops:Array Oper} {K:Env->List Row->Prop} {L:Env} {R Rc:List Row} {op:Op} {ty:TypeId} {pos:String} {ml:Array Edge}
def WDc (P:Program) (n:Nd) (B:Nat) (w0:World) (ops:Array Oper) (K:Env->List Row->Prop) (fuel:Nat) (ab:Array Bool) (L:Env) (R Rc:List Row):Prop:=
 ∀a w (Q:Exit->Act->World->Prop),Sat n L a->Hp B w0 w R->(∀w,Hp B w0 w R->Hp B w0 w Rc)->(∀c a w,¬Q (.panic c) a w)->(∀a' w' L' R',Sat n L' a'->Hp B w0 w' R'->K L' R'->Q .normal a' w')->wJ P ops Q fuel (λw=>Hp B w0 w Rc) ab a w
def aYt (P:Program) (n:Nd) (B:Nat) (w0:World) (ops:Array Oper) (K:Env->List Row->Prop) (fuel:Nat) (ab:Array Bool) (L:Env) (R Rc:List Row) (i:Nat):Prop:=
 ∀a w (Q:Exit->Act->World->Prop),Sat n L a->Hp B w0 w R->(∀w,Hp B w0 w R->Hp B w0 w Rc)->(∀c a w,¬Q (.panic c) a w)->(∀a' w' L' R',Sat n L' a'->Hp B w0 w' R'->K L' R'->Q .normal a' w')->
  wpOp P ops Q i (λa' w'=> ∃S':World->Prop,S' w'/\(XD ops ab i=true\/ ∀x,S' x->Hp B w0 x Rc)/\wJ P ops Q fuel S' (ab.setIfInBounds i true) a' w') a w
theorem QG {d:Nat} {v:Value} {fuel:Nat} {ab:Array Bool} (i:Nat) (hi:ops[i]? =some {dst:=some d,op:=op,type:=ty,pos:=pos,after:=ml,guard:=none}) (hc:chk ops ab i=true) (hn:Nat.blt d n=true)
  (hy:Yl P n B w0 op ty L Rc v) (h:WDc P n B w0 ops K fuel (ab.setIfInBounds i true) ((d,v)::L) R Rc):WDc P n B w0 ops K (fuel+1) ab L R Rc:=by
 intro a w Q hs hp xl pk hq;simp only[chk,qj] at hc;obtain⟨⟨⟨h1,h2⟩,h3⟩,h4⟩:=hc;refine xP hi (Region.noSelect_spec h1) (λc a w hh=>(pk c _ w hh).elim) fuel _ ab a w h4 (Region.free_spec hi h2) (by simpa using h3) (.inl ⟨rfl,λw hw=>hy a w _ rfl rfl hs hw⟩) (xl w hp) ?_;exact h _ w Q (hs.put hn v) hp xl pk hq
theorem bBd {fuel:Nat} {ab:Array Bool} (hr:Region.ready .any ops ab=[]) (h:K L R):WDc P n B w0 ops K fuel ab L R Rc:=by
 intro a w Q hs hp _ pk hq;cases fuel with
 |zero=>exact⟨hr,hq _ _ L R hs hp h⟩
 |succ fuel=>exact⟨λ_=>hq _ _ L R hs hp h,by rw[hr];simp⟩
theorem bFs {Post:Value->List Row->Prop} {fuel:Nat} {ab:Array Bool} (i:Nat) (hi:ops[i]? =some {dst:=none,op:=op,type:=ty,pos:=pos,after:=ml,guard:=none}) (ha:Ac P n B w0 op ty L R Post)
  (h: ∀v R',Post v R'->(∀w,Hp B w0 w R'->Hp B w0 w Rc)/\WDc P n B w0 ops K fuel (ab.setIfInBounds i true) L R' Rc):aYt P n B w0 ops K fuel ab L R Rc i:=by
 intro a w Q hs hp xl pk hq;unfold wpOp;simp only[hi];rw[cu (by simp[Region.wanted])];refine .inl (ha a w _ _ Q rfl rfl hs hp λv w' R' bw hv=> ?_);obtain⟨h1,h2⟩:=h v R' hv;exact⟨λw=>Hp B w0 w Rc,h1 w' bw, .inr λ_ h=>h,h2 _ w' Q hs bw h1 pk hq⟩
theorem aRk {fuel:Nat} {ab:Array Bool} (i:Nat) (hr:Region.ready .any ops ab=[i]) (hi:aYt P n B w0 ops K fuel ab L R Rc i):WDc P n B w0 ops K (fuel+1) ab L R Rc:=by
 intro a w Q hs hp xl pk hq;refine⟨λh0=>absurd (hr▸h0) cD,λk hk=> ?_⟩;rw[hr] at hk;obtain rfl:=jc.1 hk;exact hi a w Q hs hp xl pk hq
end
end Go.Eng
namespace Go.Proofs.YtdbebmmhdefgdaaGreat
open Go Go.Eng Go.Pure
set_option maxRecDepth 100000
theorem vQ {s l:List Int} {k:Int} (hk:0<=k) (hs: ∀x∈s,0<=x/\x<k) (hp:l.Perm (bM s)):(pJ s k l).length=s.length/\(pJ s k l).Perm (iota s.length)/\(∀q:Int,0<=q->q+1<s.length->rd s (rd (pJ s k l) q)<=rd s (rd (pJ s k l) (q+1)))/\(l.Pairwise (bU s)->(pJ s k l).Pairwise (bU s)):=by
 refine⟨aPf hk hs hp,?_⟩;rcases dx s.length with h|h
 ·have e:s=[]:=ed h;subst e;rw[UT hp];exact⟨.refl _,λq h0 h1=>by simp at h1;omega,λ_=> .nil⟩
 ·exact aEg hk hs hp h
open Tryz
variable {w:World} {bp:Option Addr} {eh bo:Nat} {s:List Int} {k:Int}
theorem TP {zc:Option Addr} {u9 zp:Nat} {x:List Int} {i:Int} (ba:Rd w bp eh bo 1 (ints .i64 s)) (js:Rd w zc u9 zp 1 (ints .i64 x)) (hi:0<=i/\i<s.length) (hx:x.length=s.length) (f8:i<rd x i) (Ow:rd x i<=s.length) (hN:s.length<=1000000):
  Ct Tryz.prog 321 #[sl bp eh bo,sl zc u9 zp,I i] w.heap.size w [] (λv R'=>v=sl (iY bp i.toNat bo 1) ((min (rd x i+1) ((s.length:Nat):Int)).toNat-i.toNat) (bo-i.toNat)):=by
 obtain rfl:=ba.lenI;obtain rfl:=js.lenI;refine fn1 Tryz.func321 Z Z Z ?_;have ub:=ba.max;have Vw:=js.max;refine wq<|wn Z<|wq<|wm Z<|wm Z<|wm Z<|wm Z<|wy (aH aa sz3 Z Z (js.c _))<|wy (aX ak Z Z (js.c _))<|wA Z Z<|wm Z<|wy (aQ aa Z) ?_;refine wy (vV Z Z)<|wy (aCg aa sz3 Z Z Z (ba.c _) G G G)<|wn Z<|dF ?_;refine⟨_,Z,?_⟩;rfl
set_option maxHeartbeats 1000000 in
theorem aOd {w7:Option Addr} {Yq z7:Nat} {f:List Int} {uv:Option Addr} {Mb va:Nat} {o:List Int} (ba:Rd w bp eh bo 1 (ints .i64 s)) (Hj:Rd w w7 Yq z7 1 (ints .i64 f)) (Rf:Rd w uv Mb va 1 (ints .i64 o)) (hs:Nn s) (hf:f=bM s) (Pn:o.Perm (iota s.length)) (Xw:o.Pairwise (pcS s)) (hN:s.length<=1000000):
  Ct Tryz.prog 292 #[sl bp eh bo,sl w7 Yq z7,sl uv Mb va] w.heap.size w [] (λv R'=> ∃(nx nm:List Int) (n la:Int) (A:Option Addr) (c:Nat),v= .tuple #[sl A f.length c,I (n+1)]/\rO s nx (bM s).length/\xJ s o nx s.length nm n la/\R'=[(ri 3 A f.length c (f.map (rd nm)))]):=by
 obtain rfl:=ba.lenI;obtain rfl:=Hj.lenI;obtain rfl:=Rf.lenI;refine fn2 Tryz.func292 Z Z Z ?_;have ub:=ba.max;have m_f:=Hj.max;have m_o:=Rf.max;have hol:o.length=s.length:=by rw[Pn.length_eq,bF]
 have qk:f.length<=s.length:=by rw[hf];exact IW
 refine wq<|wg Z<|wn Z<|wq<|wm Z<|wy (aQ aa Z)<|wa (dE aa zb3 Z Z) ?_;rintro _ _ ⟨al,rfl,rfl⟩;refine bN (v:=sl (GG al) s.length s.length) Z<|wn Z<|aG<|wq<|wm Z<|wy (aQ aa Z)<|wm Z<|aA<|aI ?_;refine dS (λ(i:Int) (V:List Int)=>[(0,sl bp s.length bo),(1,sl w7 f.length z7),(2,sl uv o.length va),(8,sl (GG al) s.length s.length),(22,sl w7 f.length z7),(23,I ((f.length:Nat):Int)),(24,I i)]) (λi V=>[(ri 3 (GG al) s.length s.length V)]) (λi V=>(0<=i)/\(i<=f.length)/\(rO s V i)) (λi V=>(f.length-i).toNat) ?_ ?_
 ·exact⟨0,List.replicate s.length (0:Int),⟨G,G,(aUo)⟩,SA,λ_ h=>h⟩
 intro i V ⟨ar,ia,hV⟩;have iu:=hV.len;have hfi:i<f.length->0<=rd f i/\rd f i<s.length:=λh=>by subst hf;exact(nD ar h).1
 refine wq<|wL Z Z<|aA<|aG<|bJ Z (λaq=> ?_) (λaq=> ?_)
 ·have hfi2:=hfi G;refine aJ<|aG<|aI<|wq<|wm Z<|wy (aH aa sz3 Z Z (Hj.c _))<|wy (aX ak Z Z (Hj.c _))<|wg Z<|wn Z<|wq<|wm Z<|wm Z ?_;refine wm Z<|wy (aQ aa Z)<|wy (aH aa sz3 Z Z (rdr 0 Z))<|bX (bG 0 Z sz3 Z Z) ?_;rintro _ _ rfl;refine aA<|wq<|wm Z<|wA Z Z<|wm Z<|wy (aQ aa Z)<|wL Z Z<|aA<|bJ Z (λcr=> ?_) (λcr=> ?_)
  ·refine aM<|wm Z<|wm Z<|wm Z<|wm Z<|wA Z Z<|wy (aH aa sz3 Z Z (Hj.c _))<|wy (aX ak Z Z (Hj.c _))<|wy (aH aa sz3 Z Z (rdr 0 Z))<|bX (bG 0 Z sz3 Z Z) ?_;rintro _ _ rfl;refine aA<|aM<|wA Z Z<|wm Z<|aA ?_;exact⟨i+1,upd (upd V (rd f i) ((s.length:Nat):Int)) (rd f i) (rd f (i+1)),⟨G,G,(by subst hf;exact hV.step2 ar G G)⟩,G,SA,λ_ h=>h⟩
  ·refine aJ<|aM<|wA Z Z<|wm Z<|aA ?_;exact⟨i+1,upd V (rd f i) ((s.length:Nat):Int),⟨G,G,(by subst hf;exact hV.step1 ar G G)⟩,G,SA,λ_ h=>h⟩
 ·have k7:rO s V (bM s).length:=by have e:i=(bM s).length:=(by rw[<-hf];omega);rw[<-e];exact hV
  refine aZ<|wq<|wm Z<|wy (aQ aa Z)<|wa (dE aa zb3 Z Z) ?_;rintro _ _ ⟨cv,rfl,rfl⟩;refine bN (v:=sl (GG cv) s.length s.length) Z<|wn Z<|wq<|wg Z<|wn Z<|aG<|wq<|wm Z<|wy (aQ aa Z)<|wm Z<|aA ?_;refine aI ?_;refine EB (λ(q:Int) (U:List Int) (n:Int) (la:Int)=>[(0,sl bp s.length bo),(1,sl w7 f.length z7),(8,sl (GG al) s.length s.length),(11,sl (GG cv) s.length s.length),(12,I n),(13,I la),(51,sl uv o.length va),(52,I ((o.length:Nat):Int)),(53,I q)]) (λq U n la=>[(ri 3 (GG cv) s.length s.length U),(ri 3 (GG al) s.length s.length V)]) (λq U n la=>(0<=q)/\(q<=o.length)/\(xJ s o V q U n la)) (λq U n la=>(o.length-q).toNat) ?_ ?_
  ·exact⟨0,List.replicate s.length (0:Int),0,-1,⟨G,G,(aOg)⟩,SA,λ_ h=>h⟩
  intro q U n la ⟨gv,f9,hM⟩;have Bk:=hM.len;have hMb:=hM.bd;have m7:=hM.last_in Pn G
  have Rp:0<=la->la<s.length/\la<rd V la/\rd V la<=s.length:=λh=>by
   rcases m7 with e|⟨e,e2⟩
   ·omega
   ·have g:=k7.nx e.1 e.2 e2;exact⟨e.2,g.gt,g.le⟩
  have Uu:q<o.length->0<=rd o q/\rd o q<s.length:=λh=>aW.1 (Pn.subset (bH (L:=o) gv h));have hoz:q<o.length->(rd V (rd o q)=0↔fG s (rd o q)=false):=λh=>k7.zero (Uu h).1 (Uu h).2;refine wq<|wL Z Z<|aA<|aG<|bJ Z (λfd=> ?_) (λfd=> ?_)
  ·have Fk:=Uu G;have Pp:=hoz G;refine aJ<|aG<|aI<|wq<|wy (aH aa sz3 Z Z (Rf.c _))<|wy (aX ak Z Z (Rf.c _))<|wn Z<|aG<|wq<|wm Z<|wm Z<|wy (aH aa sz3 Z Z (rdr 1 Z)) ?_;refine wy (aX ak Z Z (rdr 1 Z))<|wy (bC Z Z)<|aA<|bJ Z (λka=> ?_) (λka=> ?_)
   ·have t7:=Pp.1 ka;refine aZ<|aM<|wA Z Z<|wm Z<|aA ?_;exact⟨q+1,U,n,la,⟨G,G,(hM.skip t7)⟩,G,SA,λ_ h=>h⟩
   ·have t7:fG s (rd o q)=true:=by
     cases e:fG s (rd o q) with
     |true=>rfl
     |false=>exact absurd (Pp.2 e) ka
    have Xe:=k7.nx Fk.1 Fk.2 t7;have Ty:=Xe.gt;have Rj:=Xe.le;have Xl: -1<=la:=G
    refine aJ<|aG<|wq<|wm Z<|wy (jF Z Z)<|wm Z<|dQ 29 [(0,sl bp s.length bo),(1,sl w7 f.length z7),(8,sl (GG al) s.length s.length),(11,sl (GG cv) s.length s.length),(12,I n),(15,I (rd o q)),(51,sl uv o.length va),(52,I ((o.length:Nat):Int)),(53,I q),(93, .bool (decide ((0<=la)/\((((rd V (rd o q))=((s.length:Nat):Int))\/((rd V la)=((s.length:Nat):Int)))\/(¬((((s).drop (la).toNat).take ((min (rd V la+1) ((s.length:Nat):Int)).toNat-la.toNat))=(((s).drop (rd o q).toNat).take ((min (rd V (rd o q)+1) ((s.length:Nat):Int)).toNat-(rd o q).toNat))))))))] [(ri 3 (GG cv) s.length s.length U),(ri 3 (GG al) s.length s.length V)] ?_ ?_
    ·refine cK 64 Z (λkj=> ?_) (λkj=> ?_)
     ·refine aC Z Z<|wm Z<|aC Z Z<|wm Z<|aC Z Z<|wy (aH aa sz3 Z Z (rdr 1 Z))<|aC Z Z<|wy (aX ak Z Z (rdr 1 Z))<|aC Z Z<|wm Z<|aC Z Z<|wy (aQ aa Z)<|aC Z Z<|wy (bC Z Z)<|aC Z Z ?_;refine wm Z<|dQ 8 [(0,sl bp s.length bo),(1,sl w7 f.length z7),(8,sl (GG al) s.length s.length),(11,sl (GG cv) s.length s.length),(12,I n),(13,I la),(15,I (rd o q)),(51,sl uv o.length va),(52,I ((o.length:Nat):Int)),(53,I q),(64,bt),(80, .bool (decide (((rd V (rd o q))=((s.length:Nat):Int))\/((rd V la)=((s.length:Nat):Int)))))] [(ri 3 (GG cv) s.length s.length U),(ri 3 (GG al) s.length s.length V)] ?_ ?_
      ·refine cK 72 Z (λxi=> ?_) (λxi=> ?_)
       ·refine aP Z Z Z Z<|aP Z Z Z Z<|aP Z Z Z Z<|aP Z Z Z Z<|aP Z Z Z Z<|aP Z Z Z Z<|aP Z Z Z Z<|aC Z Z<|wy (aY Z Z)<|aA ?_;exact⟨SA,λ_ h=>h⟩
       ·refine aC Z Z<|wm Z<|aC Z Z<|wm Z<|aC Z Z<|wy (aH aa sz3 Z Z (rdr 1 Z))<|aC Z Z<|wy (aX ak Z Z (rdr 1 Z))<|aC Z Z<|wm Z<|aC Z Z<|wy (aQ aa Z)<|aC Z Z<|wy (bC Z Z)<|aC Z Z ?_;refine wy (aR Z Z)<|aA ?_;exact⟨SA,λ_ h=>h⟩
      refine aC Z Z<|wm Z<|dQ 11 [(0,sl bp s.length bo),(1,sl w7 f.length z7),(8,sl (GG al) s.length s.length),(11,sl (GG cv) s.length s.length),(12,I n),(15,I (rd o q)),(51,sl uv o.length va),(52,I ((o.length:Nat):Int)),(53,I q),(64,bt),(92, .bool (decide ((((rd V (rd o q))=((s.length:Nat):Int))\/((rd V la)=((s.length:Nat):Int)))\/(¬((((s).drop (la).toNat).take ((min (rd V la+1) ((s.length:Nat):Int)).toNat-la.toNat))=(((s).drop (rd o q).toNat).take ((min (rd V (rd o q)+1) ((s.length:Nat):Int)).toNat-(rd o q).toNat)))))))] [(ri 3 (GG cv) s.length s.length U),(ri 3 (GG al) s.length s.length V)] ?_ ?_
      ·refine cK 81 Z (λDd=> ?_) (λDd=> ?_)
       ·refine aP Z Z Z Z<|aP Z Z Z Z<|aP Z Z Z Z<|aP Z Z Z Z<|aP Z Z Z Z<|aP Z Z Z Z<|aP Z Z Z Z<|aP Z Z Z Z<|aP Z Z Z Z<|aP Z Z Z Z<|aC Z Z<|wy (aY Z Z)<|aA ?_;exact⟨SA,λ_ h=>h⟩
       ·refine aC Z Z<|wm Z<|aC Z Z<|wm Z<|aC Z Z<|wm Z<|aC Z Z<|wa (aF aXo Z (Ct.quiet (λw hw=>TP ((ba.c _) w hw) ((rdr 1 Z) w hw) cE cE cE cE cE))) ?_;rintro _ _ ⟨rfl,rfl⟩;refine aC Z Z<|wm Z<|aC Z Z<|wm Z<|aC Z Z<|wm Z<|aC Z Z<|wa (aF aXo Z (Ct.quiet (λw hw=>TP ((ba.c _) w hw) ((rdr 1 Z) w hw) cE cE cE cE cE))) ?_;rintro _ _ ⟨rfl,rfl⟩;refine aC Z Z<|wa (aF bCy Z (Ct.quiet (λw hw=>NP ((RdC.cutI (ba.c _) G G) w hw) ((RdC.cutI (ba.c _) G G) w hw) (by rw[ax,bg];omega)))) ?_;rintro _ _ ⟨rfl,rfl⟩;refine aC Z Z<|wy (ET Z)<|aC Z Z<|wy (aR Z Z)<|aA ?_;exact⟨SA,λ_ h=>h⟩
      refine wy (aY Z Z)<|aA ?_;exact⟨SA,λ_ h=>h⟩
     ·refine aP Z Z Z Z<|aP Z Z Z Z<|aP Z Z Z Z<|aP Z Z Z Z<|aP Z Z Z Z<|aP Z Z Z Z<|aP Z Z Z Z<|aP Z Z Z Z<|eZ Z Z Z<|eZ Z Z Z<|eZ Z Z Z<|eZ Z Z Z<|eZ Z Z Z<|eZ Z Z Z<|eZ Z Z Z ?_;refine aP Z Z Z Z<|aP Z Z Z Z<|eZ Z Z Z<|eZ Z Z Z<|eZ Z Z Z<|eZ Z Z Z<|eZ Z Z Z<|eZ Z Z Z<|eZ Z Z Z<|eZ Z Z Z<|eZ Z Z Z<|eZ Z Z Z<|aP Z Z Z Z<|wy (aR Z Z)<|aA ?_;exact⟨SA,λ_ h=>h⟩
    refine aA<|bJ Z (λKq=> ?_) (λKq=> ?_)
    ·have ee:=aOf (n:=n) Rp Fk.1 Ty Rj Kq;refine aM<|wm Z<|wA Z Z<|wn Z<|aM<|wm Z<|wm Z<|wm Z<|wm Z<|wy (aH aa sz3 Z Z (rdr 0 Z))<|bX (bG 0 Z sz3 Z Z) ?_;rintro _ _ rfl;refine wn Z<|aM<|wA Z Z<|wm Z<|aA ?_;exact⟨q+1,upd U (rd o q) (n+1),n+1,rd o q,⟨G,G,(hM.step hs Pn Xw k7 gv G t7 ee)⟩,G,SA,λ_ h=>h⟩
    ·have ee:=aOe (n:=n) Xl Rp Fk.1 Ty Rj Kq;refine aJ<|aM<|wm Z<|wm Z<|wm Z<|wm Z<|wy (aH aa sz3 Z Z (rdr 0 Z))<|bX (bG 0 Z sz3 Z Z) ?_;rintro _ _ rfl;refine wn Z<|aM<|wA Z Z<|wm Z<|aA ?_;exact⟨q+1,upd U (rd o q) n,n,rd o q,⟨G,G,(hM.step hs Pn Xw k7 gv G t7 ee)⟩,G,SA,λ_ h=>h⟩
  ·refine aZ<|wq<|dH (R1:=[(ri 3 none 0 0 ([])),(ri 3 (GG cv) s.length s.length U),(ri 3 (GG al) s.length s.length V)]) (Sub.refl _) (λ_ h=>h.nil 3 1)<|wn Z<|aG<|wq<|wm Z<|wy (aQ aa Z)<|wm Z<|aA<|aI ?_;refine jN (λ(A1:Option Addr) (n1:Nat) (c1:Nat) (acc:List Int) (j:Int)=>[(11,sl (GG cv) s.length s.length),(12,I n),(16,sl A1 n1 c1),(102,sl w7 f.length z7),(103,I ((f.length:Nat):Int)),(104,I j)]) (λA1 n1 c1 acc j=>[(ri 3 A1 n1 c1 acc),(ri 3 (GG cv) s.length s.length U),(ri 3 (GG al) s.length s.length V)]) (λA1 n1 c1 acc j=>(n1=acc.length)/\(0<=j)/\(j<=f.length)/\(acc=(f.take j.toNat).map (rd U))) (λA1 n1 c1 acc j=>(f.length-j).toNat) ?_ ?_
   ·exact⟨none,0,0,[],0,⟨(Z),G,G,(Z)⟩,SA,λ_ h=>h⟩
   intro A1 n1 c1 acc j ⟨dd,yd,Mn,bb⟩;have wb:=bz List.length bb;rw[bi,ax] at wb;have hfj:j<f.length->0<=rd f j/\rd f j<s.length:=λh=>by subst hf;exact(nD yd h).1
   refine wq<|wL Z Z<|aA<|aG<|bJ Z (λOn=> ?_) (λOn=> ?_)
   ·refine aJ<|aG<|aI<|wq<|wy (aH aa sz3 Z Z (Hj.c _))<|wy (aX ak Z Z (Hj.c _))<|wn Z<|aM<|wm Z<|wm Z<|wm Z<|wy (aH aa sz3 Z Z (rdr 1 Z))<|wy (aX ak Z Z (rdr 1 Z)) ?_;refine wa (bS .i64 [rd U (rd f j)] aa zs3 Z Z Z) ?_;rintro _ _ ⟨dy,rfl,rfl⟩;refine wa (bE 1 Z aa zb3 Z Z Z (rdr 0 Z)) ?_;rintro _ _ ⟨fh,nf,rfl,rfl⟩;refine bN (v:=sl fh (n1+1) nf) Z<|wn Z<|aM<|wA Z Z<|wm Z<|aA ?_;exact⟨fh,n1+1,nf,acc++([rd U (rd f j)]),j+1,⟨(by rw[ah,dd];try rfl),G,G,(by rw[dD yd G,jh,bb];rfl)⟩,G,SA,λ_ h=>h.sel [1,2,3] cC Z⟩
   ·refine aZ<|wq<|wm Z<|wm Z<|wA Z Z<|wg Z<|wn Z<|aT [0] 99 cC Z ?_;refine⟨_,_,Z,Z,?_⟩;have Oa:xJ s o V s.length U n la:=by have e:q=s.length:=G;rw[<-e];exact hM
    rw[bn G] at bb;subst bb;obtain rfl:n1=f.length:=G
    exact⟨V,U,n,la,_,_,Z,k7,Oa,Z⟩
set_option maxHeartbeats 1000000 in
theorem KJ {w:World} {s:List Int} (ba:Rd w bp eh bo 1 (ints .i64 s)) (IH: ∀ {w:World} {rg:Option Addr} {rn rh:Nat} {t:List Int} {j:Int},Rd w rg rn rh 1 (ints .i64 t)->t.length<s.length->((0<=j/\j<=1048576)/\ ∀x∈t,0<=x/\x<j)->t.length<=1000000->Ct Tryz.prog 265 #[sl rg rn rh,I j] w.heap.size w [] (λv R'=> ∃(b:List Int) (A:Option Addr) (c:Nat),v=sl A t.length c/\b.Perm (iota t.length)/\b.Pairwise (bU t)/\R'=[(ri 3 A t.length c b)])) (cx:(0<=k/\k<=1048576)/\ ∀x∈s,0<=x/\x<k) (hN:s.length<=1000000):
  Ct Tryz.prog 265 #[sl bp eh bo,I k] w.heap.size w [] (λv R'=> ∃(b:List Int) (A:Option Addr) (c:Nat),v=sl A s.length c/\b.Perm (iota s.length)/\b.Pairwise (bU s)/\R'=[(ri 3 A s.length c b)]):=by
 obtain rfl:=ba.lenI;refine fn1 Tryz.func265 Z Z Z ?_;have ub:=ba.max;refine wq<|wn Z<|wq<|wm Z<|wa (aF aXw Z (Ct.fresh (λw hw=>UZ ((ba.c _) w hw) cE))) ?_;rintro _ _ ⟨_,rfl,bx,br,rfl,rfl⟩;refine wn Z<|wq<|wm Z<|wm Z<|wm Z<|wa (aF aXv Z (Ct.fresh (λw hw=>aCw ((ba.c _) w hw) ((rdr 0 Z) w hw) cx (.refl _) hN))) ?_;rintro _ _ ⟨_,rfl,ij,io,rfl,rfl⟩;refine wm Z<|wX Z Z<|wX Z Z<|wg Z<|wn Z<|aG<|wq<|wm Z<|wy (aQ aa Z)<|wL Z Z<|aA<|bJ Z (λaq=> ?_) (λaq=> ?_)
 ·refine wq<|wm Z<|wn Z<|aT [0] 99 cC Z ?_;refine⟨_,Z,?_⟩;exact⟨_,_,_,Z,(vQ cx.1.1 cx.2 (.refl _)).2.1,(vQ cx.1.1 cx.2 (.refl _)).2.2.2 (aNe G),Z⟩
 ·have dd:0<s.length:=by have:=IW (s:=s);omega
  have Ps:=aAa cx.1.1 cx.2 (l:=bM s) (.refl _) dd;have Rz:Nn s:=λx hx=>(cx.2 x hx).1;have Ph:=aIh dd;refine aJ<|wq<|wm Z<|wm Z<|wm Z<|wa (aF bDr Z (Ct.fresh (λw hw=>aOd ((ba.c _) w hw) ((rdr 1 Z) w hw) ((rdr 0 Z) w hw) Rz Z Ps.1 Ps.2 hN))) ?_;rintro _ _ ⟨_,rfl,nx,nm,n,la,fk,nv,rfl,hNx,Tb,rfl⟩;refine wm Z<|wX Z Z<|wX Z Z<|wg Z<|wn Z<|wq<|dH (R1:=[(ri 3 none 0 0 ([])),(ri 3 fk ((bM s).length) nv ((bM s).map (rd nm))),(ri 3 ij ((s).length) io (pJ s k (bM s))),(ri 3 bx ((bM s).length) br (bM s))]) (Sub.refl _) (λ_ h=>h.nil 3 1)<|wn Z<|aG<|wq<|wm Z ?_;refine wm Z<|wa (aF aXy Z (Ct.fresh (λw hw=>IH ((rdr 1 Z) w hw) (by rw[bi];exact Ph) ⟨by have:=Tb.bd;omega,aOc Tb Ps.1⟩ (by rw[bi];omega)))) ?_;rintro _ _ ⟨_,rfl,b1,fc,ci,rfl,de,fi,rfl⟩;refine wy (aQ aa Z)<|wm Z<|aA<|aI ?_;refine jN (λ(A1:Option Addr) (n1:Nat) (c1:Nat) (acc:List Int) (i:Int)=>[(0,sl bp s.length bo),(1,I k),(5,sl bx ((bM s).length) br),(10,sl A1 n1 c1),(35,sl fc (((bM s).map (rd nm)).length) ci),(36,I ((((bM s).map (rd nm)).length:Nat):Int)),(37,I i)]) (λA1 n1 c1 acc i=>[(ri 3 fc (((bM s).map (rd nm)).length) ci b1),(ri 3 A1 n1 c1 acc),(ri 3 fk ((bM s).length) nv ((bM s).map (rd nm))),(ri 3 ij ((s).length) io (pJ s k (bM s))),(ri 3 bx ((bM s).length) br (bM s))]) (λA1 n1 c1 acc i=>(n1=acc.length)/\(0<=i)/\(i<=b1.length)/\(acc=(b1.take i.toNat).map (rd (bM s)))) (λA1 n1 c1 acc i=>(b1.length-i).toNat) ?_ ?_
  ·exact⟨none,0,0,[],0,⟨(Z),G,G,(Z)⟩,SA,λ_ h=>h⟩
  intro A1 n1 c1 acc i ⟨dd,ar,ia,bb⟩;have Uj:((bM s).map (rd nm)).length=(bM s).length:=bi _;have xt:b1.length=(bM s).length:=by rw[de.length_eq,bF,bi]
  have wb:=bz List.length bb;rw[bi,ax] at wb
  have rj:i<b1.length->0<=rd b1 i/\rd b1 i<(bM s).length:=λh=>by
   have:=aW.1 (de.subset (bH (L:=b1) ar h));rwa[bi] at this
  refine wq<|wL Z Z<|aA<|aG<|bJ Z (λcr=> ?_) (λcr=> ?_)
  ·refine aJ<|aG<|aI<|wq<|wy (aH aa sz3 Z Z (rdr 0 Z))<|wy (aX ak Z Z (rdr 0 Z))<|wn Z<|aM<|wm Z<|wm Z<|wm Z<|wy (aH aa sz3 Z Z (rdr 4 Z))<|wy (aX ak Z Z (rdr 4 Z)) ?_;refine wa (bS .i64 [rd (bM s) (rd b1 i)] aa zs3 Z Z Z) ?_;rintro _ _ ⟨An,rfl,rfl⟩;refine wa (bE 2 Z aa zb3 Z Z Z (rdr 0 Z)) ?_;rintro _ _ ⟨ff,fg,rfl,rfl⟩;refine bN (v:=sl ff (n1+1) fg) Z<|wn Z<|aM<|wA Z Z<|wm Z<|aA ?_;exact⟨ff,n1+1,fg,acc++([rd (bM s) (rd b1 i)]),i+1,⟨(by rw[ah,dd];try rfl),G,G,(by rw[dD ar G,jh,bb];rfl)⟩,G,SA,λ_ h=>h.sel [1,2,3,4,5] cC Z⟩
  ·have Og:acc=b1.map (rd (bM s)):=by rw[bb,bn G]
   have hr:=aMq Rz Tb Ps.1 Ps.2 hNx de fi;have Mh:acc.Perm (bM s):=by rw[Og];exact hr.1
   have hao:acc.Pairwise (bU s):=by rw[Og];exact hr.2
   refine aZ<|wq<|wm Z<|wm Z<|wm Z<|wa (aF aXv Z (Ct.fresh (λw hw=>aCw ((ba.c _) w hw) ((rdr 1 Z) w hw) cx Mh hN))) ?_;rintro _ _ ⟨_,rfl,g8,i8,rfl,rfl⟩;refine wm Z<|wX Z Z<|wX Z Z<|wn Z<|wq<|wm Z<|wn Z<|aT [0] 99 cC Z ?_;refine⟨_,Z,?_⟩;exact⟨_,_,_,Z,(vQ cx.1.1 cx.2 Mh).2.1,(vQ cx.1.1 cx.2 Mh).2.2.2 hao,Z⟩
theorem aGc (m:Nat): ∀ {w:World} {bp:Option Addr} {eh bo:Nat} {s:List Int} {k:Int},Rd w bp eh bo 1 (ints .i64 s)->s.length<m->((0<=k/\k<=1048576)/\ ∀x∈s,0<=x/\x<k)->s.length<=1000000->
  Ct Tryz.prog 265 #[sl bp eh bo,I k] w.heap.size w [] (λv R'=> ∃(b:List Int) (A:Option Addr) (c:Nat),v=sl A s.length c/\b.Perm (iota s.length)/\b.Pairwise (bU s)/\R'=[(ri 3 A s.length c b)]):=by
 induction m with
 |zero=>intro w A n c s k _ h;omega
 |succ m ih=>
  intro w A n c s k ba hm cx hN;exact KJ ba (λh1 h2 h3 h4=>ih h1 G h3 h4) cx hN
theorem KN {s:List Int} (ba:Rd w bp eh bo 1 (ints .i64 s)) (cx:(0<=k/\k<=1048576)/\ ∀x∈s,0<=x/\x<k) (hN:s.length<=1000000):
  Ct Tryz.prog 265 #[sl bp eh bo,I k] w.heap.size w [] (λv R'=> ∃(b:List Int) (A:Option Addr) (c:Nat),v=sl A s.length c/\b.Perm (iota s.length)/\b.Pairwise (bU s)/\R'=[(ri 3 A s.length c b)]):=aGc (s.length+1) ba G cx hN
theorem aLw {s:List Int} (ba:Rd w bp eh bo 1 (ints .i64 s)) (cx:(0<=k/\k<=1048576)/\ ∀x∈s,0<=x/\x<k) (hN:s.length<=100000):
  Ct Tryz.prog 219 #[sl bp eh bo,I k] w.heap.size w [] (λv R'=> ∃(b:List Int) (A:Option Addr) (c:Nat),v= .tuple #[sl A s.length c,I 0]/\b.Perm (iota s.length)/\b.Pairwise (bU s)/\R'=[(ri 3 A s.length c b)]):=by
 obtain rfl:=ba.lenI;refine fn2 Tryz.func219 Z Z Z ?_;have ub:=ba.max;refine wq<|wg Z<|wn Z<|aG<|wq<|wm Z<|wy (aQ aa Z)<|wy (Yl.f (dV Z Z))<|aA<|aL Z<|aJ<|aG ?_;refine wq<|wm Z<|wm Z<|wa (aF VP Z (Ct.fresh (λw hw=>nI ((ba.c _) w hw) cE))) ?_;rintro _ _ ⟨_,rfl,bx,br,rfl,rfl⟩;refine wm Z<|wX Z Z<|wX Z Z<|wg Z<|wn Z<|wq<|wm Z<|wy (dI Z)<|aA<|aL Z<|aJ<|wq ?_;refine wm Z<|wm Z<|wa (aF aXy Z (Ct.fresh (λw hw=>KN ((ba.c _) w hw) cx G))) ?_;rintro _ _ ⟨_,rfl,b1,kd,km,rfl,de,fi,rfl⟩;refine wg Z<|wn Z<|aT [0] 99 cC Z ?_;refine⟨_,_,Z,Z,?_⟩;exact⟨b1,_,_,Z,de,fi,Z⟩
theorem MG {ao:Option Addr} {ap an:Nat} {u:List Int} (am:Rd w ao ap an 1 (ints .u8 u)) (ac:aO u) (hN:u.length<=100000):
  Ct Tryz.prog 146 #[sl ao ap an] w.heap.size w [] (λv R'=> ∃(b:List Int) (A:Option Addr) (c:Nat),v= .tuple #[sl A u.length c,I 0]/\b.Perm (iota u.length)/\b.Pairwise (bU u)/\R'=[(ri 3 A u.length c b)]):=by
 obtain rfl:=am.lenI;refine fn2 Tryz.func146 Z Z Z ?_;have pd:=am.max;refine wq<|wg Z<|wn Z<|wq<|dH (R1:=[(ri 3 none 0 0 ([]))]) (Sub.refl _) (λ_ h=>h.nil 3 1)<|wn Z<|aG<|wq<|wm Z<|wy (aQ ai Z) ?_;refine wy (Yl.t (vT Z Z) G)<|aA<|bO Z<|aG<|wq<|wm Z<|wy (aQ ai Z)<|wm Z<|aA<|aI ?_;refine jN (λ(A1:Option Addr) (n1:Nat) (c1:Nat) (acc:List Int) (i:Int)=>[(4,sl A1 n1 c1),(10,sl ao u.length an),(11,I ((u.length:Nat):Int)),(12,I i)]) (λA1 n1 c1 acc i=>[(ri 3 A1 n1 c1 acc)]) (λA1 n1 c1 acc i=>(n1=acc.length)/\(0<=i)/\(i<=u.length)/\(acc=u.take i.toNat)) (λA1 n1 c1 acc i=>(u.length-i).toNat) ?_ ?_
 ·exact⟨none,0,0,[],0,⟨(Z),G,G,(Z)⟩,SA,λ_ h=>h⟩
 intro A1 n1 c1 acc i ⟨dd,ar,ia,bb⟩;have wb:=bz List.length bb;rw[ax] at wb;refine wq<|wL Z Z<|aA<|aG<|bJ Z (λaq=> ?_) (λaq=> ?_)
 ·have rj:=ac.rd i;refine aJ<|aG<|aI<|wq<|wy (aH ai sz5 Z Z (am.c _))<|wy (aX cz Z Z (am.c _))<|wn Z<|aM<|wm Z<|wm Z<|wy (iV cz ak Z)<|wa (bS .i64 [rd u i] aa zs3 Z Z Z) ?_;rintro _ _ ⟨cv,rfl,rfl⟩;refine wa (bE 1 Z aa zb3 Z Z Z (rdr 0 Z)) ?_;rintro _ _ ⟨ij,io,rfl,rfl⟩;refine bN (v:=sl ij (n1+1) io) Z<|wn Z<|aM<|wA Z Z<|wm Z<|aA ?_;exact⟨ij,n1+1,io,acc++([rd u i]),i+1,⟨(by rw[ah,dd];try rfl),G,G,(by rw[dD ar G,bb])⟩,G,SA,λ_ h=>h.sel [1] cC Z⟩
 ·have Ws:acc=u:=by rw[bb,bn G]
  refine aZ<|wq<|wm Z<|wa (aF bEm Z (Ct.fresh (λw hw=>aLw ((rdr 0 Z) w hw) ⟨G,λx hx=>by rw[Ws] at hx;have:=ac x hx;omega⟩ G))) ?_;rintro _ _ ⟨_,rfl,b1,fh,nf,rfl,de,fi,rfl⟩;refine wX Z Z<|wX Z Z<|wg Z<|wn Z<|aT [0] 99 cC Z ?_;refine⟨_,_,Z,Z,?_⟩;subst Ws;exact⟨b1,_,_,Z,de,fi,Z⟩
variable {B g ap an:Nat} {w0:World} {R:List Row} {a0 a1 a2:Int} {ao:Option Addr} {u:List Int}
theorem aBz (hr:0<=a0/\a0<1000000):
  Ct Tryz.prog 149 #[PG g,I 1] B w0 ((rc 138 3 g [I a0,I a1,I a2])::R) (λv R'=>v=I (a0+1)/\R'=(rc 138 3 g [I (a0+1),I a1,I a2])::R):=by
 refine fn1 Hw Z Z Z ?_;refine wq<|wn Z<|wq<|wm Z<|wy (aD Z)<|wy (aB (off:=0) (m:=0) underlying135 Z sz2 Z Z Z)<|wm Z<|wa (aFl Z (λw hw=>⟨_,Er (P:=Tryz.prog) Tryz.func222 cA cA cA .i64 cA (y:=1) (s:=a0+1) (hw.cellAt 0 (r:=(rc 138 3 g [I a0,I a1,I a2])) (j:=0) Z Z Z) (hw.openAt 0 (r:=(rc 138 3 g [I a0,I a1,I a2])) 0 Z Z Z) (by have:IntKind.i64.wrap (a0+1)=a0+1:=(by rw[Av];omega);simp[Op.intArith,this]),hw.set1 0 (r:=(rc 138 3 g [I a0,I a1,I a2])) (j:=0) (v:=I (a0+1)) Z Z Z⟩)) ?_;rintro _ _ ⟨rfl,rfl⟩;refine wn Z<|dF ?_;refine⟨_,Z,?_⟩;exact⟨Z,Z⟩
theorem aBy (hr:0<=a1/\a1<1000000):
  Ct Tryz.prog 149 #[.pointer (some ⟨g,1,none⟩),I 1] B w0 ((rc 138 3 g [I a0,I a1,I a2])::R) (λv R'=>v=I (a1+1)/\R'=(rc 138 3 g [I a0,I (a1+1),I a2])::R):=by
 refine fn1 Hw Z Z Z ?_;refine wq<|wn Z<|wq<|wm Z<|wy (aD Z)<|wy (aB (off:=0) (m:=1) underlying135 Z sz2 Z Z Z)<|wm Z<|wa (aFl Z (λw hw=>⟨_,Er (P:=Tryz.prog) Tryz.func222 cA cA cA .i64 cA (y:=1) (s:=a1+1) (hw.cellAt 0 (r:=(rc 138 3 g [I a0,I a1,I a2])) (j:=1) Z Z Z) (hw.openAt 0 (r:=(rc 138 3 g [I a0,I a1,I a2])) 1 Z Z Z) (by have:IntKind.i64.wrap (a1+1)=a1+1:=(by rw[Av];omega);simp[Op.intArith,this]),hw.set1 0 (r:=(rc 138 3 g [I a0,I a1,I a2])) (j:=1) (v:=I (a1+1)) Z Z Z⟩)) ?_;rintro _ _ ⟨rfl,rfl⟩;refine wn Z<|dF ?_;refine⟨_,Z,?_⟩;exact⟨Z,Z⟩
theorem aBx (hr:0<=a2/\a2<1000000):
  Ct Tryz.prog 149 #[.pointer (some ⟨g,2,none⟩),I 1] B w0 ((rc 138 3 g [I a0,I a1,I a2])::R) (λv R'=>v=I (a2+1)/\R'=(rc 138 3 g [I a0,I a1,I (a2+1)])::R):=by
 refine fn1 Hw Z Z Z ?_;refine wq<|wn Z<|wq<|wm Z<|wy (aD Z)<|wy (aB (off:=0) (m:=2) underlying135 Z sz2 Z Z Z)<|wm Z<|wa (aFl Z (λw hw=>⟨_,Er (P:=Tryz.prog) Tryz.func222 cA cA cA .i64 cA (y:=1) (s:=a2+1) (hw.cellAt 0 (r:=(rc 138 3 g [I a0,I a1,I a2])) (j:=2) Z Z Z) (hw.openAt 0 (r:=(rc 138 3 g [I a0,I a1,I a2])) 2 Z Z Z) (by have:IntKind.i64.wrap (a2+1)=a2+1:=(by rw[Av];omega);simp[Op.intArith,this]),hw.set1 0 (r:=(rc 138 3 g [I a0,I a1,I a2])) (j:=2) (v:=I (a2+1)) Z Z Z⟩)) ?_;rintro _ _ ⟨rfl,rfl⟩;refine wn Z<|dF ?_;refine⟨_,Z,?_⟩;exact⟨Z,Z⟩
theorem WG {w:World}:
  Ct Tryz.prog 47 #[] w.heap.size w [] (λv R'=> ∃g,v=PG g/\R'=[(rc 138 3 g [I 0,I 0,I 0])]):=by
 refine fn1 Tryz.func47 Z Z Z ?_;refine wq<|wn Z<|wq<|wy (dU (v:= .agg #[I 0,I 0,I 0]) Z (λw=>cA))<|wa (bY (sz:=3) rfl rfl) ?_;rintro _ _ ⟨al,rfl,rfl⟩;refine wn Z<|aT [0] 99 cC Z ?_;refine⟨_,Z,?_⟩;exact⟨_,Z,Z⟩
theorem KZ (am:RdC B w0 R ao ap an 1 (ints .u8 u)) (bl:ap=u.length) (ac:aO u) (hN:u.length<=100000) (ha:0<=a0/\a0<1000000):
  Ct Tryz.prog 84 #[PG g,I 0,sl ao ap an] B w0 ((rc 138 3 g [I a0,I a1,I a2])::R) (λv R'=> ∃(b:List Int) (A:Option Addr) (c:Nat),v= .tuple #[sl A u.length c,I 0]/\b.Perm (iota u.length)/\b.Pairwise (bU u)/\R'=(ri 3 A u.length c b)::(rc 138 3 g [I (a0+1),I a1,I a2])::R):=by
 subst bl;refine fn2 Gb Z Z Z ?_;refine wq<|wg Z<|wn Z<|aG<|wq<|wm Z<|wy (dA underlying76 Z Z)<|wm Z<|aC Z Z<|wm Z<|aC Z Z<|wy (Yl.f (eO Z Z) cC) ?_;refine wy (aR Z Z)<|wm Z<|aC Z Z<|wm Z<|aC Z Z<|wy (Yl.f (jF Z Z) cC)<|wy (aR Z Z)<|aA<|aL Z<|aJ<|wq<|wy (dU (v:= .agg #[.func (.func 146) #[] #[], .func (.func 147) #[] #[], .func (.func 148) #[] #[]]) Z (λw=>cA))<|wm rfl<|wy (aYx (v:= .func (.func 146) #[] #[]) rfl rfl (λw=>cA)) ?_;refine wn Z<|wq<|wm Z<|wm Z<|wa (JZ aYg Z Z (Ct.fresh (λw hw=>MG ((RdC.right am [_]) w hw) ac hN))) ?_;rintro _ _ ⟨_,rfl,b1,bx,br,rfl,de,fi,rfl⟩;refine wm Z<|wX Z Z<|wX Z Z<|wg Z<|wn Z<|aG<|wq<|wm Z<|wy (Yl.t (bC Z Z) cC)<|aA<|bO Z<|aM<|wm Z ?_;refine wm Z<|wy (aD Z)<|wy (aB (off:=0) (m:=0) underlying138 Z aLr Z Z Z)<|wy (dC (q:=0) (rdr 1 Z) underlying136 aLs Z Z (au Z) cC cC Z)<|wa (aF aQm Z (Ct.at 1 Z (aBz G))) ?_;rintro _ _ ⟨rfl,rfl⟩;refine aA<|wq<|wm Z<|wm Z<|wg Z<|wn Z<|bR (R1:=((ri 3 bx u.length br b1)::(rc 138 3 g [I (a0+1),I a1,I a2])::R)) (λ_ h=>h) ?_;refine⟨_,_,Z,Z,?_⟩;exact⟨b1,_,_,Z,de,fi,Z⟩
theorem KY (am:RdC B w0 R ao ap an 1 (ints .u8 u)) (bl:ap=u.length) (ac:aO u) (hN:u.length<=100000) (ha:0<=a1/\a1<1000000):
  Ct Tryz.prog 84 #[PG g,I 1,sl ao ap an] B w0 ((rc 138 3 g [I a0,I a1,I a2])::R) (λv R'=> ∃(b:List Int) (A:Option Addr) (c:Nat),v= .tuple #[sl A u.length c,I 0]/\b.Perm (iota u.length)/\b.Pairwise (bU u)/\R'=(ri 3 A u.length c b)::(rc 138 3 g [I a0,I (a1+1),I a2])::R):=by
 subst bl;refine fn2 Gb Z Z Z ?_;refine wq<|wg Z<|wn Z<|aG<|wq<|wm Z<|wy (dA underlying76 Z Z)<|wm Z<|aC Z Z<|wm Z<|aC Z Z<|wy (Yl.f (eO Z Z) cC) ?_;refine wy (aR Z Z)<|wm Z<|aC Z Z<|wm Z<|aC Z Z<|wy (Yl.f (jF Z Z) cC)<|wy (aR Z Z)<|aA<|aL Z<|aJ<|wq<|wy (dU (v:= .agg #[.func (.func 146) #[] #[], .func (.func 147) #[] #[], .func (.func 148) #[] #[]]) Z (λw=>cA))<|wm rfl<|wy (aYx (v:= .func (.func 147) #[] #[]) rfl rfl (λw=>cA)) ?_;refine wn Z<|wq<|wm Z<|wm Z<|wa (JZ bFb Z Z (Ct.fresh (λw hw=>aHx ((RdC.right am [_]) w hw) ac hN))) ?_;rintro _ _ ⟨_,rfl,b1,bx,br,rfl,de,fi,rfl⟩;refine wm Z<|wX Z Z<|wX Z Z<|wg Z<|wn Z<|aG<|wq<|wm Z<|wy (Yl.t (bC Z Z) cC)<|aA<|bO Z<|aM<|wm Z ?_;refine wm Z<|wy (aD Z)<|wy (aB (off:=0) (m:=0) underlying138 Z aLr Z Z Z)<|wy (dC (q:=1) (rdr 1 Z) underlying136 aLs Z Z (au Z) cC cC Z)<|wa (aF aQm Z (Ct.at 1 Z (aBy G))) ?_;rintro _ _ ⟨rfl,rfl⟩;refine aA<|wq<|wm Z<|wm Z<|wg Z<|wn Z<|bR (R1:=((ri 3 bx u.length br b1)::(rc 138 3 g [I a0,I (a1+1),I a2])::R)) (λ_ h=>h) ?_;refine⟨_,_,Z,Z,?_⟩;exact⟨b1,_,_,Z,de,fi,Z⟩
theorem KX (am:RdC B w0 R ao ap an 1 (ints .u8 u)) (bl:ap=u.length) (ac:aO u) (hN:u.length<=100000) (ha:0<=a2/\a2<1000000):
  Ct Tryz.prog 84 #[PG g,I 2,sl ao ap an] B w0 ((rc 138 3 g [I a0,I a1,I a2])::R) (λv R'=> ∃(b:List Int) (A:Option Addr) (c:Nat),v= .tuple #[sl A u.length c,I 0]/\b.Perm (iota u.length)/\b.Pairwise (bU u)/\R'=(ri 3 A u.length c b)::(rc 138 3 g [I a0,I a1,I (a2+1)])::R):=by
 subst bl;refine fn2 Gb Z Z Z ?_;refine wq<|wg Z<|wn Z<|aG<|wq<|wm Z<|wy (dA underlying76 Z Z)<|wm Z<|aC Z Z<|wm Z<|aC Z Z<|wy (Yl.f (eO Z Z) cC) ?_;refine wy (aR Z Z)<|wm Z<|aC Z Z<|wm Z<|aC Z Z<|wy (Yl.f (jF Z Z) cC)<|wy (aR Z Z)<|aA<|aL Z<|aJ<|wq<|wy (dU (v:= .agg #[.func (.func 146) #[] #[], .func (.func 147) #[] #[], .func (.func 148) #[] #[]]) Z (λw=>cA))<|wm rfl<|wy (aYx (v:= .func (.func 148) #[] #[]) rfl rfl (λw=>cA)) ?_;refine wn Z<|wq<|wm Z<|wm Z<|wa (JZ bFa Z Z (Ct.fresh (λw hw=>aBk ((RdC.right am [_]) w hw) ac hN))) ?_;rintro _ _ ⟨_,rfl,o1,bx,br,rfl,m6,n9,rfl⟩;refine wm Z<|wX Z Z<|wX Z Z<|wg Z<|wn Z<|aG<|wq<|wm Z<|wy (Yl.t (bC Z Z) cC)<|aA<|bO Z<|aM<|wm Z ?_;refine wm Z<|wy (aD Z)<|wy (aB (off:=0) (m:=0) underlying138 Z aLr Z Z Z)<|wy (dC (q:=2) (rdr 1 Z) underlying136 aLs Z Z (au Z) cC cC Z)<|wa (aF aQm Z (Ct.at 1 Z (aBx G))) ?_;rintro _ _ ⟨rfl,rfl⟩;refine aA<|wq<|wm Z<|wm Z<|wg Z<|wn Z<|bR (R1:=((ri 3 bx u.length br o1)::(rc 138 3 g [I a0,I a1,I (a2+1)])::R)) (λ_ h=>h) ?_;refine⟨_,_,Z,Z,?_⟩;obtain⟨b,hb,hs⟩:=nW u;obtain rfl:=places hb hs m6 n9;exact⟨o1,_,_,Z,hb,hs,Z⟩
variable {B g ap an:Nat} {w0:World} {R:List Row} {a0 a1 a2 so:Int} {ao:Option Addr} {u:List Int}
theorem DU (am:RdC B w0 R ao ap an 1 (ints .u8 u)) (bl:ap=u.length) (hb:so<0\/2<so):
  Ct Tryz.prog 84 #[PG g,I so,sl ao ap an] B w0 ((rc 138 3 g [I a0,I a1,I a2])::R) (λv R'=>v= .tuple #[sl none 0 0,I 1]/\R'=(rc 138 3 g [I a0,I a1,I a2])::R):=by
 subst bl;refine fn2 Gb Z Z Z ?_;refine wq<|wg Z<|wn Z<|aG<|wq<|wm Z<|wy (dA underlying76 Z Z)<|wm Z<|aC Z Z<|wm Z<|aC Z Z<|wL Z Z ?_;refine wy (aR Z Z)<|wm Z<|dQ 3 [(0,PG g),(1,I so),(2,sl ao u.length an),(20, .bool (decide ((so<0)\/(3<=so))))] ((rc 138 3 g [I a0,I a1,I a2])::R) ?_ ?_
 ·refine cK 17 Z (λaq=> ?_) (λaq=> ?_)
  ·refine aP Z Z Z Z<|aP Z Z Z Z<|wy (aY Z Z)<|aA ?_;exact⟨SA,λ_ h=>h⟩
  ·refine aC Z Z<|wm Z<|aC Z Z<|wy (jF Z Z)<|wy (aR Z Z)<|aA ?_;exact⟨SA,λ_ h=>h⟩
 refine kK 20 Z G<|aA<|bO Z<|wq<|wg Z<|wn Z<|dF ?_;refine⟨_,_,Z,Z,?_⟩;exact⟨Z,Z⟩
theorem DV (am:RdC B w0 R ao ap an 1 (ints .u8 u)) (bl:ap=u.length) (ac:aO u) (hN:u.length<=100000) (ha:(0<=a0/\a0<1000000)/\(0<=a1/\a1<1000000)/\(0<=a2/\a2<1000000)):
  Ct Tryz.prog 84 #[PG g,I so,sl ao ap an] B w0 ((rc 138 3 g [I a0,I a1,I a2])::R) (λv R'=> ∃(b:List Int) (A:Option Addr) (c:Nat) (e d0 d1 d2:Int),v= .tuple #[sl A b.length c,I e]/\
   (((so<0\/2<so)/\e=1/\b=[]/\d0=a0/\d1=a1/\d2=a2)\/(¬(so<0\/2<so)/\e=0/\b.Perm (iota u.length)/\b.Pairwise (bU u)/\[d0,d1,d2]=upd [a0,a1,a2] so (rd [a0,a1,a2] so+1)/\(d0<=a0+1/\0<=d0)/\(d1<=a1+1/\0<=d1)/\(d2<=a2+1/\0<=d2)))/\R'=(ri 3 A b.length c b)::(rc 138 3 g [I d0,I d1,I d2])::R):=by
 by_cases hb:so<0\/2<so
 ·intro w hw;refine(DU (u:=u) am bl hb w hw).mono ?_;rintro e w' ⟨v,R',he,hh,hv,hr⟩;subst hr;exact⟨v,_,he,hh.nil 3 1,[],none,0,1,a0,a1,a2,hv, .inl ⟨hb,Z,Z,Z,Z,Z⟩,Z⟩
 ·have hlen: ∀b:List Int,b.Perm (iota u.length)->u.length=b.length:=λb h=>by rw[h.length_eq,bF]
  rcases(by omega:so=0\/so=1\/so=2) with rfl|rfl|rfl
  ·refine (KZ am bl ac hN ha.1).mono ?_;rintro v R' ⟨b,A,c,hv,hp,hs,hr⟩;rw[hlen b hp] at hv hr;exact⟨b,A,c,0,a0+1,a1,a2,hv, .inr ⟨hb,Z,hp,hs,Z,G,G,G⟩,hr⟩
  ·refine (KY am bl ac hN ha.2.1).mono ?_;rintro v R' ⟨b,A,c,hv,hp,hs,hr⟩;rw[hlen b hp] at hv hr;exact⟨b,A,c,0,a0,a1+1,a2,hv, .inr ⟨hb,Z,hp,hs,Z,G,G,G⟩,hr⟩
  ·refine (KX am bl ac hN ha.2.2).mono ?_;rintro v R' ⟨b,A,c,hv,hp,hs,hr⟩;rw[hlen b hp] at hv hr;exact⟨b,A,c,0,a0,a1,a2+1,hv, .inr ⟨hb,Z,hp,hs,Z,G,G,G⟩,hr⟩
end Go.Proofs.YtdbebmmhdefgdaaGreat
namespace Go.Pure
open Go Go.Eng
section
variable {p:List Int}
def fK (p:List Int):Nat->List Bool->Int->List Int × List Bool
 |0,E,_=>([],E)
 |f+1,E,k=>if rdb E k=true then([],E) else(k::(fK p f (oO E k true) (rd p k)).1,(fK p f (oO E k true) (rd p k)).2)
def cntF (E:List Bool):Nat:=E.countP λb=> !b
theorem aRc (n:Nat):cntF (List.replicate n false)=n:=by unfold cntF;rw[List.countP_replicate];simp
theorem zO {E:List Bool} {k:Int} (k0:0<=k) (hk:k<E.length) (h:rdb E k≠true):cntF (oO E k true)+1=cntF E:=by
 have aw:k.toNat<E.length:=G
 have e:E[k.toNat]=false:=by
  have h2:rdb E k=E[k.toNat]:=by unfold rdb;rw[af,av aw];rfl
  rw[h2] at h;simpa using h
 unfold cntF oO;rw[List.countP_set aw,e];simp only[Di,Bool.not_false,uu,wu,Ii,qa];have:0<E.countP λb=> !b:=List.countP_pos_iff.2 ⟨E[k.toNat],kz aw,by rw[e];rfl⟩;omega
theorem rU {f:Nat} {E:List Bool} {k:Int} (h:rdb E k=true):fK p f E k=([],E):=by
 cases f with
 |zero=>rfl
 |succ f=>rw[fK,cu h]
theorem JI {E:List Bool} {k:Int} (k0:0<=k) (hk:k<E.length) (h:rdb E k≠true):0<cntF E:=by have:=zO k0 hk h;omega
theorem FB {f:Nat} {E:List Bool} {k:Int} (k0:0<=k) (hk:k<E.length) (hf:cntF E<=f) (h:rdb E k≠true):fK p f E k=(k::(fK p (f-1) (oO E k true) (rd p k)).1,(fK p (f-1) (oO E k true) (rd p k)).2):=by
 have:=JI k0 hk h;obtain⟨g,rfl⟩: ∃g,f=g+1:=⟨f-1,G⟩;rw[fK,bu h];rfl
def iC (p:List Int):Nat->List Bool × List (List Int)
 |0=>(List.replicate p.length false,[])
 |i+1=>((fK p p.length (iC p i).1 i).2,if (fK p p.length (iC p i).1 i).1=[] then(iC p i).2 else(iC p i).2++[(fK p p.length (iC p i).1 i).1])
def dX (p:List Int):List (List Int):=(iC p p.length).2
theorem pW (hp:p.Perm (iota p.length)): ∀(f:Nat) (E:List Bool) (k:Int),E.length=p.length->0<=k->k<p.length->(fK p f E k).2.length=p.length/\(∀x∈(fK p f E k).1,0<=x/\x<p.length)/\(fK p f E k).1.length+cntF (fK p f E k).2=cntF E
 |0,E,k,hl,_,_=>And.intro hl (And.intro (λx hx=>absurd hx (yf (a:=x))) (ni _))
 | f+1,E,k,hl,k0,hk=>by
  rw[fK];split
  ·exact And.intro hl (And.intro (λx hx=>absurd hx (yf (a:=x))) (ni _))
  ·rename_i h;have hn:=aW.1 (hp.subset (bH (L:=p) k0 hk));have ih:=pW hp f (oO E k true) (rd p k) (by rw[kF];exact hl) hn.1 hn.2;have hc:=zO k0 G h;refine⟨ih.1,λx hx=> ?_,?_⟩
   ·rcases jf.1 hx with rfl|hx
    ·exact⟨k0,hk⟩
    ·exact ih.2.1 x hx
   ·have:=ih.2.2;simp only[dm];omega
theorem kU (hp:p.Perm (iota p.length)): ∀i:Nat,i<=p.length->(iC p i).1.length=p.length/\(∀c∈(iC p i).2,∀x∈c,0<=x/\x<p.length)/\(iC p i).2.flatten.length+cntF (iC p i).1=p.length
 |0,_=>⟨by simp[iC],λc hc=>(by cases hc),by simp[iC,aRc]⟩
 | i +1,hi=>by
  have ih:=kU hp i G;have hw:=pW hp p.length (iC p i).1 i ih.1 G G;rw[iC];refine⟨hw.1,?_,?_⟩
  ·intro c hc x hx;split at hc
   ·exact ih.2.1 c hc x hx
   ·rcases fw.1 hc with hc|hc
    ·exact ih.2.1 c hc x hx
    ·obtain rfl:=jc.1 hc;exact hw.2.1 x hx
  ·split
   ·rename_i h;have h2:=hw.2.2;rw[h] at h2;have:=ih.2.2;simp only[jy] at h2;show(iC p i).2.flatten.length+cntF (fK p p.length (iC p i).1 i).2=p.length;omega
   ·rw [ow,ah];have h2:=hw.2.2;have:=ih.2.2;simp only[qm,Ha,jo];omega
theorem aEv (hp:p.Perm (iota p.length)): ∀c∈dX p,∀x∈c,0<=x/\x<p.length:=(kU hp p.length (dh _)).2.1
theorem aQx (hp:p.Perm (iota p.length)):(dX p).flatten.length<=p.length:=by have:=(kU hp p.length (dh _)).2.2;unfold dX;omega
theorem JE (p:List Int): ∀i:Nat,(iC p i).2.length<=i
 |0=>by simp[iC]
 |i+1=>by
  have:=JE p i;rw[iC];split
  ·exact Nat.le_succ_of_le this
  ·rw[ah];simp only[ic];omega
theorem aVz {i:Int} {E E2:List Bool} {ls:List (List Int)} {acc:List Int} (i0:0<=i) (Do:iC p i.toNat=(E,ls)) (Mv:fK p p.length E i=(acc,E2)) (da:acc≠[]):iC p (i+1).toNat=(E2,ls++[acc]):=by
 rw[show(i+1).toNat=i.toNat+1 by omega,iC,Do];simp only[show((i.toNat:Nat):Int)=i by omega,Mv,bu da]
theorem bAy {i:Int} {E E2:List Bool} {ls:List (List Int)} {acc:List Int} (i0:0<=i) (Do:iC p i.toNat=(E,ls)) (Mv:fK p p.length E i=(acc,E2)) (da:acc=[]):iC p (i+1).toNat=(E2,ls):=by
 rw[show(i+1).toNat=i.toNat+1 by omega,iC,Do];simp only[show((i.toNat:Nat):Int)=i by omega,Mv,cu da]
theorem XW (hp:p.Perm (iota p.length)) {f:Nat} {E E2:List Bool} {acc:List Int} {i k:Int} (hl:E.length=p.length) (i0:0<=i) (hi:i<p.length) (hw:(acc++(fK p f E2 k).1,(fK p f E2 k).2)=fK p p.length E i):acc.length<=p.length:=by
 have h:=(pW hp p.length E i hl i0 hi).2.2;rw[<-hw] at h;simp only[ah] at h;have:cntF E<=E.length:=List.countP_le_length;omega
def jU (l c:List Int):List Int:=c.reverse.map (rd l)
def backL (l:List Int) (cs:List (List Int)):List Int:=(cs.reverse.map (jU l)).flatten
theorem aBu {l:List Int} {cs:List (List Int)} {k:Nat} (hk:k<cs.length):(((cs.reverse).take (k+1)).map (jU l)).flatten=(((cs.reverse).take k).map (jU l)).flatten++jU l (rdl cs (cs.length-1-k)):=by
 have aw:k<cs.reverse.length:=by rw[oz];exact hk
 rw[qp,av aw,jh,ow];congr 1;simp only[Bz,kv,qi,qm,Ha,jo];congr 1;rw[Dr];unfold rdl;rw[af,av G];simp only[mh];congr 1;omega
theorem XT {l c:List Int} {k:Nat} (hk:k<c.length):((c.reverse).take (k+1)).map (rd l)=((c.reverse).take k).map (rd l)++[rd l (rd c (c.length-1-k))]:=by
 have aw:k<c.reverse.length:=by rw[oz];exact hk
 rw[qp,av aw,jh];congr 1;simp only[Bz,kv,qi];congr 2;rw[Dr,eQ G G];congr 1;omega
theorem mH (l c:List Int):(jU l c).length=c.length:=by simp[jU]
theorem UY {cs:List (List Int)}: ∀ {k:Nat} {l:List Int},(((cs.reverse).take k).map (jU l)).flatten.length<=cs.flatten.length:=by
 intro k l
 have h1:(((cs.reverse).take k).map (jU l)).flatten.length=(((cs.reverse).take k).map List.length).sum:=by
  rw[si,xz];congr 2;funext c;exact mH l c
 have h2:cs.flatten.length=((cs.reverse).map List.length).sum:=by rw[si,Hd,List.sum_reverse]
 rw[h1,h2]
 conv=>rhs;rw[<-gq k cs.reverse]
 rw[jh,Bq];omega
end
end Go.Pure
namespace Go.Proofs.YtdbebmmhdefgdaaGreat
open Go Go.Eng Go.Pure
open Tryz
set_option maxRecDepth 100000
variable {a V l s P acc u:List Int} {i:Int} {n Ma i9:Nat} {w:World} {g9:Option Addr}
theorem aHh (hd:a.Nodup) (i0:0<=i) (hi:i<a.length):rd a i∉a.take i.toNat:=λh=>by
 obtain⟨q,hq,e⟩:=gz.1 h;rw[ax] at hq;rw[Ai] at e;have:=jG hd (i:=(q:Int)) (j:=i) G G i0 hi (by rw[eQ (i:=(q:Int)) G G];simp only[az];exact e);omega
theorem aGl {E:List Bool} (i0:0<=i) (hi:i<a.length) (hl:E.length=n) (ha:0<=rd a i/\rd a i<n) (h: ∀x:Int,0<=x->x<n->(rdb E x=true↔x∈a.take i.toNat)): ∀x:Int,0<=x->x<n->(rdb (oO E (rd a i) true) x=true↔x∈a.take (i+1).toNat):=by
 intro x x0 x1;rw[dD i0 hi,vI ha.1 G x0,fw,jc];split
 ·rename_i e;exact⟨λ_=> .inr e,λ_=>rfl⟩
 ·rename_i e;rw[h x x0 x1];exact⟨.inl,λh=>h.resolve_right e⟩
theorem aPd (i0:0<=i) (hi:i<a.length) (hd:a.Nodup) (hl:V.length=n) (ha: ∀q:Int,0<=q->q<a.length->0<=rd a q/\rd a q<n) (h: ∀q:Int,0<=q->q<i->rd V (rd a q)=q): ∀q:Int,0<=q->q<i+1->rd (upd V (rd a i) i) (rd a q)=q:=by
 intro q q0 q1;have h1:=ha i i0 hi;have h2:=ha q q0 G;rw[fI h1.1 h2.1 G];split
 ·rename_i e;exact jG hd i0 hi q0 G e.symm
 ·rename_i e;refine h q q0 ?_;rcases ay q i with g|g
  ·exact g
  ·obtain rfl:q=i:=G
   exact absurd Z e
def fsL (l:List Int):List Int:=(iota l.length).map (lfC l)
theorem vR (l:List Int):(fsL l).length=l.length:=by unfold fsL;rw[bi,bF]
theorem YZ (i0:0<=i) (hi:i<l.length):rd (fsL l) i=lfC l i:=by
 unfold fsL;rw[uA i0 (by rw[bF];exact hi),vJ i0 hi]
theorem BC (hl:aO l):(bW (iota l.length) l (256:Int).toNat).length=l.length:=by
 have:=(jJ (l:=l) hl).1.length_eq;rwa[bF] at this
theorem aDq (hl:aO l):(bW (iota l.length) l (256:Int).toNat).Perm (iota (bW (iota l.length) l (256:Int).toNat).length):=by
 rw[BC hl];exact(jJ (l:=l) hl).1
theorem aXm (hl:aO l) (h1:V.length=(bW (iota l.length) l (256:Int).toNat).length) (h2: ∀q:Int,0<=q->q<(bW (iota l.length) l (256:Int).toNat).length->rd V (rd (bW (iota l.length) l (256:Int).toNat) q)=q):V=fsL l:=by
 rw[BC hl] at h1 h2;refine bI (by rw[h1,vR]) λj j0 j1=> ?_;rw[YZ j0 G];obtain⟨q,q0,q1,e,f⟩:=UK (l:=l) hl j0 G;rw[f,<-e];exact h2 q q0 q1
theorem aDx (i0:0<=i) (hi:i<a.length) (h:acc=P++ofT s (a.take i.toNat)) (h0:rd a i=0):acc=P++ofT s (a.take (i+1).toNat):=by
 rw[UA i0 hi,cu h0,jo];exact h
theorem aNz (i0:0<=i) (hi:i<a.length) (h:acc=P++ofT s (a.take i.toNat)) (h0: ¬rd a i=0):acc++[rd s (rd a i-1)]=P++ofT s (a.take (i+1).toNat):=by
 rw[UA i0 hi,bu h0,<-ig,h]
theorem aCf (hd:a.Nodup) (i0:0<=i) (hi:i<a.length) (h0:rd a i=0):i+1=zat (a.take (i+1).toNat):=by rw[QW hd i0 hi,cu h0]
theorem aKn {m:Int} (hd:a.Nodup) (i0:0<=i) (hi:i<a.length) (h:m=zat (a.take i.toNat)) (h0: ¬rd a i=0):m=zat (a.take (i+1).toNat):=by rw[QW hd i0 hi,bu h0];exact h
theorem aDy (s:List Int) (l:List Int):(ofT s l).length<=l.length:=by unfold ofT;rw[bi];exact yj _ _
set_option maxHeartbeats 800000 in
theorem PC (vx:Rd w g9 Ma i9 1 (ints .i64 a)) (hp:a.Perm (iota a.length)) (hN:a.length<=1000000):
  Ct Tryz.prog 150 #[sl g9 Ma i9] w.heap.size w [] (λv R'=> ∃A c V,v= .tuple #[sl A a.length c,bt]/\V.length=a.length/\(∀q:Int,0<=q->q<a.length->rd V (rd a q)=q)/\R'=[(ri 3 A a.length c V)]):=by
 obtain rfl:=vx.lenI;refine fn2 Tryz.func150 Z Z Z ?_;have Yk:=vx.max;have hnd:a.Nodup:=hp.symm.nodup (eT _);have iz: ∀q:Int,0<=q->q<a.length->0<=rd a q/\rd a q<a.length:=λq q0 q1=>aW.1 (hp.subset (bH q0 q1));refine wq<|wg Z<|wn Z<|wq<|wm Z<|wy (aQ aa Z)<|wa (dE aa zb3 Z Z) ?_;rintro _ _ ⟨al,rfl,rfl⟩;refine bN (v:=sl (GG al) a.length a.length) Z<|wn Z<|wq<|wm Z<|wy (aQ aa Z)<|wa (QR og zb4 Z Z G G G) ?_;rintro _ _ ⟨cv,rfl,rfl⟩;refine bN (v:=sl (GG cv) a.length a.length) Z<|wn Z<|aG<|wq<|wm Z<|wy (aQ aa Z)<|wm Z<|aA<|aI ?_;refine fU (λ(i:Int) (V:List Int) (E:List Bool)=>[(0,sl g9 a.length i9),(4,sl (GG al) a.length a.length),(5,sl (GG cv) a.length a.length),(14,sl g9 a.length i9),(15,I ((a.length:Nat):Int)),(16,I i)]) (λi V E=>[⟨4,1,(GG cv),a.length,a.length,bools E,false⟩,(ri 3 (GG al) a.length a.length V)]) (λi V E=>(0<=i)/\(i<=a.length)/\(V.length=a.length)/\(E.length=a.length)/\(∀x:Int,0<=x->x<a.length->(rdb E x=true↔x∈a.take i.toNat))/\(∀q:Int,0<=q->q<i->rd V (rd a q)=q)) (λi V E=>(a.length-i).toNat) ?_ ?_
 ·exact⟨0,List.replicate a.length (0:Int),List.replicate a.length false,⟨G,G,(by rw[bq]),(by rw[bq]),(λx h0 h1=>by rw[EJ];simp),(λq h0 h1=>G)⟩,SA,λ_ h=>h⟩
 intro i V E ⟨ar,ia,iu,Nx,hE,hV⟩;refine wq<|wL Z Z<|aA<|aG<|bJ Z (λaq=> ?_) (λaq=> ?_)
 ·have ha:=iz i ar G;have nj:=aHh hnd ar G;refine aJ<|aG<|aI<|wq<|wm Z<|wy (aH aa sz3 Z Z (vx.c _))<|wy (aX ak Z Z (vx.c _))<|wg Z<|wn Z<|aG<|wq<|wm Z ?_;refine wy (Yl.f (eO Z Z))<|wm Z<|aC Z Z<|wm Z<|aC Z Z<|wm Z<|aC Z Z<|wy (aQ aa Z)<|aC Z Z<|wy (Yl.f (jF Z Z))<|wy (aR Z Z)<|wm Z<|aC Z Z<|wm Z<|aC Z Z ?_;refine wm Z<|aC Z Z<|wy (aH og sz4 Z Z (rdr 0 Z))<|aC Z Z<|wy (Yl.f (CF Ar Z Z (rdr 0 Z)) (λh=>nj ((hE _ ha.1 ha.2).1 h)))<|wy (aR Z Z)<|aA<|aL Z<|aJ<|aM<|wm Z<|wm Z<|wm Z<|wm Z<|wm Z ?_;refine wy (aH aa sz3 Z Z (rdr 1 Z))<|bX (bG 1 Z sz3 Z Z) ?_;rintro _ _ rfl;refine wy (aH og sz4 Z Z (rdr 0 Z))<|bX (uS 0 Z sz4 Z Z) ?_;rintro _ _ rfl;refine aA<|aM<|wA Z Z<|wm Z<|aA ?_;exact⟨i+1,upd V (rd a i) i,oO E (rd a i) true,⟨G,G,(by rw[aV];exact iu),(by rw[kF];exact Nx),(aGl ar G Nx ha hE),(aPd ar G hnd iu iz hV)⟩,G,SA,λ_ h=>h⟩
 ·refine aZ<|wq<|wm Z<|wg Z<|wn Z<|aT [1] 99 cC Z ?_;refine⟨_,_,Z,Z,?_⟩;exact⟨_,_,V,Z,iu,λq h0 h1=>hV q h0 G,Z⟩
theorem aMm (vx:Rd w g9 Ma i9 1 (ints .i64 a)) (hp:a.Perm (iota a.length)) (hN:a.length<=1000000):
  Ct Tryz.prog 197 #[sl g9 Ma i9] w.heap.size w [] (λv R'=>v=bt):=by
 obtain rfl:=vx.lenI;refine fn1 Tryz.func197 Z Z Z ?_;have Yk:=vx.max;refine wq<|wn Z<|wq<|wm Z<|wa (aF aQl Z (Ct.fresh (λw hw=>PC ((vx.c _) w hw) hp hN))) ?_;rintro _ _ ⟨_,rfl,bx,br,inv,rfl,ti,tk,rfl⟩;refine wm Z<|wX Z Z<|wX Z Z<|wg Z<|wn Z<|wq<|wm Z<|wn Z<|aT [] 99 cC Z ?_;refine⟨_,Z,?_⟩;rfl
set_option maxHeartbeats 800000 in
theorem aVg {ao:Option Addr} {ap an:Nat} (am:Rd w ao ap an 1 (ints .u8 u)) (ac:aO u) (hN:u.length<=1000000):
  Ct Tryz.prog 184 #[sl ao ap an] w.heap.size w [] (λv R'=> ∃A c,v=sl A (fsL u).length c/\R'=[(ri 3 A ((fsL u).length) c (fsL u))]):=by
 obtain rfl:=am.lenI;refine fn1 Tryz.func184 Z Z Z ?_;have pd:=am.max;refine wq<|wn Z<|wq<|wm Z<|wy (aQ ai Z)<|wa (dE aa zb3 Z Z) ?_;rintro _ _ ⟨al,rfl,rfl⟩;refine bN (v:=sl (GG al) u.length u.length) Z<|wn Z<|wq<|wm Z<|wy (aQ ai Z)<|wa (dE aa zb3 Z Z) ?_;rintro _ _ ⟨cv,rfl,rfl⟩;refine bN (v:=sl (GG cv) u.length u.length) Z<|wn Z<|aG<|wq<|wm Z<|wy (aQ ai Z)<|wm Z<|aA<|aI ?_;refine fU (λ(i:Int) (V:List Int) (K:List Int)=>[(3,sl (GG al) u.length u.length),(4,sl (GG cv) u.length u.length),(15,sl ao u.length an),(16,I ((u.length:Nat):Int)),(17,I i)]) (λi V K=>[(ri 3 (GG cv) u.length u.length K),(ri 3 (GG al) u.length u.length V)]) (λi V K=>(0<=i)/\(i<=u.length)/\(V.length=u.length)/\(K.length=u.length)/\(∀j:Int,0<=j->j<i->rd V j=j)/\(∀j:Int,0<=j->j<i->rd K j=rd u j)) (λi V K=>(u.length-i).toNat) ?_ ?_
 ·exact⟨0,List.replicate u.length (0:Int),List.replicate u.length (0:Int),⟨G,G,(by rw[bq]),(by rw[bq]),(λj h1 h2=>G),(λj h1 h2=>G)⟩,SA,λ_ h=>h⟩
 intro i V K ⟨ar,ia,iu,Mg,hV,hK⟩;refine wq<|wL Z Z<|aA<|aG<|bJ Z (λaq=> ?_) (λaq=> ?_)
 ·have rj:=ac.rd i;refine aJ<|aG<|aI<|wq<|wm Z<|wy (aH ai sz5 Z Z (am.c _))<|wy (aX cz Z Z (am.c _))<|wg Z<|wn Z<|aM<|wm Z<|wm Z<|wm Z ?_;refine wm Z<|wm Z<|wm Z<|wy (iV cz ak Z)<|wy (aH aa sz3 Z Z (rdr 1 Z))<|bX (bG 1 Z sz3 Z Z) ?_;rintro _ _ rfl;refine wy (aH aa sz3 Z Z (rdr 0 Z))<|bX (bG 0 Z sz3 Z Z) ?_;rintro _ _ rfl;refine aA<|aM<|wA Z Z<|wm Z<|aA ?_;exact⟨i+1,upd V i i,upd K i (rd u i),⟨G,G,(by rw[aV];exact iu),(by rw[aV];exact Mg),(eG (f:=λj=>j) ar G hV Z),(eG (f:=λj=>rd u j) ar G hK Z)⟩,G,SA,λ_ h=>h⟩
 ·obtain rfl:V=iota u.length:=bI (by rw[bF];omega) λj h0 h1=>by rw[vJ h0 G];exact hV j h0 G
  obtain rfl:u=K:=(bI G λj h0 h1=>hK j h0 G:K=u).symm;refine aZ<|wq<|wm Z<|wm Z<|wa (aF JC Z (Ct.fresh (λw hw=>rZ ((rdr 1 Z) w hw) ((rdr 0 Z) w hw) G ac (λi hi=>aW.1 hi) (by rw[bF];omega)))) ?_;rintro _ _ ⟨_,rfl,ij,io,rfl,rfl⟩;refine wm Z<|wX Z Z<|wX Z Z<|wn Z<|wq<|wm Z<|wa (aF aQl Z (Ct.fresh (λw hw=>PC ((rdr 0 Z) w hw) (aDq ac) (by rw[BC ac];omega)))) ?_;rintro _ _ ⟨_,rfl,fh,nf,inv,rfl,ti,tk,rfl⟩;refine wm Z<|wX Z Z<|wX Z Z<|wg Z<|wn Z<|wq<|wm Z<|wn Z<|aT [0] 99 cC Z ?_;refine⟨_,Z,?_⟩;obtain rfl:inv=fsL u:=aXm ac ti tk;have el:(bW (iota u.length) u (256:Int).toNat).length=(fsL u).length:=by rw[BC ac,vR]
  rw[el];exact⟨_,_,Z,Z⟩
theorem aPn (hu:aO u):(fsL u).Perm (iota (fsL u).length):=by
 rw[vR];exact zW (λx h0 h1=>UL (l:=u) hu h0 h1) λx y x0 x1 y0 y1 e=>aOo (l:=u) hu x0 x1 y0 y1 e
set_option maxHeartbeats 1500000 in
theorem aJh {Qu:Option Addr} {Ys Qv:Nat} {p:List Int} (s6:Rd w Qu Ys Qv 1 (ints .i64 p)) (hp:p.Perm (iota p.length)) (hN:p.length<=1000000):
  Ct Tryz.prog 183 #[sl Qu Ys Qv] w.heap.size w [] (λv R'=> ∃(A:Option Addr) (c:Nat) (vals:List Value) (Rs:List Row),v= .tuple #[sl A vals.length c,bt]/\SlR .i64 Rs vals (dX p)/\R'=⟨52,1,A,vals.length,c,vals,false⟩::Rs):=by
 obtain rfl:=s6.lenI;refine fn2 Tryz.func183 Z Z Z ?_;have m_p:=s6.max;refine wq<|wg Z<|wn Z<|aG<|wq<|wm Z<|wa (aF aYd Z (Ct.quiet (λw hw=>aMm ((s6.c _) w hw) hp hN))) ?_;rintro _ _ ⟨rfl,rfl⟩;refine wy (dI Z)<|aA<|aL Z<|aJ<|wq<|wm Z<|wy (aQ aa Z)<|wa (QR og zb4 Z Z G G G) ?_;rintro _ _ ⟨al,rfl,rfl⟩;refine bN (v:=sl (GG al) p.length p.length) Z<|wn Z<|wq<|wa (nN [] underlying232 bBx Z Z Z Z) ?_;rintro _ _ ⟨dq,rfl,rfl⟩;refine wn Z<|aG<|wq<|wm Z<|wy (aQ aa Z)<|wm Z<|aA<|aI ?_;refine DZ (λ(i:Int) (A1:Option Addr) (n1:Nat) (c1:Nat) (vals:List Value) (ls:List (List Int)) (E:List Bool) (Rs:List Row)=>[(0,sl Qu p.length Qv),(4,sl (GG al) p.length p.length),(5,sl A1 n1 c1),(17,I ((p.length:Nat):Int)),(18,I i)]) (λi A1 n1 c1 vals ls E Rs=>(⟨52,1,A1,n1,c1,vals,false⟩::⟨4,1,(GG al),p.length,p.length,bools E,false⟩::Rs)) (λi A1 n1 c1 vals ls E Rs=>(0<=i)/\(i<=p.length)/\(n1=vals.length)/\(SlR .i64 Rs vals ls)/\(iC p i.toNat=(E,ls))) (λi A1 n1 c1 vals ls E Rs=>(p.length-i).toNat) ?_ ?_
 ·exact⟨0,GG dq,0,0,[],[],List.replicate p.length false,[],⟨G,G,(Z),(SlR.nil _),(Z)⟩,SA,λ_ h=>h⟩
 intro i A1 n1 c1 vals ls E Rs ⟨ar,ia,dd,tx,Do⟩;have Nx:E.length=p.length:=by have h:=(kU hp i.toNat G).1;rw[Do] at h;exact h
 have Tw:vals.length<=i.toNat:=by have h:=JE p i.toNat;rw[Do] at h;rw[tx.1];exact h
 refine wq<|wL Z Z<|aA<|aG<|bJ Z (λaq=> ?_) (λaq=> ?_)
 ·refine aJ<|aG<|aI<|wq<|wm Z<|wn Z<|wq<|dH (R1:=((ri 3 none 0 0 ([]))::⟨52,1,A1,n1,c1,vals,false⟩::⟨4,1,(GG al),p.length,p.length,bools E,false⟩::Rs)) (Sub.refl _) (λ_ h=>h.nil 3 1)<|wn Z<|aG<|aG ?_;refine aM<|wm Z<|wn Z<|aI ?_;refine EA (λ(k:Int) (A2:Option Addr) (n2:Nat) (c2:Nat) (acc:List Int) (E2:List Bool) (f:Nat)=>[(0,sl Qu p.length Qv),(4,sl (GG al) p.length p.length),(5,sl A1 n1 c1),(7,sl A2 n2 c2),(8,I k),(17,I ((p.length:Nat):Int)),(18,I i)]) (λk A2 n2 c2 acc E2 f=>((ri 3 A2 n2 c2 acc)::⟨52,1,A1,n1,c1,vals,false⟩::⟨4,1,(GG al),p.length,p.length,bools E2,false⟩::Rs)) (λk A2 n2 c2 acc E2 f=>(0<=k)/\(k<p.length)/\(n2=acc.length)/\(E2.length=p.length)/\(cntF E2<=f)/\((acc++(fK p f E2 k).1,(fK p f E2 k).2)=fK p p.length E i)) (λk A2 n2 c2 acc E2 f=>f) ?_ ?_
  ·exact⟨i,none,0,0,[],E,p.length,⟨G,G,(Z),(Nx),(by have:cntF E<=E.length:=List.countP_le_length;omega),(Z)⟩,SA,λ_ h=>h⟩
  intro k A2 n2 c2 acc E2 f ⟨nb,xj,ox,St,hf,hw⟩;have wb:=XW hp Nx ar G hw;refine aG<|wq<|wm Z<|wm Z<|wy (aH og sz4 Z Z (rdr 2 Z))<|wy (CF Ar Z Z (rdr 2 Z))<|wy (ET Z)<|aA<|bJ Z (λcr=> ?_) (λcr=> ?_)
  ·have hgo:=FB (p:=p) nb G hf cr;have Jn:=zO nb G cr;have db:=JI nb G cr;have Jj:=aW.1 (hp.subset (bH (L:=p) nb xj));refine aJ<|aG<|aI<|wq<|wm Z<|wm Z<|wy (aH og sz4 Z Z (rdr 2 Z))<|bX (uS 2 Z sz4 Z Z) ?_;rintro _ _ rfl;refine aA<|aM<|wm Z<|wm Z<|wa (bS .i64 [k] aa zs3 Z Z Z) ?_;rintro _ _ ⟨fm,rfl,rfl⟩;refine wa (bE 1 Z aa zb3 Z Z Z (rdr 0 Z)) ?_;rintro _ _ ⟨es,dt,rfl,rfl⟩;refine bN (v:=sl es (n2+1) dt) Z<|wn Z<|aM<|wm Z<|wm Z<|wy (aH aa sz3 Z Z (s6.c _))<|wy (aX ak Z Z (s6.c _))<|wn Z ?_;exact⟨rd p k,es,n2+1,dt,acc++([k]),oO E2 k true,(f-1),⟨G,G,(by rw[ah,ox];rfl),(by rw[kF];exact St),G,(by rw[<-hw,hgo];simp only[ig,nz])⟩,G,SA,λ_ h=>h.selR (F:=[_,_,_,_]) (F':=[_,_,_]) [1,2,3] cC Z⟩
  ·have Mv:fK p p.length E i=(acc,E2):=by rw[<-hw,rU (yt.1 cr),jo]
   refine aZ<|wq<|wm Z<|wy (aQ aa Z)<|wy (dV Z Z)<|aA<|bJ Z (λfd=> ?_) (λfd=> ?_)
   ·refine aM<|wm Z<|wm Z<|wa (nN [Value.slice A2 n2 c2] underlying232 bBx Z Z Z Z) ?_;rintro _ _ ⟨Ka,rfl,rfl⟩;refine wa (rJ 2 Z Z underlying232 bFx Z Z Z Z Z (rdr 0 Z) (by simp[Value.oneCell']) (by dsimp only;omega)) ?_;rintro _ _ ⟨oe,cg,rfl,rfl⟩;refine bN (v:=sl oe (n1+1) cg) Z<|wn Z<|aM<|wA Z Z<|wm Z<|aA ?_;exact⟨i+1,oe,n1+1,cg,vals++([Value.slice A2 n2 c2]),(ls++[acc]),E2,((ri 3 A2 n2 c2 acc)::Rs),⟨G,G,(by rw[ah,dd];rfl),(tx.snoc ox),(aVz ar Do Mv (λe=>by rw[e] at ox;simp at ox;omega))⟩,G,SA,λ_ h=>h.selR (F:=[_,_,_,_]) (F':=[_,_,_]) [2,3,1] cC rfl⟩
   ·refine aJ<|aM<|wA Z Z<|wm Z<|aA ?_;exact⟨i+1,A1,n1,c1,vals,ls,E2,Rs,⟨G,G,(dd),(tx),(bAy ar Do Mv (ed G))⟩,G,SA,λ_ h=>h.selR (F:=[_,_,_]) (F':=[_,_]) [1,2] cC Z⟩
 ·refine aZ<|wq<|wm Z<|wg Z<|wn Z<|aT [0] 2 cC Z ?_;refine⟨_,_,Z,Z,?_⟩;obtain rfl:ls=dX p:=by unfold dX;rw[<-show i.toNat=p.length by omega,Do]
  subst dd;exact⟨_,_,vals,Rs,Z,tx,Z⟩
end Go.Proofs.YtdbebmmhdefgdaaGreat
namespace Go.Proofs
open Go.Shelf
def Tryz.laysSlF06_f276_ren:Go.Shelf.Ren:=⟨λ|6=>276|15=>192|14=>304|28=>251|29=>252|20=>329|21=>330|22=>331|23=>332|24=>333|25=>334|26=>335|27=>336|46=>358|47=>282|48=>283|49=>359|50=>360|57=>366|n=>n,λ|22=>228|24=>230|25=>315|3=>3|39=>167|0=>0|53=>123|55=>112|4=>4|46=>289|45=>288|50=>97|5=>5|9=>9|66=>316|70=>320|76=>337|77=>338|n=>n,λ|n=>n⟩
theorem Tryz.laysSlF06_f276:Go.Proofs.SlLaysF0.n6 Tryz.prog Tryz.laysSlF06_f276_ren:= {
 mixed:=cA
 f6:=⟨Tryz.f276.name,cC,Tryz.func276.trans (bz some cA)⟩
 f14:=⟨Tryz.f304.name,cC,Tryz.func304.trans (bz some cA)⟩
 f15:=Tryz.func192.trans (bz some cA)
 f20:=⟨Tryz.f329.name,cC,Tryz.func329.trans (bz some cA)⟩
 f21:=⟨Tryz.f330.name,cC,Tryz.func330.trans (bz some cA)⟩
 f22:=⟨Tryz.f331.name,cC,Tryz.func331.trans (bz some cA)⟩
 f23:=⟨Tryz.f332.name,cC,Tryz.func332.trans (bz some cA)⟩
 f24:=⟨Tryz.f333.name,cC,Tryz.func333.trans (bz some cA)⟩
 f25:=⟨Tryz.f334.name,cC,Tryz.func334.trans (bz some cA)⟩
 f26:=⟨Tryz.f335.name,cC,Tryz.func335.trans (bz some cA)⟩
 f27:=⟨Tryz.f336.name,cC,Tryz.func336.trans (bz some cA)⟩
 f28:=Tryz.func251.trans (bz some cA)
 f29:=Tryz.func252.trans (bz some cA)
 f46:=⟨Tryz.f358.name,cC,Tryz.func358.trans (bz some cA)⟩
 f47:=Tryz.func282.trans (bz some cA)
 f48:=Tryz.func283.trans (bz some cA)
 f49:=⟨Tryz.f359.name,cC,Tryz.func359.trans (bz some cA)⟩
 f50:=⟨Tryz.f360.name,cC,Tryz.func360.trans (bz some cA)⟩
 f57:=⟨Tryz.f366.name,cC,Tryz.func366.trans (bz some cA)⟩
 t0:=Dc
 a0:=Jd
 z0:=Ic
 v0:=Ec
 t3:=Be
 a3:=Gc
 z3:=Ep
 v3:=Bt
 t4:=De
 a4:=Je
 z4:=Ie
 v4:=Ed
 t5:=Dg
 a5:=Jf
 z5:=Ig
 v5:=Ee
 t9:=Dh
 a9:=Jg
 z9:=Ih
 v9:=Ef
 t22:=Tryz.underlying228
 a22:=Tryz.isAgg228
 z22:=Tryz.sizeOf228
 v22:=Tryz.zeroValue228
 t25:=Tryz.underlying315
 a25:=Tryz.isAgg315
 z25:=Tryz.sizeOf315
 v25:=Tryz.zeroValue315
 t39:=zu
 a39:=Dj
 z39:=Cq
 v39:=Aj
 t45:=Fa
 a45:=Tryz.isAgg288
 z45:=Tryz.sizeOf288
 v45:=Gg
 t46:=Fb
 a46:=Tryz.isAgg289
 z46:=Tryz.sizeOf289
 v46:=Gh
 t50:=Gf
 a50:=Tryz.isAgg97
 z50:=Tryz.sizeOf97
 v50:=Hf
 t53:=Cb
 a53:=Gu
 z53:=Ez
 v53:=Cs
 t55:=Ca
 a55:=Gt
 z55:=Ey
 v55:=Cr
 t66:=Fe
 a66:=Tryz.isAgg316
 z66:=Tryz.sizeOf316
 v66:=Gi
 t70:=Ff
 a70:=Tryz.isAgg320
 z70:=Tryz.sizeOf320
 v70:=Gj
 t76:=Fg
 a76:=Tryz.isAgg337
 z76:=Tryz.sizeOf337
 v76:=Gl
 t77:=Fh
 a77:=Tryz.isAgg338
 z77:=Tryz.sizeOf338
 v77:=Gm}
open Go.RowKit Go.Lib Go.Sort in
theorem Tryz.slices_SortFunc {α:Type} [Inhabited α] (k:Nat) (aE: ∀w,(isAgg 230).run Tryz.prog w= .ok true w) (zE: ∀w,(Go.sizeOf 230).run Tryz.prog w= .ok k w) (enc:α->List Value) (hk: ∀x,(enc x).length=k) (h1: ∀x,∀v∈enc x,v.oneCell'=true) (cf:α->α->Int) (hO:SWO (ltOf cf)) (g:Nat) (cb:Array Value) (dr off cap:Nat) (d:Array α) (w:World) (eg: ∀args w,(callFunc g args).run Tryz.prog w= .ok (.enter g args) w) (te:CmpLays Tryz.prog g cb enc k cf dr off d.size w) (hH:HoldsK enc k w dr off d) (hblk:dr<w.heap.size) (hsz:d.size<4611686018427387904):
  Calls Tryz.prog 276 #[.slice (some ⟨dr,off,none⟩) d.size cap, .func (.func g) #[] cb] w λe w'=>
   e= .returned (.tuple #[])/\ ∃d' n os,PermIn 0 d.size d d'/\SortedIn (ltOf cf) 0 d.size d'/\w'=sortWorldK enc k w dr off n d' os:=AnyQ.slices_SortFunc Tryz.laysSlF06_f276 k aE zE enc hk h1 cf hO g cb dr off cap d w eg te hH hblk hsz
end Go.Proofs
namespace Go.Proofs.YtdbebmmhdefgdaaGreat
open Go Go.Eng Go.Pure
open Tryz
set_option maxRecDepth 100000
variable {w:World} {zv rn j5 rh kh jz:Nat} {i5 rg ke ju:Option Addr} {mw:List Value} {ws:List (List Int)} {bs rs:List Int} {t1 t2 h:Int}
theorem aNv {im:Option Addr} {lj ir:Nat} {l:List Int} (gr:Rd w im lj ir 1 (ints .i64 l)):
  Ct Tryz.prog 119 #[sl im lj ir] w.heap.size w [] (λv R'=>v=I (orL l)):=by
 obtain rfl:=gr.lenI;refine fn1 Tryz.func119 Z Z Z ?_;have Qm:=gr.max;refine wq<|wn Z<|wq<|wn Z<|aG<|wq<|wm Z<|wy (aQ aa Z)<|wm Z<|aA ?_;refine aI ?_;refine pX (λ(k:Int)=>[(3,I 0),(6,sl im l.length ir),(7,I ((l.length:Nat):Int)),(8,I k)]) (λk=>[]) (λk=>(0<=k)/\(k<=l.length)/\(orL l=orL (l.drop k.toNat))) (λk=>(l.length-k).toNat) ?_ ?_
 ·exact⟨0,⟨G,G,(Z)⟩,SA,λ_ h=>h⟩
 intro k ⟨nb,xj,ho⟩;refine wq<|wL Z Z<|aA<|aG<|bJ Z (λaq=> ?_) (λaq=> ?_)
 ·refine aJ<|aG<|aI<|wq<|wy (aH aa sz3 Z Z (gr.c _))<|wy (aX ak Z Z (gr.c _))<|wn Z<|wq<|wm Z<|wm Z<|wy (iZ Z Z)<|aA ?_;refine bJ Z (λcr=> ?_) (λcr=> ?_)
  ·refine wq<|wm Z<|wn Z<|dF ?_;refine⟨_,Z,?_⟩;exact bz (Value.int .i64) (by rw[ho,aUj nb G G])
  ·refine aJ<|aM<|wA Z Z<|wm Z<|aA ?_;exact⟨k+1,⟨G,G,(by rw[ho,aZv nb G G])⟩,G,SA,λ_ h=>h⟩
 ·refine aZ<|wq<|wm Z<|wn Z<|dF ?_;refine⟨_,Z,?_⟩;exact bz (Value.int .i64) (by rw[ho,uk G];rfl)
theorem uR (ba:Rd w (GG zv) 1 1 4 [sl i5 ws.length j5,sl rg rn rh,sl ke bs.length kh,sl ju rs.length jz]) (e8:Rd w i5 ws.length j5 1 mw) (Jt:SlW .u8 w mw ws) (go:Rd w ke bs.length kh 1 (ints .i64 bs)) (e7:Rd w ju rs.length jz 1 (ints .i64 rs)) (Of:0<=t1/\t1<ws.length/\t1<bs.length) (Ol:0<=t2/\t2<=1000000) (Oo:0<(rdl ws t1).length) (Oq:0<=rd bs t1/\rd bs t1+(rdl ws t1).length<=rs.length) (hh:0<=h/\h<=1000000):
  Ct Tryz.prog 279 #[PG zv, .agg #[I t1,I t2],I h] w.heap.size w [] (λv R'=>v=I (ahd ws bs rs (t1,t2) h)):=by
 refine fn1 Tryz.func279 Z Z Z ?_;have Ym:=e7.max;have Jr:=go.max;have Yn:=e8.max;have e1:=ym (t2+h) (show((rdl ws t1).length:Int)≠0 by omega);have e2:=wz (t2+h) (show(0:Int)<((rdl ws t1).length:Int) by omega);refine wq<|wa (bY (sz:=2) Z Z) ?_;rintro _ _ ⟨al,rfl,rfl⟩;refine wn Z<|aG<|bT mixed<|wD 0 Z (aN Z)<|wD 1 Z (aD Z)<|wD 2 Z (aB (off:=3) (m:=3) qg Z gW Z Z Z)<|wD 3 Z (aK (ba.c _) aa Z Z Z)<|wD 4 Z (aN Z)<|wD 5 Z (aD Z)<|wD 6 Z (aB (off:=2) (m:=2) qg Z gW Z Z Z)<|wD 7 Z (aK (ba.c _) aa Z Z Z)<|wD 8 Z (dC (q:=0) (rdr 0 Z) kg sz3 Z Z (au Z) cC cC Z)<|wD 9 Z (aK (rdr 0 Z) ak Z Z Z)<|wD 10 Z (aH aa sz3 Z Z (go.c _)) ?_;refine wD 11 Z (aX ak Z Z (go.c _))<|wD 12 Z (dC (q:=1) (rdr 0 Z) kg sz3 Z Z (au Z) cC cC Z)<|wD 13 Z (aK (rdr 0 Z) ak Z Z Z)<|wD 14 Z (aN Z)<|wD 15 Z (dG Z Z)<|wD 16 Z (aN Z)<|wD 17 Z (aD Z)<|wD 18 Z (aB (off:=0) (m:=0) qg Z wP Z Z Z)<|wD 19 Z (aK (ba.c _) gp Z Z Z)<|wD 20 Z (dC (q:=0) (rdr 0 Z) kg sz3 Z Z (au Z) cC cC Z)<|wD 21 Z (aK (rdr 0 Z) ak Z Z Z)<|wD 22 Z (aH gp dO Z Z (e8.c _)) ?_;obtain⟨ij,io,Vj,o0,hb_7,Yp⟩:=Jt.at (i:=t1) G G;refine wD 23 Z (AB ai Z Z Z (e8.c _) Vj)<|wD 24 Z (aQ ai Z)<|wD 25 Z (CE Z Z)<|wD 26 Z (dG Z Z)<|wD 27 Z (aH aa sz3 Z Z (e7.c _))<|wD 28 Z (aX ak Z Z (e7.c _))<|wD 29 Z (bP Z)<|wN<|aT [] 99 cC Z ?_;refine⟨_,Z,?_⟩;rfl
theorem PN (ba:Rd w (GG zv) 1 1 4 [sl i5 ws.length j5,sl rg rn rh,sl ke bs.length kh,sl ju rs.length jz]) (e8:Rd w i5 ws.length j5 1 mw) (Jt:SlW .u8 w mw ws) (go:Rd w ke bs.length kh 1 (ints .i64 bs)) (e7:Rd w ju rs.length jz 1 (ints .i64 rs)) (Of:0<=t1/\t1<ws.length/\t1<bs.length) (Ol:0<=t2/\t2<=1000000) (Oo:0<(rdl ws t1).length) (Oq:0<=rd bs t1/\rd bs t1+(rdl ws t1).length<=rs.length):
  Ct Tryz.prog 278 #[PG zv, .agg #[I t1,I t2]] w.heap.size w [] (λv R'=>v=I (ahd ws bs rs (t1,t2) 0)):=by
 refine fn1 Tryz.func278 Z Z Z ?_;have Ym:=e7.max;have Jr:=go.max;have Yn:=e8.max;refine wq<|wa (bY (sz:=2) Z Z) ?_;rintro _ _ ⟨al,rfl,rfl⟩;refine wn Z<|wq<|wm Z<|wy (dN (vs:=[I t1,I t2]) (rdr 0 Z) kg Z mE Z Z (au Z) Z)<|wa (aF VO Z (Ct.quiet (λw hw=>uR ((ba.c _) w hw) ((e8.c _) w hw) (Jt.c hw) ((go.c _) w hw) ((e7.c _) w hw) cE cE cE cE cE))) ?_;rintro _ _ ⟨rfl,rfl⟩;refine wn Z<|aT [] 99 cC Z ?_;refine⟨_,Z,?_⟩;rfl
theorem YB {u1 u2:Int} {Wh:Nat} {Wg:Nat} (ba:Rd w (GG zv) 1 1 4 [sl i5 ws.length j5,sl rg rn rh,sl ke bs.length kh,sl ju rs.length jz]) (e8:Rd w i5 ws.length j5 1 mw) (Jt:SlW .u8 w mw ws) (go:Rd w ke bs.length kh 1 (ints .i64 bs)) (e7:Rd w ju rs.length jz 1 (ints .i64 rs)) (s6:Rd w (GG Wh) 1 1 1 [PG zv]) (Wr:Rd w (GG Wg) 1 1 1 [I h]) (Of:0<=t1/\t1<ws.length/\t1<bs.length) (Ol:0<=t2/\t2<=1000000) (Oo:0<(rdl ws t1).length) (Oq:0<=rd bs t1/\rd bs t1+(rdl ws t1).length<=rs.length) (ha_u:0<=u1/\u1<ws.length/\u1<bs.length) (hb_u:0<=u2/\u2<=1000000) (hc_u:0<(rdl ws u1).length) (hd_u:0<=rd bs u1/\rd bs u1+(rdl ws u1).length<=rs.length) (hh:0<=h/\h<=1000000):
  Ct Tryz.prog 277 #[.agg #[I t1,I t2], .agg #[I u1,I u2],PG Wh,PG Wg] w.heap.size w [] (λv R'=>v=I (YF ws bs rs h (t1,t2) (u1,u2))):=by
 refine fn1 Tryz.func277 Z Z Z ?_;have Ym:=e7.max;have Jr:=go.max;have Yn:=e8.max;refine wq<|wa (bY (sz:=2) Z Z) ?_;rintro _ _ ⟨al,rfl,rfl⟩;refine wa (bY (sz:=2) Z Z) ?_;rintro _ _ ⟨dq,rfl,rfl⟩;refine wn Z<|aG<|bT mixed<|wD 0 Z (aK (s6.c _) uj Z Z Z)<|wD 1 Z (dN (vs:=[I t1,I t2]) (rdr 1 Z) kg Z mE Z Z (au Z) Z)<|wD 3 Z (aK (s6.c _) uj Z Z Z)<|wD 4 Z (dN (vs:=[I u1,I u2]) (rdr 0 Z) kg Z mE Z Z (au Z) Z)<|wD 7 Z (aK (s6.c _) uj Z Z Z)<|wD 8 Z (dN (vs:=[I t1,I t2]) (rdr 1 Z) kg Z mE Z Z (au Z) Z)<|wD 9 Z (aK (Wr.c _) ak Z Z Z)<|wD 11 Z (aK (s6.c _) uj Z Z Z)<|wD 12 Z (dN (vs:=[I u1,I u2]) (rdr 0 Z) kg Z mE Z Z (au Z) Z)<|wD 13 Z (aK (Wr.c _) ak Z Z Z)<|wD 16 Z (dC (q:=0) (rdr 1 Z) kg sz3 Z Z (au Z) cC cC Z) ?_;refine wD 17 Z (aK (rdr 1 Z) ak Z Z Z)<|wD 18 Z (dC (q:=0) (rdr 0 Z) kg sz3 Z Z (au Z) cC cC Z)<|wD 19 Z (aK (rdr 0 Z) ak Z Z Z)<|wD 21 Z (dC (q:=1) (rdr 1 Z) kg sz3 Z Z (au Z) cC cC Z)<|wD 22 Z (aK (rdr 1 Z) ak Z Z Z)<|wD 23 Z (dC (q:=1) (rdr 0 Z) kg sz3 Z Z (au Z) cC cC Z)<|wD 24 Z (aK (rdr 0 Z) ak Z Z Z)<|wC 2 Z (aF aEt Z (Ct.quiet (λw hw=>PN ((ba.c _) w hw) ((e8.c _) w hw) (Jt.c hw) ((go.c _) w hw) ((e7.c _) w hw) cE cE cE cE))) ?_;rintro _ _ ⟨rfl,rfl⟩;refine⟨.inr λ_ h=>h,?_⟩;refine wC 5 Z (aF aEt Z (Ct.quiet (λw hw=>PN ((ba.c _) w hw) ((e8.c _) w hw) (Jt.c hw) ((go.c _) w hw) ((e7.c _) w hw) cE cE cE cE))) ?_;rintro _ _ ⟨rfl,rfl⟩;refine⟨.inr λ_ h=>h,?_⟩;refine wC 6 Z (aF VQ Z (Ct.quiet (λw hw=>nJ))) ?_;rintro _ _ ⟨rfl,rfl⟩;refine⟨.inr λ_ h=>h,?_⟩;refine wC 10 Z (aF VO Z (Ct.quiet (λw hw=>uR ((ba.c _) w hw) ((e8.c _) w hw) (Jt.c hw) ((go.c _) w hw) ((e7.c _) w hw) cE cE cE cE cE))) ?_;rintro _ _ ⟨rfl,rfl⟩;refine⟨.inr λ_ h=>h,?_⟩;refine wC 14 Z (aF VO Z (Ct.quiet (λw hw=>uR ((ba.c _) w hw) ((e8.c _) w hw) (Jt.c hw) ((go.c _) w hw) ((e7.c _) w hw) cE cE cE cE cE))) ?_;rintro _ _ ⟨rfl,rfl⟩;refine⟨.inr λ_ h=>h,?_⟩;refine wC 15 Z (aF VQ Z (Ct.quiet (λw hw=>nJ))) ?_;rintro _ _ ⟨rfl,rfl⟩;refine⟨.inr λ_ h=>h,?_⟩;refine wC 20 Z (aF VQ Z (Ct.quiet (λw hw=>nJ))) ?_;rintro _ _ ⟨rfl,rfl⟩;refine⟨.inr λ_ h=>h,?_⟩;refine wC 25 Z (aF VQ Z (Ct.quiet (λw hw=>nJ))) ?_;rintro _ _ ⟨rfl,rfl⟩;refine⟨.inr λ_ h=>h,?_⟩;refine wC 26 Z (bS .i64 [kD (ahd ws bs rs (t1,t2) 0) (ahd ws bs rs (u1,u2) 0),kD (ahd ws bs rs (t1,t2) h) (ahd ws bs rs (u1,u2) h),kD t1 u1,kD t2 u2] aa zs3 Z Z Z) ?_;rintro _ _ ⟨fm,rfl,rfl⟩;refine⟨.inr λ_ h=>h.right (R':=[_]),?_⟩;refine wC 27 Z (aF aYl Z (Ct.quiet (λw hw=>aNv ((rdr 0 Z) w hw)))) ?_;rintro _ _ ⟨rfl,rfl⟩;refine⟨.inr λ_ h=>h,?_⟩;refine wD 28 Z (bP Z)<|wN<|aT [] 99 cC Z ?_;refine⟨_,Z,?_⟩;rfl
theorem YJ (cb:Array Value):aFm Tryz.prog 276 277 cb:=λα _ enc hk h1 cf hO dr off cap d w te hH hblk hsz=>
 Tryz.slices_SortFunc 2 (λw=>cA) (λw=>cA) enc hk h1 cf hO 277 cb dr off cap d w bDt te hH hblk hsz
theorem aAl {B:Nat} {w0:World} {R:List Row} {uv:Option Addr} {Mb qt Qq va:Nat} {ts:List (Int × Int)} (nj:Mb=ts.length) (hnb:qt=bs.length) (hnr:Qq=rs.length) (Fr:RdC B w0 R i5 ws.length j5 1 mw) (yq: ∀w,Hp B w0 w R->SlW .u8 w mw ws) (hv: ∀t∈ts,TOk ws bs rs.length t) (La: ∀t∈ts,∀u∈ts,gI bs t=gI bs u->t=u) (hnd:ts.Nodup) (da:ts≠[]) (hN:rs.length<=1000000/\ts.length<=1000000) (hh:0<=h/\h<=1000000):
  Ct Tryz.prog 238 #[PG zv,sl uv Mb va,I h] B w0 ((rc 281 4 zv [sl i5 ws.length j5,sl rg rn rh,sl ke qt kh,sl ju Qq jz])::⟨230,2,uv,Mb,va,prs ts,false⟩::(ri 3 ke qt kh bs)::(ri 3 ju Qq jz rs)::R) (λv R'=> ∃(l1:List (Int × Int)) (rk:List Int) (A':Option Addr) (c':Nat),v=I (gK ws bs rs h l1 (l1.length-1))/\l1.Perm ts/\l1.Pairwise (λx y=> ¬YF ws bs rs h y x<0)/\rk.length=rs.length/\(∀j:Nat,j<l1.length->rd rk (gI bs (rdp l1 j))=gK ws bs rs h l1 j)/\R'=(rc 281 4 zv [sl i5 ws.length j5,sl rg rn rh,sl ke qt kh,sl A' Qq c'])::⟨230,2,uv,Mb,va,prs l1,false⟩::(ri 3 ke qt kh bs)::(ri 3 A' Qq c' rk)::R):=by
 subst nj;subst hnb;subst hnr;refine fn1 Tryz.func238 Z Z Z ?_;have Oy: ∀t∈ts,0<=gI bs t:=λt ht=>by have:=hv t ht;unfold TOk at this;unfold gI;omega
 refine wq<|wa (bY (sz:=1) Z Z) ?_;rintro _ _ ⟨al,rfl,rfl⟩;refine wa (bY (sz:=1) Z Z) ?_;rintro _ _ ⟨dq,rfl,rfl⟩;refine wn Z<|wq<|wm Z<|wy (kQ Z Z)<|wa (aF bDu Z (YL (YJ _) 3 Z da G (YF ws bs rs h) (aLk ws bs rs h) (λW hW x hx y hy=>YB ((rdr 2 Z) W hW) ((RdC.right Fr [_,_,_,_,_]) W hW) (yq W (Hp.right (R':=[_,_,_,_,_]) hW)) ((rdr 3 Z) W hW) ((rdr 4 Z) W hW) ((rdr 1 Z) W hW) ((rdr 0 Z) W hW) (hv x hx).1 (by have:=(hv x hx).2.1;omega) (hv x hx).2.2.1 (hv x hx).2.2.2 (hv y hy).1 (by have:=(hv y hy).2.1;omega) (hv y hy).2.2.1 (hv y hy).2.2.2 hh))) ?_;rintro _ _ ⟨rfl,l1,py,un,rfl⟩;have vj:=py.length_eq;have Qh: ∀t∈l1,TOk ws bs rs.length t:=λt ht=>hv t (py.mem_iff.1 ht);have Le:=py.nodup_iff.2 hnd;refine aA<|wq<|wy (aK (rdr 1 Z) uj Z Z Z)<|wy (aD Z)<|wy (aB (off:=3) (m:=3) qg Z gW Z Z Z)<|wy (aK (rdr 2 Z) aa Z Z Z)<|wy (aQ aa Z)<|wa (dE aa zb3 Z Z) ?_;rintro _ _ ⟨gh,rfl,rfl⟩;refine bN (v:=sl (GG gh) rs.length rs.length) Z<|wn Z<|wq<|wn Z<|aG<|wq<|wm Z<|wy (aQ rq Z)<|wm Z<|aA<|aI ?_;refine fU (λ(i:Int) (n:Int) (rk:List Int)=>[(1,sl uv ts.length va),(3,PG al),(5,PG dq),(7,sl (GG gh) rs.length rs.length),(8,I n),(21,sl uv ts.length va),(22,I ((ts.length:Nat):Int)),(23,I i)]) (λi n rk=>((ri 3 (GG gh) rs.length rs.length rk)::(rc 3 1 dq [I h])::(rc 279 1 al [PG zv])::(rc 281 4 zv [sl i5 ws.length j5,sl rg rn rh,sl ke bs.length kh,sl ju rs.length jz])::⟨230,2,uv,ts.length,va,prs l1,false⟩::(ri 3 ke bs.length kh bs)::(ri 3 ju rs.length jz rs)::R)) (λi n rk=>(0<=i)/\(i<=l1.length)/\(0<=n/\n<=i)/\(n=gK ws bs rs h l1 (i-1).toNat)/\(rk.length=rs.length)/\(∀j:Nat,j<i->rd rk (gI bs (rdp l1 j))=gK ws bs rs h l1 j)) (λi n rk=>(l1.length-i).toNat) ?_ ?_
 ·exact⟨0,0,List.replicate rs.length (0:Int),⟨G,G,G,(Z),(by rw[bq]),(λj hj=>G)⟩,SA,λ_ h=>h⟩
 intro i n rk ⟨ar,ia,Xo,hn,Pb,yp⟩;refine wq<|wL Z Z<|aA<|aG<|bJ Z (λaq=> ?_) (λaq=> ?_)
 ·have hq:=Qh _ (lM ar (show i<l1.length by omega));obtain⟨⟨q1,q2,q3⟩,⟨q4,q5,q6⟩,q7,q8,q9⟩:=hq;have Ll: ∀t∈l1,0<=gI bs t:=λt ht=>Oy t (py.mem_iff.1 ht);have na: ∀t∈l1,∀u∈l1,gI bs t=gI bs u->t=u:=λt ht u hu=>La t (py.mem_iff.1 ht) u (py.mem_iff.1 hu);refine aJ<|aG<|aI<|wq<|wm Z<|wy (gV rq mE Z Z (rdr 4 Z) Z)<|wy (EW kg Z mE Z (rdr 4 Z))<|wa (iH (sz:=2) aKm Z) ?_;rintro _ _ ⟨ft,rfl,rfl⟩;refine wg Z<|bX (fQ (vs:=[I ((rdp l1 i).1),I ((rdp l1 i).2)]) 0 Z mE Z Z Z (by intro v hv;simp at hv;rcases hv with rfl|rfl<;>rfl) Z) ?_;rintro _ _ rfl;refine aA<|aG<|wq<|wm Z<|wy (dV Z Z)<|aA<|bJ Z (λcr=> ?_) (λcr=> ?_)
  ·have Ln:=Qh _ (lM (show 0<=i-1 by omega) (show i-1<l1.length by omega));obtain⟨⟨p1,p2,p3⟩,⟨p4,p5,p6⟩,p7,p8,p9⟩:=Ln;refine wq<|wm Z<|wm Z<|wS Z Z<|wy (gV rq mE Z Z (rdr 5 Z) Z)<|wy (EW kg Z mE Z (rdr 5 Z))<|wa (iH (sz:=2) aKm Z) ?_;rintro _ _ ⟨md,rfl,rfl⟩;refine bX (fQ (vs:=[I ((rdp l1 (i-1)).1),I ((rdp l1 (i-1)).2)]) 0 Z mE Z Z Z (by intro v hv;simp at hv;rcases hv with rfl|rfl<;>rfl) Z) ?_;rintro _ _ rfl;refine aA ?_;refine vC [(1,sl uv ts.length va),(3,PG al),(5,PG dq),(7,sl (GG gh) rs.length rs.length),(8,I n),(10,PG ft),(21,sl uv ts.length va),(22,I ((ts.length:Nat):Int)),(23,I i),(52, .bool (decide (((ahd ws bs rs (((rdp l1 (i-1)).1),((rdp l1 (i-1)).2)) 0)≠(ahd ws bs rs (((rdp l1 i).1),((rdp l1 i).2)) 0))\/((ahd ws bs rs (((rdp l1 (i-1)).1),((rdp l1 (i-1)).2)) h)≠(ahd ws bs rs (((rdp l1 i).1),((rdp l1 i).2)) h)))))] ((rc 230 2 md [I ((rdp l1 (i-1)).1),I ((rdp l1 (i-1)).2)])::(rc 230 2 ft [I ((rdp l1 i).1),I ((rdp l1 i).2)])::(ri 3 (GG gh) rs.length rs.length rk)::(rc 3 1 dq [I h])::(rc 279 1 al [PG zv])::(rc 281 4 zv [sl i5 ws.length j5,sl rg rn rh,sl ke bs.length kh,sl ju rs.length jz])::⟨230,2,uv,ts.length,va,prs l1,false⟩::(ri 3 ke bs.length kh bs)::(ri 3 ju rs.length jz rs)::R) ?_ ?_
   ·refine bT mixed<|wD 0 Z (aK (rdr 4 Z) uj Z Z Z)<|wD 1 Z (dN (vs:=[I ((rdp l1 (i-1)).1),I ((rdp l1 (i-1)).2)]) (rdr 0 Z) kg Z mE Z Z (au Z) Z)<|wD 3 Z (aK (rdr 4 Z) uj Z Z Z)<|wD 4 Z (dN (vs:=[I ((rdp l1 i).1),I ((rdp l1 i).2)]) (rdr 1 Z) kg Z mE Z Z (au Z) Z)<|wC 2 Z (aF aEt Z (Ct.quiet (λw hw=>PN ((rdr 5 Z) w hw) ((RdC.right Fr [_,_,_,_,_,_,_,_,_]) w hw) (yq w (Hp.right (R':=[_,_,_,_,_,_,_,_,_]) hw)) ((rdr 7 Z) w hw) ((rdr 8 Z) w hw) cE cE cE cE))) ?_;rintro _ _ ⟨rfl,rfl⟩;refine⟨.inr λ_ h=>h,?_⟩;refine wC 5 Z (aF aEt Z (Ct.quiet (λw hw=>PN ((rdr 5 Z) w hw) ((RdC.right Fr [_,_,_,_,_,_,_,_,_]) w hw) (yq w (Hp.right (R':=[_,_,_,_,_,_,_,_,_]) hw)) ((rdr 7 Z) w hw) ((rdr 8 Z) w hw) cE cE cE cE))) ?_;rintro _ _ ⟨rfl,rfl⟩;refine⟨.inr λ_ h=>h,?_⟩;refine wD 6 Z (iZ Z Z)<|wD 7 Z (aN Z)<|mZ 42 Z (λfd=> ?_) (λfd=> ?_)
    ·refine wO 8 Z Z Z<|wO 9 Z Z Z<|wO 10 Z Z Z<|wO 11 Z Z Z<|wO 12 Z Z Z<|wO 13 Z Z Z<|wO 14 Z Z Z<|wO 15 Z Z Z<|wO 16 Z Z Z<|wD 17 Z (aY Z Z)<|wN ?_;exact⟨SA,λ_ h=>h⟩
    ·refine wG 8 Z Z Z (aK (rdr 4 Z) uj Z Z Z)<|wG 9 Z Z Z (dN (vs:=[I ((rdp l1 (i-1)).1),I ((rdp l1 (i-1)).2)]) (rdr 0 Z) kg Z mE Z Z (au Z) Z)<|wG 10 Z Z Z (aK (rdr 3 Z) ak Z Z Z)<|wG 12 Z Z Z (aK (rdr 4 Z) uj Z Z Z)<|wG 13 Z Z Z (dN (vs:=[I ((rdp l1 i).1),I ((rdp l1 i).2)]) (rdr 1 Z) kg Z mE Z Z (au Z) Z)<|wG 14 Z Z Z (aK (rdr 3 Z) ak Z Z Z)<|aCl 11 Z cA Z Z Z (aF VO Z (Ct.quiet (λw hw=>uR ((rdr 5 Z) w hw) ((RdC.right Fr [_,_,_,_,_,_,_,_,_]) w hw) (yq w (Hp.right (R':=[_,_,_,_,_,_,_,_,_]) hw)) ((rdr 7 Z) w hw) ((rdr 8 Z) w hw) cE cE cE cE cE))) ?_;rintro _ _ ⟨rfl,rfl⟩;refine⟨.inr λ_ h=>h,?_⟩;refine aCl 15 Z cA Z Z Z (aF VO Z (Ct.quiet (λw hw=>uR ((rdr 5 Z) w hw) ((RdC.right Fr [_,_,_,_,_,_,_,_,_]) w hw) (yq w (Hp.right (R':=[_,_,_,_,_,_,_,_,_]) hw)) ((rdr 7 Z) w hw) ((rdr 8 Z) w hw) cE cE cE cE cE))) ?_;rintro _ _ ⟨rfl,rfl⟩;refine⟨.inr λ_ h=>h,?_⟩;refine wG 16 Z Z Z (iZ Z Z)<|wD 17 Z (aR Z Z)<|wN ?_;exact⟨SA,λ_ h=>h⟩
   refine bJ Z (λka=> ?_) (λka=> ?_)
   ·refine aM<|wm Z<|wA Z Z<|wn Z<|bT mixed<|wD 0 Z (aN Z)<|wD 1 Z (aK (rdr 4 Z) uj Z Z Z)<|wD 2 Z (aD Z)<|wD 3 Z (aB (off:=2) (m:=2) qg Z gW Z Z Z)<|wD 4 Z (aK (rdr 5 Z) aa Z Z Z)<|wD 5 Z (dC (q:=0) (rdr 1 Z) kg sz3 Z Z (au Z) cC cC Z)<|wD 6 Z (aK (rdr 1 Z) ak Z Z Z)<|wD 7 Z (aH aa sz3 Z Z (rdr 7 Z))<|wD 8 Z (aX ak Z Z (rdr 7 Z)) ?_;refine wD 9 Z (dC (q:=1) (rdr 1 Z) kg sz3 Z Z (au Z) cC cC Z)<|wD 10 Z (aK (rdr 1 Z) ak Z Z Z)<|wD 11 Z (dG Z Z)<|wD 12 Z (aN Z)<|wD 13 Z (aH aa sz3 Z Z (rdr 2 Z))<|pQ 14 Z cA (bG 2 Z sz3 Z Z) ?_;rintro _ _ rfl;refine⟨.inl cA,?_⟩;refine wN<|aM<|wA Z Z<|wm Z<|aA ?_;exact⟨i+1,n+1,upd rk ((rd bs ((rdp l1 i).1))+((rdp l1 i).2)) (n+1),⟨G,G,G,(by rw[show i+1-1=i by omega,vS G,cu cF,<-hn]),(by rw[upd,Ea];exact Pb),(wV Le na ar G Ll (by unfold gI;omega) yp (by have e:(i+1-1)=i:=G;have hc:=(by rw[show i+1-1=i by omega,vS G,cu cF,<-hn]:_=gK ws bs rs h l1 (i+1-1).toNat);rw[e] at hc;exact hc))⟩,G,SA,λ_ h=>h.selR (F:=[_,_,_,_,_,_,_,_,_]) (F':=[_,_,_,_,_,_,_]) [2,3,4,5,6,7,8] cC Z⟩
   ·refine aJ<|bT mixed<|wD 0 Z (aN Z)<|wD 1 Z (aK (rdr 4 Z) uj Z Z Z)<|wD 2 Z (aD Z)<|wD 3 Z (aB (off:=2) (m:=2) qg Z gW Z Z Z)<|wD 4 Z (aK (rdr 5 Z) aa Z Z Z)<|wD 5 Z (dC (q:=0) (rdr 1 Z) kg sz3 Z Z (au Z) cC cC Z)<|wD 6 Z (aK (rdr 1 Z) ak Z Z Z)<|wD 7 Z (aH aa sz3 Z Z (rdr 7 Z))<|wD 8 Z (aX ak Z Z (rdr 7 Z))<|wD 9 Z (dC (q:=1) (rdr 1 Z) kg sz3 Z Z (au Z) cC cC Z)<|wD 10 Z (aK (rdr 1 Z) ak Z Z Z)<|wD 11 Z (dG Z Z)<|wD 12 Z (aN Z) ?_;refine wD 13 Z (aH aa sz3 Z Z (rdr 2 Z))<|pQ 14 Z cA (bG 2 Z sz3 Z Z) ?_;rintro _ _ rfl;refine⟨.inl cA,?_⟩;refine wN<|aM<|wA Z Z<|wm Z<|aA ?_;exact⟨i+1,n,upd rk ((rd bs ((rdp l1 i).1))+((rdp l1 i).2)) n,⟨G,G,G,(by rw[show i+1-1=i by omega,vS G,bu cF,<-hn,yu]),(by rw[upd,Ea];exact Pb),(wV Le na ar G Ll (by unfold gI;omega) yp (by have e:(i+1-1)=i:=G;have hc:=(by rw[show i+1-1=i by omega,vS G,bu cF,<-hn,yu]:_=gK ws bs rs h l1 (i+1-1).toNat);rw[e] at hc;exact hc))⟩,G,SA,λ_ h=>h.selR (F:=[_,_,_,_,_,_,_,_,_]) (F':=[_,_,_,_,_,_,_]) [2,3,4,5,6,7,8] cC Z⟩
  ·refine aJ<|bT mixed<|wD 0 Z (aN Z)<|wD 1 Z (aK (rdr 3 Z) uj Z Z Z)<|wD 2 Z (aD Z)<|wD 3 Z (aB (off:=2) (m:=2) qg Z gW Z Z Z)<|wD 4 Z (aK (rdr 4 Z) aa Z Z Z)<|wD 5 Z (dC (q:=0) (rdr 0 Z) kg sz3 Z Z (au Z) cC cC Z)<|wD 6 Z (aK (rdr 0 Z) ak Z Z Z)<|wD 7 Z (aH aa sz3 Z Z (rdr 6 Z))<|wD 8 Z (aX ak Z Z (rdr 6 Z))<|wD 9 Z (dC (q:=1) (rdr 0 Z) kg sz3 Z Z (au Z) cC cC Z)<|wD 10 Z (aK (rdr 0 Z) ak Z Z Z)<|wD 11 Z (dG Z Z)<|wD 12 Z (aN Z) ?_;refine wD 13 Z (aH aa sz3 Z Z (rdr 1 Z))<|pQ 14 Z cA (bG 1 Z sz3 Z Z) ?_;rintro _ _ rfl;refine⟨.inl cA,?_⟩;refine wN<|aM<|wA Z Z<|wm Z<|aA ?_;exact⟨i+1,n,upd rk ((rd bs ((rdp l1 i).1))+((rdp l1 i).2)) n,⟨G,G,G,(by have h0:i=0:=G;subst h0;exact hn),(by rw[upd,Ea];exact Pb),(wV Le na ar G Ll (by unfold gI;omega) yp (by have e:(i+1-1)=i:=G;have hc:=(by have h0:i=0:=G;subst h0;exact hn:_=gK ws bs rs h l1 (i+1-1).toNat);rw[e] at hc;exact hc))⟩,G,SA,λ_ h=>h.selR (F:=[_,_,_,_,_,_,_,_]) (F':=[_,_,_,_,_,_,_]) [1,2,3,4,5,6,7] cC Z⟩
 ·refine aZ<|wq<|wy (aK (rdr 2 Z) uj Z Z Z)<|wm Z<|wy (aD Z)<|wy (aB (off:=3) (m:=3) qg Z gW Z Z Z)<|bX (bA 3 Z Z Z gW Z Z Z Z (au Z)) ?_;rintro _ _ rfl;refine aA<|wq<|wm Z<|wn Z<|aT [3,4,5,0] 7 cC Z ?_;refine⟨_,Z,?_⟩;obtain rfl:i=l1.length:=G
  refine⟨l1,rk,_,_,?_,py,un,Pb,λj hj=>yp j G,Z⟩;rw[hn,show((l1.length:Int)-1).toNat=l1.length-1 by omega]
variable {w:World}
theorem aJr {im:Option Addr} {lj ir:Nat} {l:List (Int × Int)} (gr:Rd w im lj ir 2 (prs l)) (hN:l.length<=1000000):
  Ct Tryz.prog 237 #[sl im lj ir] w.heap.size w [] (λv R'=> ∃A c,v=sl A l.length c/\R'=[⟨230,2,A,l.length,c,prs l,false⟩]):=by
 obtain rfl:lj=l.length:=by have:=gr.len;rw[kS] at this;omega
 refine fn1 Tryz.func237 Z Z Z ?_;refine wq<|wn Z<|aG<|wq<|wm Z<|wy (aCh rq Z Z)<|aA<|FC Z (λaq=> ?_) (λaq=> ?_)
 ·refine wq<|wn Z<|bR (R1:=[⟨230,2,none,0,0,prs [],false⟩]) (λ_ h=>h.nilP 230) ?_;refine⟨_,Z,?_⟩;have hA:im=none:=by simpa using aq
  subst hA;obtain rfl:=aNh gr;exact⟨none,0,Z,Z⟩
 ·refine aJ<|wq<|wa (aWu rq aWy) ?_;rintro _ _ ⟨cv,rfl,rfl⟩;refine wm Z<|wa (CB 0 Z rq aWz Z Z Z Z (gr.c _) G) ?_;rintro _ _ ⟨ij,io,rfl,rfl⟩;refine bN (v:=sl ij (0+l.length) io) Z<|wn Z<|bR (R1:=[⟨230,2,ij,(0+l.length),io,prs (([])++l),false⟩]) (λ_ h=>h) ?_;refine⟨_,Z,?_⟩;simp only[ni,jb];exact⟨_,_,Z,Z⟩
theorem aLf {gl:Option Addr} {mc gn:Nat} {ef:List Value} {ws:List (List Int)} (jp:Rd w gl mc gn 1 ef) (nh:SlW .u8 w ef ws) (hN:ws.flatten.length<=400000/\ws.length<=1000000):
  Ct Tryz.prog 179 #[sl gl mc gn] w.heap.size w [] (λv R'=> ∃(l:List (Int × Int)) (A:Option Addr) (c:Nat),v=sl A l.length c/\l.Perm (iI ws ws.length)/\l.Pairwise (pR ws)/\R'=[⟨230,2,A,l.length,c,prs l,false⟩]):=by
 obtain rfl:mc=ws.length:=by have:=jp.len;have:=nh.1;omega
 refine fn1 Tryz.func179 Z Z Z ?_;have Lz:=jp.max;have qk:=hN.1;refine wq<|wn Z<|wq<|wm Z<|wy (dU (v:= .agg #[sl gl ws.length gn,sl none 0 0,sl none 0 0,sl none 0 0]) Z (λw=>cA))<|wa (bY (sz:=4) rfl rfl) ?_;rintro _ _ ⟨al,rfl,rfl⟩;refine dH (R1:=[⟨230,2,none,0,0,prs ([]),false⟩,(ri 3 none 0 0 ([])),(ri 3 none 0 0 ([])),(rc 281 4 al [sl gl ws.length gn,sl none 0 0,sl none 0 0,sl none 0 0])]) (Sub.refl _) (λ_ h=>((h.nil 3 1).nil 3 1).nilP 230)<|wn Z<|wq<|wn Z<|aG<|wq<|wm Z<|wy (aQ gp Z)<|wm Z<|aA<|aI ?_;refine aKy (λ(k:Int) (lg:Int) (A1:Option Addr) (n1:Nat) (c1:Nat) (T:List (Int × Int)) (A2:Option Addr) (n2:Nat) (c2:Nat) (Bs:List Int) (A3:Option Addr) (n3:Nat) (c3:Nat) (Rs:List Int)=>[(3,PG al),(4,I lg),(16,sl gl ws.length gn),(17,I ((ws.length:Nat):Int)),(18,I k)]) (λk lg A1 n1 c1 T A2 n2 c2 Bs A3 n3 c3 Rs=>[⟨230,2,A1,n1,c1,prs T,false⟩,(ri 3 A2 n2 c2 Bs),(ri 3 A3 n3 c3 Rs),(rc 281 4 al [sl gl ws.length gn,sl A1 n1 c1,sl A2 n2 c2,sl A3 n3 c3])]) (λk lg A1 n1 c1 T A2 n2 c2 Bs A3 n3 c3 Rs=>(0<=k)/\(k<=ws.length)/\(0<=lg/\lg<=400000)/\(∀w:Int,0<=w->w<k->((rdl ws w).length:Int)<=lg)/\(lg=0/\mO ws k.toNat=0\/0<lg/\0<mO ws k.toNat)/\(T=iI ws k.toNat)/\(n1=mO ws k.toNat)/\(Bs=qE ws k.toNat)/\(n2=k.toNat)/\(Rs=(ws.take k.toNat).flatten)/\(n3=mO ws k.toNat)) (λk lg A1 n1 c1 T A2 n2 c2 Bs A3 n3 c3 Rs=>(ws.length-k).toNat) ?_ ?_
 ·exact⟨0,0,none,0,0,[],none,0,0,[],none,0,0,[],⟨G,G,G,(λw h0 h1=>G),(.inl ⟨rfl,rfl⟩),(rfl),(rfl),(rfl),(rfl),(rfl),(rfl)⟩,SA,λ_ h=>h⟩
 intro k lg A1 n1 c1 T A2 n2 c2 Bs A3 n3 c3 Rs ⟨nb,xj,hg0,Ug,l8,hT,Uo,Mf,hnB,Kh,Xr⟩;refine wq<|wL Z Z<|aA<|aG<|bJ Z (λaq=> ?_) (λaq=> ?_)
 ·have Ur:=kY nb (show k<ws.length by omega);have hole:=aDw ws (k+1).toNat;refine aJ<|aG<|aI<|wq<|wm Z<|wy (aH gp dO Z Z (jp.c _)) ?_;obtain⟨dj,dp,Vi,Pz,hb_6,Yo⟩:=nh.at (i:=k) G G;refine wy (AB ai Z Z Z (jp.c _) Vi)<|wg Z<|wn Z<|aG<|bT mixed<|wD 0 Z (aN Z)<|wD 1 Z (aN Z)<|wD 2 Z (aD Z)<|wD 3 Z (aB (off:=2) (m:=2) qg Z gW Z Z Z)<|wD 4 Z (aK (rdr 3 Z) aa Z Z Z)<|wD 5 Z (aN Z)<|wD 6 Z (aD Z)<|wD 7 Z (aB (off:=1) (m:=1) qg Z SE Z Z Z)<|wD 8 Z (aK (rdr 3 Z) rq Z Z Z) ?_;refine wD 9 Z (aQ rq Z)<|wC 10 Z (bS .i64 [((n1:Nat):Int)] aa zs3 Z Z Z) ?_;rintro _ _ ⟨Nu,rfl,rfl⟩;refine⟨.inr λ_ h=>h.right (R':=[_]),?_⟩;refine wC 11 Z (bE 2 Z aa zb3 Z Z Z (rdr 0 Z)) ?_;rintro _ _ ⟨fc,ci,rfl,rfl⟩;refine⟨.inl cA,?_⟩;refine CK (v:=sl fc (n2+1) ci) Z<|wD 12 Z (aD Z)<|wD 13 Z (aB (off:=2) (m:=2) qg Z gW Z Z Z)<|pQ 14 Z cA (bA 4 Z Z Z gW Z Z Z Z (au Z)) ?_;rintro _ _ rfl;refine⟨.inl cA,?_⟩;refine wN<|wq<|wm Z<|wm Z<|wy (aQ ai Z)<|wy (aKs Z Z)<|wn Z<|wq<|wm Z<|wy (aQ ai Z)<|wm Z<|aA ?_;refine aI ?_;refine OQ (λ(j:Int) (B1:Option Addr) (m1:Nat) (d1:Nat) (U:List (Int × Int)) (B3:Option Addr) (m3:Nat) (d3:Nat) (V:List Int)=>[(3,PG al),(4,I (max lg (((rdl ws k).length:Nat):Int))),(5,I k),(16,sl gl ws.length gn),(17,I ((ws.length:Nat):Int)),(18,I k),(41,sl dj ((rdl ws k).length) dp),(42,I (((rdl ws k).length:Nat):Int)),(43,I j)]) (λj B1 m1 d1 U B3 m3 d3 V=>[(ri 3 (GG Nu) 1 1 ([((n1:Nat):Int)])),⟨230,2,B1,m1,d1,prs U,false⟩,(ri 3 fc (n2+1) ci (Bs++([((n1:Nat):Int)]))),(ri 3 B3 m3 d3 V),(rc 281 4 al [sl gl ws.length gn,sl B1 m1 d1,sl fc (n2+1) ci,sl B3 m3 d3])]) (λj B1 m1 d1 U B3 m3 d3 V=>(0<=j)/\(j<=(rdl ws k).length)/\(U=iI ws k.toNat++turnsOf k j.toNat)/\(m1=mO ws k.toNat+j.toNat)/\(V=(ws.take k.toNat).flatten++(rdl ws k).take j.toNat)/\(m3=mO ws k.toNat+j.toNat)) (λj B1 m1 d1 U B3 m3 d3 V=>((rdl ws k).length-j).toNat) ?_ ?_
  ·exact⟨0,A1,n1,c1,T,A3,n3,c3,Rs,⟨G,G,(by rw[hT];exact(jo _).symm),(Uo),(by rw[Kh];exact(jo _).symm),(Xr)⟩,SA,λ_ h=>h⟩
  intro j B1 m1 d1 U B3 m3 d3 V ⟨yd,Mn,hU,ln,hV,Xn⟩;refine wq<|wL Z Z<|aA<|aG<|bJ Z (λcr=> ?_) (λcr=> ?_)
  ·refine aJ<|aG<|aI<|wq<|wm Z<|wy (aH ai sz5 Z Z (Pz.c _))<|wy (aX cz Z Z (Pz.c _))<|wg Z<|wn Z<|wq<|wm Z<|wm Z ?_;refine wy (aD Z)<|wy (aB (off:=1) (m:=1) qg Z SE Z Z Z)<|wy (aK (rdr 4 Z) rq Z Z Z)<|wm Z<|wm Z<|wy (dU (v:= .agg #[I k,I j]) Z (λw=>cA))<|wa (aSf rq aWy rfl) ?_;rintro _ _ ⟨j6,rfl,rfl⟩;refine wa (CB 2 Z rq aWz Z Z Z Z (rdr 0 Z) G) ?_;rintro _ _ ⟨fz,ge,rfl,rfl⟩;refine bN (v:=sl fz (m1+1) ge) Z<|wy (aD Z)<|wy (aB (off:=1) (m:=1) qg Z SE Z Z Z)<|bX (bA 5 Z Z Z SE Z Z Z Z (au Z)) ?_;rintro _ _ rfl;refine aA<|aM<|wm Z<|wm Z<|wy (aD Z)<|wy (aB (off:=3) (m:=3) qg Z gW Z Z Z)<|wy (aK (rdr 5 Z) aa Z Z Z)<|wm Z<|wy (iV cz ak Z (by have Kn:=(byteL_wf (by assumption: ∀x∈rdl ws k,(Lit.int .u8 x).wf=true)).rd j;omega)) ?_;refine wa (bS .i64 [rd (rdl ws k) j] aa zs3 Z Z Z) ?_;rintro _ _ ⟨j8,rfl,rfl⟩;refine wa (bE 5 Z aa zb3 Z Z Z (rdr 0 Z)) ?_;rintro _ _ ⟨gd,gg,rfl,rfl⟩;refine bN (v:=sl gd (m3+1) gg) Z<|wy (aD Z)<|wy (aB (off:=3) (m:=3) qg Z gW Z Z Z)<|bX (bA 6 Z Z Z gW Z Z Z Z (au Z)) ?_;rintro _ _ rfl;refine aA<|aM<|wA Z Z<|wm Z<|aA ?_;exact⟨j+1,fz,(m1+1),ge,U++([(k,j)]),gd,(m3+1),gg,V++([rd (rdl ws k) j]),⟨G,G,(by rw[hU,OU k yd,ig]),G,(by rw[hV,ig,dD yd G]),G⟩,G,SA,λ_ h=>h.sel [2,3,4,5,6] cC Z⟩
  ·refine aZ<|aM<|wA Z Z<|wm Z<|aA ?_
   exact⟨k+1,max lg (((rdl ws k).length:Nat):Int),B1,m1,d1,U,fc,(n2+1),ci,Bs++([((n1:Nat):Int)]),B3,m3,d3,V,⟨G,G,G,(λw h0 h1=>by
      by_cases hw:w=k
      ·rw[hw];omega
      ·have:=Ug w h0 G;omega),(by have Ur:=kY nb (show k<ws.length by omega);omega),(by have hj:j.toNat=(rdl ws k).length:=G;rw[hU,hj,YD nb]),(by rw[ln,kY nb G];omega),(by rw[Mf,aBs nb,Uo]),G,(by have hj:j.toNat=(rdl ws k).length:=G;rw[hV,hj,ul,iM nb G]),(by rw[Xn,kY nb G];omega)⟩,G,SA,λ_ h=>h.sel [1,2,3,4] cC rfl⟩
 ·have Ue:k=ws.length:=G
  have Mp:k.toNat=ws.length:=G
  rw[Mp] at hT Mf Kh Uo hnB Xr l8;rw[ul] at Kh;have hoT:=AJ ws ws.length (dh _);have hoB:=OA ws ws.length;have hoR:mO ws ws.length=ws.flatten.length:=by unfold mO;rw[ul]
  obtain rfl:n1=T.length:=by rw[hT];omega
  obtain rfl:n2=Bs.length:=by rw[Mf];omega
  obtain rfl:n3=Rs.length:=by rw[Kh];omega
  have Tg:T.length<=1000000:=by rw[hT];omega
  refine aZ<|wq<|wm Z<|wy (aD Z)<|wy (aB (off:=1) (m:=1) qg Z SE Z Z Z)<|wy (aK (rdr 3 Z) rq Z Z Z)<|wa (aF bEg Z (Ct.fresh (λw hw=>aJr ((rdr 0 Z) w hw) Tg))) ?_;rintro _ _ ⟨_,rfl,wt,xa,rfl,rfl⟩;refine wn Z<|wq<|wn Z<|aG<|wq<|wn Z<|aI ?_;refine nU (λ(h:Int) (Me:Int) (l:List (Int × Int)) (A4:Option Addr) (c4:Nat) (rs:List Int)=>[(3,PG al),(4,I lg),(9,sl wt T.length xa),(10,I Me),(11,I h)]) (λh Me l A4 c4 rs=>[⟨230,2,wt,T.length,xa,prs l,false⟩,⟨230,2,A1,T.length,c1,prs T,false⟩,(ri 3 A2 Bs.length c2 Bs),(ri 3 A4 Rs.length c4 rs),(rc 281 4 al [sl gl ws.length gn,sl A1 T.length c1,sl A2 Bs.length c2,sl A4 Rs.length c4])]) (λh Me l A4 c4 rs=>(0<=h)/\(l.Perm T)/\(rs.length=Rs.length)/\(RK ws Bs (lX h) rs)/\(0<h->Sorted ws (lX h) l/\Go.Pure.Steps Bs rs l Me)) (λh Me l A4 c4 rs=>(2*lg-h).toNat) ?_ ?_
  ·exact⟨0,-1,T,A3,c3,Rs,⟨G,(.refl _),(Z),(by rw[Kh,Mf];exact aMh ws),(λh=>absurd h G)⟩,SA,λ_ h=>h⟩
  intro h Me l A4 c4 rs ⟨Rk,Ix,Rv,Re,ee⟩;have Mw: ∀t∈l,TV ws t:=λt ht=>yY.1 (by rw[<-hT];exact Ix.mem_iff.1 ht);have hvv: ∀t∈l,TOk ws Bs rs.length t:=λt ht=>by rw[Rv,Kh,Mf];exact aWq G (Mw t ht)
  have na: ∀t∈l,∀u∈l,gI Bs t=gI Bs u->t=u:=λt ht u hu e=>aNj (Mw t ht) (Mw u hu) (by rw[<-Mf];exact e);have hnd:l.Nodup:=Ix.nodup_iff.2 (by rw[hT];exact tK ws _);have Rw:Rs.length=ws.flatten.length:=by rw[Kh]
  have qn:=Ix.length_eq;have hTo:T.length=mO ws ws.length:=by rw[hT];exact hoT
  refine aG<|wq<|wm Z<|wm Z<|wy (gZ Z Z)<|wL Z Z<|aA<|bJ Z (λfd=> ?_) (λfd=> ?_)
  ·have da:l≠[]:=λe=>by rw[e] at qn;simp only[jy] at qn;omega
   refine aJ<|aG<|aI<|wq<|wm Z<|wm Z<|wm Z<|dH (R1:=[(rc 281 4 al [sl gl ws.length gn,sl A1 T.length c1,sl A2 Bs.length c2,sl A4 Rs.length c4]),⟨230,2,wt,T.length,xa,prs l,false⟩,(ri 3 A2 Bs.length c2 Bs),(ri 3 A4 Rs.length c4 rs),⟨230,2,A1,T.length,c1,prs T,false⟩]) (Sub.refl _) (λ_ h=>h.sel [4,0,2,3,1] cC Z)<|wa (aF bEf Z (aAl (bs:=Bs) (rs:=rs) (ts:=l) qn.symm Z Rv.symm (jp.c _) (λw hw=>nh.c hw) hvv na hnd da ⟨G,G⟩ ⟨Rk,G⟩)) ?_;rintro _ _ ⟨qe,Js,wv,xb,rfl,jj,Ge,Pe,vq,rfl⟩;have Ft:Sorted ws (fJ h) qe:=⟨λt ht=>Mw t (jj.mem_iff.1 ht),jj.nodup_iff.2 hnd,Ge.imp_of_mem λ{x y} hx hy hn ho=>hn ((aLl Rk Re (Mw y (jj.mem_iff.1 hy)) (Mw x (jj.mem_iff.1 hx))).2 ho)⟩;have Hk: ∀t,TV ws t->t∈qe:=λt ht=>jj.mem_iff.2 (Ix.mem_iff.2 (by rw[hT];exact yY.2 ht));have Td:=aTq Rk Re Ft Hk vq;have Vg:=YH Rk Re Ft vq;have kc:=jj.length_eq;refine wn Z<|aG<|wq<|wm Z<|wm Z<|wy (bC Z Z)<|wm Z<|dQ 3 [(3,PG al),(4,I lg),(9,sl wt T.length xa),(11,I h),(12,I (gK ws Bs rs h qe (qe.length-1))),(95, .bool (decide (((gK ws Bs rs h qe (qe.length-1))=Me)/\(0<h))))] [(rc 281 4 al [sl gl ws.length gn,sl A1 T.length c1,sl A2 Bs.length c2,sl wv Rs.length xb]),⟨230,2,wt,T.length,xa,prs qe,false⟩,(ri 3 A2 Bs.length c2 Bs),(ri 3 wv Rs.length xb Js),⟨230,2,A1,T.length,c1,prs T,false⟩] ?_ ?_
   ·refine cK 92 Z (λka=> ?_) (λka=> ?_)
    ·refine aC Z Z<|wm Z<|aC Z Z<|wy (dV Z Z)<|wy (aY Z Z)<|aA ?_;exact⟨SA,λ_ h=>h⟩
    ·refine aP Z Z Z Z<|aP Z Z Z Z<|wy (aR Z Z)<|aA ?_;exact⟨SA,λ_ h=>h⟩
   refine aA<|bJ Z (λkj=> ?_) (λkj=> ?_)
   ·refine aZ<|wq<|wm Z<|wn Z<|aT [1] 99 cC Z ?_;refine⟨_,Z,?_⟩;have mj:T.length=qe.length:=G
    rw[mj];refine⟨qe,_,_,Z,?_,?_,Z⟩
    ·rw[<-hT];exact jj.trans Ix
    ·exact stay kj.2 Re Ft Hk jj (ee kj.2).2 kj.1
   ·refine aJ<|aM<|wm Z<|wn Z<|aM<|wm Z<|wy (gZ Z Z)<|wy (aKs Z Z)<|wn Z ?_;exact⟨max 1 (2*h),gK ws Bs rs h qe (qe.length-1),qe,wv,xb,Js,⟨G,(jj.trans Ix),G,(by have e:lX (max 1 (2*h))=fJ h:=(by unfold lX fJ;split<;>omega);rw[e];exact Td),(λ_=>by have e:lX (max 1 (2*h))=fJ h:=(by unfold lX fJ;split<;>omega);rw[e];exact⟨Ft,Vg⟩)⟩,G,SA,λ_ h=>h.sel [1,4,2,3,0] cC rfl⟩
  ·refine aZ<|wq<|wm Z<|wn Z<|aT [0] 99 cC Z ?_;refine⟨_,Z,?_⟩;have mj:T.length=l.length:=G
   rw[mj];refine⟨l,_,_,Z,?_,?_,Z⟩
   ·rw[<-hT];exact Ix
   ·by_cases h0:0<h
    ·refine (ee h0).1.toO λt u ht hu e=>VH ht hu ?_ e;have a:=Ug t.1 ht.1 (by rw[Ue];exact ht.2.1);have b:=Ug u.1 hu.1 (by rw[Ue];exact hu.2.1);unfold lX;omega
    ·have m5:l=[]:=ed G;rw[m5];exact .nil
theorem aAi {w:World} {ao:Option Addr} {ap an:Nat} {u:List Int} (am:Rd w ao ap an 1 (ints .u8 u)) (hN:u.length<=1000000):
  Ct Tryz.prog 178 #[sl ao ap an] w.heap.size w [] (λv R'=> ∃A c,v=sl A (fB u).length c/\R'=[(ri 3 A ((fB u).length) c (fB u))]):=by
 obtain rfl:=am.lenI;refine fn1 Tryz.func178 Z Z Z ?_;have pd:=am.max;refine wq<|wn Z<|wq<|dH (R1:=[(ri 3 none 0 0 ([]))]) (Sub.refl _) (λ_ h=>h.nil 3 1)<|wn Z<|aG<|wq<|wn Z<|aI ?_;refine jN (λ(a:Int) (A1:Option Addr) (n1:Nat) (c1:Nat) (acc:List Int)=>[(0,sl ao u.length an),(3,sl A1 n1 c1),(4,I a)]) (λa A1 n1 c1 acc=>[(ri 3 A1 n1 c1 acc)]) (λa A1 n1 c1 acc=>(0<=a)/\(a<=u.length)/\(n1=acc.length)/\(acc.length<=a)/\(fB u=acc++fB (u.drop a.toNat))) (λa A1 n1 c1 acc=>(u.length-a).toNat) ?_ ?_
 ·exact⟨0,none,0,0,[],⟨G,G,(Z),cD,(Z)⟩,SA,λ_ h=>h⟩
 intro a A1 n1 c1 acc ⟨Rg,ha1,dd,Xm,Kw⟩;refine aG<|wq<|wm Z<|wm Z<|wy (aQ ai Z)<|wL Z Z<|aA<|bJ Z (λaq=> ?_) (λaq=> ?_)
 ·refine aJ<|aI<|wq<|wm Z<|wm Z<|wA Z Z<|wg Z<|wn Z<|aG<|aI ?_;refine dS (λ(i:Int) (j:Int)=>[(0,sl ao u.length an),(3,sl A1 n1 c1),(4,I a),(5,I i),(6,I j)]) (λi j=>[(ri 3 A1 n1 c1 acc)]) (λi j=>(a<=i)/\(i<j)/\(j<=u.length)/\(rQ u a (j-i))/\(rM u a (j-i) (j-a))) (λi j=>(u.length-j).toNat) ?_ ?_
  ·exact⟨a,a+1,⟨G,G,G,(DF.1),(DF.2)⟩,SA,λ_ h=>h⟩
  intro i j ⟨s7,na,hj,hL,hP⟩;refine aG ?_;refine vC [(0,sl ao u.length an),(3,sl A1 n1 c1),(4,I a),(5,I i),(6,I j),(28, .bool (decide ((j<((u.length:Nat):Int))/\((rd u i)<=(rd u j)))))] [(ri 3 A1 n1 c1 acc)] ?_ ?_
  ·refine bT mixed<|wD 0 Z (aN Z)<|wD 1 Z (aN Z)<|wD 2 Z (aQ ai Z)<|wD 3 Z (eO Z Z)<|wD 4 Z (aN Z)<|mZ 18 Z (λcr=> ?_) (λcr=> ?_)
   ·refine wG 5 Z Z Z (aN Z)<|wG 6 Z Z Z (aN Z)<|wG 7 Z Z Z (aH ai sz5 Z Z (am.c _))<|wG 8 Z Z Z (aX cz Z Z (am.c _))<|wG 9 Z Z Z (aN Z)<|wG 10 Z Z Z (aN Z)<|wG 11 Z Z Z (aH ai sz5 Z Z (am.c _))<|wG 12 Z Z Z (aX cz Z Z (am.c _))<|wG 13 Z Z Z (vT Z Z)<|wD 14 Z (aY Z Z)<|wN ?_;exact⟨SA,λ_ h=>h⟩
   ·refine wO 5 Z Z Z<|wO 6 Z Z Z<|wO 7 Z Z Z<|wO 8 Z Z Z<|wO 9 Z Z Z<|wO 10 Z Z Z<|wO 11 Z Z Z<|wO 12 Z Z Z<|wO 13 Z Z Z<|wD 14 Z (aR Z Z)<|wN ?_;exact⟨SA,λ_ h=>h⟩
  refine bJ Z (λfd=> ?_) (λfd=> ?_)
  ·refine aJ<|aI<|aG<|aG<|bT mixed<|wD 0 Z (aN Z)<|wD 1 Z (aN Z)<|wD 2 Z (aH ai sz5 Z Z (am.c _))<|wD 3 Z (aX cz Z Z (am.c _))<|wD 4 Z (aN Z)<|wD 5 Z (aN Z)<|wD 6 Z (aH ai sz5 Z Z (am.c _))<|wD 7 Z (aX cz Z Z (am.c _))<|wD 8 Z (eO Z Z)<|wN ?_;refine bJ Z (λka=> ?_) (λka=> ?_)
   ·refine aM<|wm Z<|wn Z<|aM<|wm Z<|wA Z Z<|wn Z ?_;exact⟨a,j+1,⟨G,G,G,((VS Rg s7 na hL hP ka).1),((VS Rg s7 na hL hP ka).2)⟩,G,SA,λ_ h=>h⟩
   ·refine aM<|wm Z<|wA Z Z<|wn Z<|aM<|wm Z<|wA Z Z<|wn Z ?_;exact⟨i+1,j+1,⟨G,G,G,((VT Rg s7 na hL hP fd.2 ka).1),((VT Rg s7 na hL hP fd.2 ka).2)⟩,G,SA,λ_ h=>h⟩
  ·refine aZ<|aI ?_;refine jN (λ(b:Int) (A2:Option Addr) (n2:Nat) (c2:Nat) (rv:List Int)=>[(0,sl ao u.length an),(3,sl A2 n2 c2),(4,I b),(5,I i),(6,I j)]) (λb A2 n2 c2 rv=>[(ri 3 A2 n2 c2 rv)]) (λb A2 n2 c2 rv=>(a<=b)/\(b<=j)/\(n2=rv.length)/\(rv.length<=b)/\(fB u=rv++fB (u.drop b.toNat))/\(b<=i->rQ u b (j-i)/\rM u b (j-i) (j-b))) (λb A2 n2 c2 rv=>(j-b).toNat) ?_ ?_
   ·exact⟨a,A1,n1,c1,acc,⟨G,G,(dd),(Xm),(Kw),(λ_=>⟨hL,hP⟩)⟩,SA,λ_ h=>h⟩
   intro b A2 n2 c2 rv ⟨a7,sk,ox,Uh,If,Qz⟩;refine aG<|wq<|wm Z<|wm Z<|wy (vT Z Z)<|aA<|bJ Z (λkj=> ?_) (λkj=> ?_)
   ·refine aJ<|aI<|wq<|wm Z<|wm Z<|wm Z<|wS Z Z<|wa (bS .i64 [j-i] aa zs3 Z Z Z) ?_;rintro _ _ ⟨cv,rfl,rfl⟩;refine wa (bE 1 Z aa zb3 Z Z Z (rdr 0 Z)) ?_;rintro _ _ ⟨ij,io,rfl,rfl⟩;refine bN (v:=sl ij (n2+1) io) Z<|wn Z<|aM<|wm Z<|wm Z<|wm Z<|wS Z Z<|wA Z Z<|wn Z ?_;exact⟨b+(j-i),ij,n2+1,io,rv++([j-i]),⟨G,G,(by rw[ah,ox];rfl),(by rw[ah,ic];omega),(by rw[If,aJa G kj na hj (Qz kj).1 (Qz kj).2 fd,ig];rfl),(λh=>aAk G na (Qz kj).1 (Qz kj).2 h)⟩,G,SA,λ_ h=>h.sel [1] cC Z⟩
   ·refine aZ ?_;exact⟨b,A2,n2,c2,rv,⟨G,G,(ox),(Uh),(If)⟩,G,SA,λ_ h=>h⟩
 ·refine aZ<|wq<|wm Z<|wn Z<|aT [0] 99 cC Z ?_;refine⟨_,Z,?_⟩;have e:(u.drop a.toNat).length=0:=by rw[bg];omega
  rw[VD e,jo] at Kw;rw[Kw];obtain rfl:=dd;exact⟨_,_,Z,Z⟩
end Go.Proofs.YtdbebmmhdefgdaaGreat
namespace Go.Pure
open Go Go.Eng
section
variable {u m V:List Int} {i:Int}
end
theorem aTy {l:List (Int × Int)} {f:Int × Int->Int} {i:Int} (h0:0<=i) (h:i<l.length):rd (l.map f) i=f (rdp l i):=by
 unfold rd rdp;rw[af,af,qo,av G];rfl
end Go.Pure
namespace Go.Proofs.YtdbebmmhdefgdaaGreat
open Go Go.Eng Go.Pure
open Tryz
set_option maxRecDepth 100000
theorem XU {s:List Int} {k:Int} (h:k=(fB s).length):gF s (fB s) k=bws s:=by rw[h];rfl
set_option maxHeartbeats 1000000 in
theorem JR {w:World} {ao:Option Addr} {ap an:Nat} {u:List Int} (am:Rd w ao ap an 1 (ints .u8 u)) (ac:aO u) (hN:u.length<=100000):
  Ct Tryz.prog 104 #[sl ao ap an] w.heap.size w [] (λv R'=> ∃(lt:List (Int × Int)) (A:Option Addr) (c:Nat),v= .tuple #[sl A lt.length c,I 0]/\lt.Perm (iI (bws u) (bws u).length)/\lt.Pairwise (pR (bws u))/\R'=[(ru 5 A lt.length c (lt.map (lastB (bws u))))]):=by
 obtain rfl:=am.lenI;refine fn2 Tryz.func104 Z Z Z ?_;have pd:=am.max;have qk:=VE u;refine wq<|wg Z<|wn Z<|aG<|wq<|wm Z<|wy (aQ ai Z)<|wy (Yl.f (dV Z Z))<|aA<|aL Z<|aJ<|aG ?_;refine aM<|dH (R1:=[⟨22,1,none,0,0,[],false⟩]) (Sub.refl _) (λ_ h=>h.nil 22 1)<|wn Z<|wq<|wn Z<|aG<|wq<|wm Z<|wa (aF bEx Z (Ct.fresh (λw hw=>aAi ((am.c _) w hw) G))) ?_;rintro _ _ ⟨_,rfl,bx,br,rfl,rfl⟩;refine wy (aQ aa Z)<|wm Z<|aA<|aI ?_;refine nU (λ(k:Int) (A1:Option Addr) (n1:Nat) (c1:Nat) (vals:List Value) (a:Int)=>[(0,sl ao u.length an),(4,sl A1 n1 c1),(5,I a),(16,sl bx ((fB (u)).length) br),(17,I (((fB (u)).length:Nat):Int)),(18,I k)]) (λk A1 n1 c1 vals a=>[(ri 3 bx ((fB (u)).length) br (fB (u))),⟨22,1,A1,n1,c1,vals,false⟩]) (λk A1 n1 c1 vals a=>(0<=k)/\(k<=(fB u).length)/\(n1=k.toNat)/\(SlW .u8 w vals (gF u (fB u) k))/\(a=ps (fB u) k)) (λk A1 n1 c1 vals a=>((fB u).length-k).toNat) ?_ ?_
 ·exact⟨0,none,0,0,[],0,⟨G,G,(Z),(jA _ _),(Z)⟩,SA,λ_ h=>h⟩
 intro k A1 n1 c1 vals a ⟨nb,xj,dd,tx,ha⟩;refine wq<|wL Z Z<|aA<|aG<|bJ Z (λaq=> ?_) (λaq=> ?_)
 ·have Ll:=lQ (L:=fB u) nb G;have qs:=bCs u (k+1);have ye:=MR (uM u) k;have Vd:=uM u _ (bH (L:=fB u) nb G)
  have Ve:SlW .u8 w (vals++[sl (iY ao a.toNat an 1) ((a+rd (fB u) k).toNat-a.toNat) (an-a.toNat)]) (gF u (fB u) (k+1)):=by
   rw[CG nb,<-ha,show(rd (fB u) k).toNat=(a+rd (fB u) k).toNat-a.toNat by omega];exact tx.snoc (am.cutI G G) (λx hx=>fH (ac x (pg (lu hx)))) (by rw[ax,bg];omega)
  refine aJ<|aG<|aI<|wq<|wy (aH aa sz3 Z Z (rdr 0 Z))<|wy (aX ak Z Z (rdr 0 Z))<|wn Z<|wq<|wm Z<|wm Z<|wm Z<|wm Z ?_;refine wm Z<|wA Z Z<|wy (aCg ai sz5 Z Z Z (am.c _) G G G)<|wa (nN [Value.slice (iY ao (a).toNat an 1) ((a+(rd (fB (u)) k)).toNat-(a).toNat) (an-(a).toNat)] gp xK Z Z Z Z) ?_;rintro _ _ ⟨gh,rfl,rfl⟩;refine wa (rJ 2 Z Z gp bCa Z Z Z Z Z (rdr 0 Z) (by simp[Value.oneCell']) (by dsimp only;omega)) ?_;rintro _ _ ⟨fk,nv,rfl,rfl⟩;refine bN (v:=sl fk (n1+1) nv) Z<|wn Z<|aM<|wm Z<|wm Z<|wA Z Z<|wn Z<|aM<|wA Z Z<|wm Z<|aA ?_;exact⟨k+1,fk,n1+1,nv,vals++([Value.slice (iY ao (a).toNat an 1) ((a+(rd (fB (u)) k)).toNat-(a).toNat) (an-(a).toNat)]),a+(rd (fB (u)) k),⟨G,G,G,(Ve),(by rw[Ll,ha])⟩,G,SA,λ_ h=>h.sel [1,2] cC Z⟩
 ·refine aZ<|wq<|wa (bS .u8 [] ai zs5 Z Z Z) ?_;rintro _ _ ⟨md,rfl,rfl⟩;refine wn Z<|aG<|wq<|wm Z<|wa (aF bEw Z (Ct.fresh (λw hw=>aLf ((rdr 2 Z) w hw) (tx.c hw) (by rw[XU (show k=(fB u).length by omega),nK,aWi];have:=VE u;omega)))) ?_;rintro _ _ ⟨_,rfl,lt,oe,cg,rfl,Lm,ee,rfl⟩;refine wy (aQ rq Z)<|wm Z<|aA<|aI ?_;refine jN (λ(q:Int) (B1:Option Addr) (m1:Nat) (d1:Nat) (acc:List Int)=>[(4,sl A1 n1 c1),(8,sl B1 m1 d1),(37,sl oe lt.length cg),(38,I ((lt.length:Nat):Int)),(39,I q)]) (λq B1 m1 d1 acc=>[⟨230,2,oe,lt.length,cg,prs lt,false⟩,(ru 5 B1 m1 d1 acc),(ri 3 bx ((fB (u)).length) br (fB (u))),⟨22,1,A1,n1,c1,vals,false⟩]) (λq B1 m1 d1 acc=>(0<=q)/\(q<=lt.length)/\(m1=acc.length)/\(acc.length=q.toNat)/\(acc=(lt.take q.toNat).map (lastB (gF u (fB u) k)))) (λq B1 m1 d1 acc=>(lt.length-q).toNat) ?_ ?_
  ·exact⟨0,GG md,0,0,[],⟨G,G,(Z),(Z),(Z)⟩,SA,λ_ h=>h⟩
  intro q B1 m1 d1 acc ⟨gv,f9,ln,haq,bb⟩;have qn:lt.length=u.length:=by rw[XU (show k=(fB u).length by omega)] at Lm;exact zS Lm
  refine wq<|wL Z Z<|aA<|aG<|bJ Z (λcr=> ?_) (λcr=> ?_)
  ·have ht:=yY.1 (Lm.subset (lM (l:=lt) gv G));have u7:=ht.2.2;have he0:=ym ((rdp lt q).2+(rdl (gF u (fB u) k) (rdp lt q).1).length-1) (show((rdl (gF u (fB u) k) (rdp lt q).1).length:Int)≠0 by omega);have b5:=wz ((rdp lt q).2+(rdl (gF u (fB u) k) (rdp lt q).1).length-1) (show(0:Int)<(rdl (gF u (fB u) k) (rdp lt q).1).length by omega);refine aJ<|aG<|aI<|wq<|wy (gV rq mE Z Z (rdr 0 Z) Z)<|wy (EW kg Z mE Z (rdr 0 Z))<|wa (iH (sz:=2) aKm Z) ?_;rintro _ _ ⟨zr,rfl,rfl⟩;refine bX (fQ (vs:=[I ((rdp lt q).1),I ((rdp lt q).2)]) 0 Z mE Z Z Z (by intro v hv;simp at hv;rcases hv with rfl|rfl<;>rfl) Z) ?_;rintro _ _ rfl;refine aA<|wq<|wm Z<|wy (dC (q:=0) (rdr 0 Z) kg sz3 Z Z (au Z) cC cC Z)<|wy (aK (rdr 0 Z) ak Z Z Z)<|wy (aH gp dO Z Z (rdr 4 Z) (by first|exact ht.1|(have:=ht.2.1;rw[rT] at this;omega)) (by first|exact ht.1|(have:=ht.2.1;rw[rT] at this;omega))) ?_;refine tx.elim (i:=(rdp lt q).1) (by first|exact ht.1|exact ht.2.1) (by first|exact ht.1|exact ht.2.1) (λg8 i8 Qj Jk Wu Vy=> ?_);refine wy (AB ai Z Z Z (rdr 4 Z) Qj)<|wn Z<|aM<|wm Z<|wm Z<|wy (dC (q:=1) (rdr 0 Z) kg sz3 Z Z (au Z) cC cC Z)<|wy (aK (rdr 0 Z) ak Z Z Z)<|wm Z<|wy (aQ ai Z)<|wA Z Z<|wS Z Z<|wm Z<|wy (aQ ai Z)<|wy (CE Z Z) ?_;refine wy (aH ai sz5 Z Z (Jk.c _))<|wy (aX cz Z Z (Jk.c _))<|wa (bS .u8 [rd (rdl (gF u (fB u) k) ((rdp lt q).1)) (((((rdp lt q).2)+(((rdl (gF u (fB u) k) ((rdp lt q).1)).length:Nat):Int))-1)%(((rdl (gF u (fB u) k) ((rdp lt q).1)).length:Nat):Int))] ai zs5 Z Z Z) ?_;rintro _ _ ⟨Kb,rfl,rfl⟩;refine wa (bE 3 Z ai zb5 Z Z Z (rdr 0 Z)) ?_;rintro _ _ ⟨w5,w9,rfl,rfl⟩;refine bN (v:=sl w5 (m1+1) w9) Z<|wn Z<|aM<|wA Z Z<|wm Z<|aA ?_;exact⟨q+1,w5,m1+1,w9,acc++([rd (rdl (gF u (fB u) k) ((rdp lt q).1)) (((((rdp lt q).2)+(((rdl (gF u (fB u) k) ((rdp lt q).1)).length:Nat):Int))-1)%(((rdl (gF u (fB u) k) ((rdp lt q).1)).length:Nat):Int))]),⟨G,G,(by rw[ah,ln];rfl),(by rw[ah,haq,ic];omega),(by rw[aLn gv G,jh,bb];rfl)⟩,G,SA,λ_ h=>h.sel [2,3,4,5] cC Z⟩
  ·refine aZ<|wq<|wm Z<|wg Z<|wn Z<|aT [1] 99 cC Z ?_;refine⟨_,_,Z,Z,?_⟩;have e:k=(fB u).length:=G
   rw[XU e] at Lm ee bb;rw[bn G] at bb;subst bb;obtain rfl:m1=lt.length:=by rw[ln,bi]
   exact⟨lt,_,_,Z,Lm,ee,Z⟩
end Go.Proofs.YtdbebmmhdefgdaaGreat
namespace Go.Pure
open Go Go.Eng
section
variable {p:List Int}
theorem sZ {j:Int} (j0:0<=j): ∀(f:Nat) (E:List Bool) (k:Int),(hp:p.Perm (iota p.length))->E.length=p.length->0<=k->k<p.length->rdb E j=true->rdb (fK p f E k).2 j=true
 |0,E,k,_,_,_,_,h=>h
 | f+1,E,k,hp,hl,k0,hk,h=>by
  rw[fK];split
  ·exact h
  ·have hn:=aW.1 (hp.subset (bH (L:=p) k0 hk));refine sZ j0 f _ _ hp (by rw[kF];exact hl) hn.1 hn.2 ?_;rw[vI k0 G j0];split
   ·rfl
   ·exact h
theorem RA (hp:p.Perm (iota p.length)) {f:Nat} {E:List Bool} {k:Int} (hl:E.length=p.length) (k0:0<=k) (hk:k<p.length) (hf:cntF E<=f):rdb (fK p f E k).2 k=true:=by
 by_cases h:rdb E k=true
 ·rw[rU h];exact h
 ·rw [FB k0 G hf h];have hn:=aW.1 (hp.subset (bH (L:=p) k0 hk));exact sZ k0 _ _ _ hp (by rw[kF];exact hl) hn.1 hn.2 (by rw[vI k0 G k0,cu rfl])
theorem BR (hp:p.Perm (iota p.length)): ∀i:Nat,i<=p.length-> ∀j:Nat,j<i->rdb (iC p i).1 j=true
 |0,_,j,hj=>G
 | i+1,hi,j,hj=>by
  have hf:=kU hp i G;have hc:cntF (iC p i).1<=p.length:=by have:=hf.2.2;omega
  rw[iC];rcases fe j i with g|g
  ·exact sZ G _ _ _ hp hf.1 G G (BR hp i G j g)
  ·obtain rfl:j=i:=G
   exact RA hp hf.1 G G hc
theorem aJo {E:List Bool} (h: ∀j:Nat,j<E.length->rdb E j=true):cntF E=0:=by
 unfold cntF;rw[Bf];intro b hb;obtain⟨j,hj,rfl⟩:=gz.1 hb;have:=h j hj;have e:rdb E (j:Int)=E[j]:=by unfold rdb;rw[az,af,av hj];rfl
 rw[e] at this;rw[this];simp
theorem WB (hp:p.Perm (iota p.length)):(dX p).flatten.length=p.length:=by
 have hf:=kU hp p.length (dh _);have:=aJo (E:=(iC p p.length).1) λj hj=>BR hp p.length (dh _) j (by rw[hf.1] at hj;exact hj);unfold dX;omega
theorem aKg (l:List Int) (cs:List (List Int)):(backL l cs).length=cs.flatten.length:=by
 unfold backL;rw[si,xz,si,Hd,List.sum_reverse];congr 2;funext c;exact mH l c
theorem aHk {l:List Int} {cs:List (List Int)} {x:Int} (h:x∈backL l cs): ∃y,y∈cs.flatten/\x=rd l y:=by
 unfold backL at h;obtain⟨w,hw,hx⟩:=Az.1 h;obtain⟨c,hc,rfl⟩:=il.1 hw;unfold jU at hx;obtain⟨y,hy,rfl⟩:=il.1 hx;exact⟨y,Az.2 ⟨c,Ba.1 hc,Ba.1 hy⟩,rfl⟩
theorem aKh {l:List Int} (hl:aO l) (cs:List (List Int)):aO (backL l cs):=λx hx=>by
 obtain⟨y,_,rfl⟩:=aHk hx;exact hl.rd _
theorem aWa {cs:List (List Int)} {k:Int} (k0:0<=k) (hk:k<cs.length):rdl cs k∈cs:=by
 unfold rdl;rw[af,av G];exact kz _
theorem aBt {l acc nc:List Int} {cs:List (List Int)} {m kr:Nat} (hm:m=cs.length) (Lc:kr<m) (bb:acc=(((cs.reverse).take kr).map (jU l)).flatten) (h2:nc=acc++(((rdl cs ((m-1-kr:Nat):Int)).reverse).take (rdl cs ((m-1-kr:Nat):Int)).length).map (rd l)):nc=(((cs.reverse).take (kr+1)).map (jU l)).flatten:=by
 rw[aBu G,h2,bb,bn (l:=(rdl cs ((m-1-kr:Nat):Int)).reverse) (by rw[oz];exact dh _),show((m-1-kr:Nat):Int)=(cs.length:Int)-1-kr by omega];rfl
theorem XR {l acc nc c:List Int} {kq:Nat} (hk:kq<c.length) (h:nc=acc++((c.reverse).take kq).map (rd l)):nc++[rd l (rd c ((c.length-1-kq:Nat):Int))]=acc++((c.reverse).take (kq+1)).map (rd l):=by
 rw[XT hk,<-ig,<-h,show((c.length-1-kq:Nat):Int)=(c.length:Int)-1-kq by omega]
theorem aJi {p:List Int}:(dX p).length<=p.length:=JE p p.length
end
end Go.Pure
namespace Go.Proofs.YtdbebmmhdefgdaaGreat
open Go Go.Eng Go.Pure
open Tryz
set_option maxRecDepth 100000
variable {B eh bo:Nat} {w0:World} {R:List Row} {bp:Option Addr}
theorem XF:
  Ct Tryz.prog 185 #[sl bp eh bo] B w0 R (λv R'=> ∃g,v= .func (.func 240) #[] #[PG g]/\R'=(rc 232 1 g [sl bp eh bo])::R):=by
 refine fn1 Tryz.func185 Z Z Z ?_;refine wq<|wa (bY (sz:=1) Z Z) ?_;rintro _ _ ⟨g,rfl,rfl⟩;refine wn Z<|wq<|wy (kQ Z Z)<|wn Z<|dF ?_;exact⟨_,Z,g,Z,Z⟩
theorem XG:
  Ct Tryz.prog 186 #[sl bp eh bo] B w0 R (λv R'=> ∃g,v= .func (.func 241) #[] #[PG g]/\R'=(rc 52 1 g [sl bp eh bo])::R):=by
 refine fn1 Tryz.func186 Z Z Z ?_;refine wq<|wa (bY (sz:=1) Z Z) ?_;rintro _ _ ⟨g,rfl,rfl⟩;refine wn Z<|wq<|wy (kQ Z Z)<|wn Z<|dF ?_;exact⟨_,Z,g,Z,Z⟩
set_option maxHeartbeats 2000000 in
theorem JS {w:World} {ao:Option Addr} {ap an:Nat} {u:List Int} (am:Rd w ao ap an 1 (ints .u8 u)) (ac:aO u) (hN:u.length<=100000):
  Ct Tryz.prog 110 #[sl ao ap an] w.heap.size w [] (λv R'=> ∃A c,v= .tuple #[sl A (backL u (dX (fsL u))).length c,I 0]/\R'=[(ru 5 A ((backL u (dX (fsL u))).length) c (backL u (dX (fsL u))))]):=by
 obtain rfl:=am.lenI;refine fnV Tryz.func110 Z Z ?_;have pd:=am.max;have Tx:=aPn ac;have qk:=vR u;have kc:=aQx Tx;have hcf:=aJi (p:=fsL u);refine fP ?_;refine aM<|wa (bY (sz:=1) Z Z) ?_;rintro _ _ ⟨al,rfl,rfl⟩;refine wg Z<|wn Z ?_;refine fP ?_;refine wq<|wy (aK (rdr 0 Z) ai Z Z Z)<|wy (aQ ai Z)<|wy (Yl.f (dV Z Z))<|aA<|aL Z<|aJ ?_;refine fP ?_;refine aM<|wy (aK (rdr 0 Z) ai Z Z Z)<|wa (aF bEs Z (Ct.fresh (λw hw=>aVg ((am.c _) w hw) ac G))) ?_;rintro _ _ ⟨_,rfl,ij,io,rfl,rfl⟩;refine wa (aF bEt Z (Ct.fresh (λw hw=>aJh ((rdr 0 Z) w hw) Tx G))) ?_;rintro _ _ ⟨_,rfl,fk,nv,cq,Jw,rfl,nw,rfl⟩;have Mt:=nw.1;refine dH (R1:=(⟨52,1,fk,cq.length,nv,cq,false⟩::(ri 3 ij ((fsL u).length) io (fsL u))::(rc 22 1 al [sl ao u.length an])::Jw)) (Sub.refl _) (λ_ h=>Hp.toTail0 (X:=[_]) (Y:=[_,_]) h)<|wm Z<|wX Z Z<|wX Z Z<|wg Z<|wn Z ?_;refine fP ?_;refine aM<|wa (bS .u8 [] ai zs5 Z Z Z) ?_;rintro _ _ ⟨An,rfl,rfl⟩;refine wa (iH (sz:=1) bBv Z) ?_;rintro _ _ ⟨j7,rfl,rfl⟩;refine bX (bA 0 Z Z Z dO Z Z Z Z (au Z)) ?_;rintro _ _ rfl;refine aA ?_;refine aCn ?_;refine fP ?_;refine aM<|wm Z<|wa (aF bEr Z (XF)) ?_;rintro _ _ ⟨zr,rfl,rfl⟩;refine aA ?_;refine EC ?_;refine aFs Z bEe (aRv (A:=fk) (c:=nv) (xs:=cq) (by have:=nw.1;omega)) Z (λ_=>Z) Gd.refl (λ(kr:Nat) (A1:Option Addr) (n1:Nat) (c1:Nat) (acc:List Int)=>((rc 232 1 zr [sl fk cq.length nv])::(rc 22 1 j7 [sl A1 n1 c1])::(ru 5 A1 n1 c1 acc)::⟨52,1,fk,cq.length,nv,cq,false⟩::(ri 3 ij ((fsL u).length) io (fsL u))::(rc 22 1 al [sl ao u.length an])::Jw)) (λkr A1 n1 c1 acc=>(n1=acc.length)/\(acc=(((dX (fsL u)).reverse.take kr).map (jU u)).flatten)) ?_ ?_ ?_ ?_
 ·exact⟨GG An,0,0,[],⟨(Z),(Z)⟩,λ_ h=>h⟩
 ·intro kr A1 n1 c1 acc w ⟨dd,bb⟩ hw;exact⟨(rdr 0 Z) w hw,(rdr 3 Z) w hw⟩
 ·intro lr kr A1 n1 c1 acc Wd Lc ⟨dd,bb⟩ Oj;have wb:acc.length<=u.length:=by rw[bb];exact sw UY G
  obtain⟨gd,gg,Jo,Px⟩:=nw.at (i:=((cq.length-1-kr:Nat):Int)) G (by have:=nw.1;omega)
  have Ou:cq[cq.length-1-kr]?.getD undef=sl gd (rdl (dX (fsL u)) ((cq.length-1-kr:Nat):Int)).length gg:=by
   rw[az] at Jo;rw[Jo];rfl
  refine bGb (d:=24) (v:=sl gd (rdl (dX (fsL u)) ((cq.length-1-kr:Nat):Int)).length gg) (bz some Ou) ?_;have pj:rdl (dX (fsL u)) ((cq.length-1-kr:Nat):Int)∈dX (fsL u):=aWa G (by have:=nw.1;omega);have hcl2:(rdl (dX (fsL u)) ((cq.length-1-kr:Nat):Int)).length<=u.length:=by have:=List.Sublist.length_le (List.sublist_flatten_of_mem pj);omega
  refine aM<|wn Z ?_;intro Nm xp Pd;refine aI<|wq<|wm Z<|wa (aF aYf Z (XG)) ?_;rintro _ _ ⟨Kb,rfl,rfl⟩;refine aA<|aI ?_;refine aKx Z aXz (JU (A:=gd) (c:=gg) (zs:=rdl (dX (fsL u)) ((cq.length-1-kr:Nat):Int)) G) Z (λ_=>Z) ⟨_,Pd.choose_spec⟩ (λ(kq:Nat) (A2:Option Addr) (n2:Nat) (c2:Nat) (nc:List Int)=>((rc 52 1 Kb [sl gd ((rdl (dX (fsL u)) ((cq.length-1-kr:Nat):Int)).length) gg])::(rc 232 1 zr [sl fk cq.length nv])::(rc 22 1 j7 [sl A2 n2 c2])::(ru 5 A2 n2 c2 nc)::⟨52,1,fk,cq.length,nv,cq,false⟩::(ri 3 ij ((fsL u).length) io (fsL u))::(rc 22 1 al [sl ao u.length an])::Jw)) (λkq A2 n2 c2 nc=>(n2=nc.length)/\(nc=acc++((rdl (dX (fsL u)) ((cq.length-1-kr:Nat):Int)).reverse.take kq).map (rd u))) ?_ ?_ ?_ ?_
  ·exact⟨A1,n1,c1,acc,⟨(dd),(by rw[xk];simp)⟩,λ_ h=>h⟩
  ·intro kq A2 n2 c2 nc w ⟨ox,vc⟩ hw;exact⟨(rdr 0 Z) w hw,(λ_ h=>Px _ _ _ (h.right (R':=[_,_,_,_,_,_,_]))) w hw⟩
  ·intro lr kq A2 n2 c2 nc Za hkq ⟨ox,vc⟩ To;have pn:=aEv Tx _ pj _ (bH (L:=rdl (dX (fsL u)) ((cq.length-1-kr:Nat):Int)) (k:=(((rdl (dX (fsL u)) ((cq.length-1-kr:Nat):Int)).length-1-kq:Nat):Int)) G G);have Km:nc.length<=acc.length+(rdl (dX (fsL u)) ((cq.length-1-kr:Nat):Int)).length:=by rw[vc,ah,bi,ax,oz];omega
   refine aM<|wn Z ?_;intro Sk xr Xk;refine aI<|bT mixed<|wD 0 Z (aK (rdr 2 Z) ai Z Z Z)<|wD 1 Z (aK (rdr 6 Z) ai Z Z Z)<|wD 2 Z (aN Z)<|wD 3 Z (aH ai sz5 Z Z (am.cb (xp.trans xr) _))<|wD 4 Z (aX cz Z Z (am.cb (xp.trans xr) _))<|wC 5 Z (bS .u8 [rd u (rd (rdl (dX (fsL u)) ((cq.length-1-kr:Nat):Int)) (((rdl (dX (fsL u)) ((cq.length-1-kr:Nat):Int)).length-1-kq:Nat):Int))] ai zs5 Z Z Z) ?_;rintro _ _ ⟨tc,rfl,rfl⟩;refine⟨.inr λ_ h=>h.right (R':=[_]),?_⟩;refine wC 6 Z (bE 4 Z ai zb5 Z Z Z (rdr 0 Z)) ?_;rintro _ _ ⟨ot,ov,rfl,rfl⟩;refine⟨.inl cA,?_⟩;refine CK (v:=sl ot (n2+1) ov) Z<|pQ 7 Z cA (bA 3 Z Z Z dO Z Z Z Z (au Z)) ?_;rintro _ _ rfl;refine⟨.inl cA,?_⟩;refine wN ?_;exact⟨ot,n2+1,ov,nc++([rd u (rd (rdl (dX (fsL u)) ((cq.length-1-kr:Nat):Int)) (((rdl (dX (fsL u)) ((cq.length-1-kr:Nat):Int)).length-1-kq:Nat):Int))]),⟨(by rw[ah,ox];rfl),(XR hkq vc)⟩,λ_=>λ_ h=>h.selR (F:=[_,_,_,_,_,_,_,_]) (F':=[_,_,_,_,_,_,_]) [1,2,3,4,5,6,7] cC Z⟩
  intro A2 n2 c2 nc ⟨ox,vc⟩;exact⟨A2,n2,c2,nc,⟨(ox),(aBt nw.1 Lc bb vc)⟩,λ_=>λ_ h=>h.selR (F:=[_,_,_,_,_,_,_]) (F':=[_,_,_,_,_,_]) [1,2,3,4,5,6] cC Z⟩
 intro No Wc A1 n1 c1 acc ⟨dd,bb⟩ Hs vb;have hvl:=nw.1;refine aCp ?_;refine aSp ?_;refine v_w ?_;refine wq<|wy (aK (rdr 1 Z) ai Z Z Z)<|wg Z<|wn Z<|bR (R1:=[(ru 5 A1 n1 c1 acc)]) (λ_ h=>(h.selR (F:=[_,_,_,_,_,_]) (F':=[_]) [2] cC Z).left (X:=[_])) ?_;refine aPr Z vb ⟨_,_,Z,Z,?_⟩;rw[bn (by rw[oz];omega)] at bb;obtain rfl:acc=backL u (dX (fsL u)):=bb;obtain rfl:=dd;exact⟨_,_,Z,Z⟩
variable {w:World} {ao:Option Addr} {ap an:Nat} {u S:List Int} {m k r:Int}
set_option maxHeartbeats 800000 in
theorem aRq {g9:Option Addr} {Ma i9:Nat} {a:List Int} (am:Rd w ao ap an 1 (ints .u8 u)) (vx:Rd w g9 Ma i9 1 (ints .i64 a)) (hp:a.Perm (iota u.length)) (hN:u.length<=1000000):
  Ct Tryz.prog 124 #[sl ao ap an,sl g9 Ma i9] w.heap.size w [] (λv R'=> ∃A c,v= .tuple #[sl A (ofL u a).length c,I (zat a),bt]/\R'=[(ru 5 A ((ofL u a).length) c (ofL u a))]):=by
 obtain rfl:=am.lenI;obtain rfl:=vx.lenI;refine fn3 Tryz.func124 Z Z Z ?_;have pd:=am.max;have Yk:=vx.max;have Tj:a.length=u.length:=by rw[hp.length_eq,bF]
 have hnd:a.Nodup:=hp.symm.nodup (eT _);have ue:a.Perm (iota a.length):=by rw[Tj];exact hp
 refine wq<|wg Z<|wg Z<|wn Z<|aG<|wq<|wm Z<|wy (aQ aa Z)<|wm Z<|wy (aQ ai Z)<|wy (Yl.f (iZ Z Z))<|wm Z ?_;refine aC Z Z<|wm Z<|aC Z Z<|wa (aF aYd Z (Ct.quiet (λw hw=>aMm ((vx.c _) w hw) ue G))) ?_;rintro _ _ ⟨rfl,rfl⟩;refine aC Z Z<|wy (dI Z)<|wy (aR Z Z)<|aA<|aL Z<|aJ<|wq<|wa (bS .u8 [] ai zs5 Z Z Z) ?_;rintro _ _ ⟨cv,rfl,rfl⟩;refine wn Z<|aG<|wq<|wm Z<|wy (aQ ai Z)<|wy (dV Z Z)<|aA<|bJ Z (λaq=> ?_) (λaq=> ?_)
 ·refine aM<|wm Z<|wm Z<|wm Z<|wy (aQ ai Z)<|wS Z Z<|wy (aH ai sz5 Z Z (am.c _))<|wy (aX cz Z Z (am.c _))<|wa (bS .u8 [rd u (((u.length:Nat):Int)-1)] ai zs5 Z Z Z) ?_;rintro _ _ ⟨gh,rfl,rfl⟩;refine wa (bE 1 Z ai zb5 Z Z Z (rdr 0 Z)) ?_;rintro _ _ ⟨fk,nv,rfl,rfl⟩;refine bN (v:=sl fk (0+1) nv) Z<|wn Z<|aG<|wq<|wm Z<|wy (aQ aa Z)<|wm Z<|aA<|aI ?_;refine nU (λ(i:Int) (A1:Option Addr) (n1:Nat) (c1:Nat) (acc:List Int) (m:Int)=>[(0,sl ao u.length an),(4,sl A1 n1 c1),(5,I m),(32,sl g9 a.length i9),(33,I ((a.length:Nat):Int)),(34,I i)]) (λi A1 n1 c1 acc m=>[(ru 5 (GG gh) 1 1 ([rd u (((u.length:Nat):Int)-1)])),(ru 5 A1 n1 c1 acc)]) (λi A1 n1 c1 acc m=>(0<=i)/\(i<=a.length)/\(n1=acc.length)/\(acc=(if 0<u.length then [rd u (u.length-1)] else [])++ofT u (a.take i.toNat))/\(m=zat (a.take i.toNat))) (λi A1 n1 c1 acc m=>(a.length-i).toNat) ?_ ?_
  ·exact⟨0,fk,0+1,nv,([])++([rd u (((u.length:Nat):Int)-1)]),0,⟨G,G,(by first|rfl|simp),(by first|(rw[cu G];rfl)|(rw[bu G];rfl)),(Z)⟩,SA,λ_ h=>h⟩
  intro i A1 n1 c1 acc m ⟨ar,ia,dd,bb,hm⟩
  have wb:acc.length<=i.toNat+1:=by
   have h1:=aDy u (a.take i.toNat);rw[ax] at h1;rw[bb,ah];split<;>simp only[dm,jy]<;>omega
  have s7:i<a.length->0<=rd a i/\rd a i<u.length:=λh=>aW.1 (hp.subset (bH ar h));refine wq<|wL Z Z<|aA<|aG<|bJ Z (λcr=> ?_) (λcr=> ?_)
  ·have Ti:=s7 G;refine aJ<|aG<|aI<|wq<|wm Z<|wy (aH aa sz3 Z Z (vx.c _))<|wy (aX ak Z Z (vx.c _))<|wg Z<|wn Z<|aG<|wq<|wm Z ?_;refine wy (bC Z Z)<|aA<|bJ Z (λfd=> ?_) (λfd=> ?_)
   ·refine wq<|wm Z<|wA Z Z<|wn Z<|aZ<|aM<|wA Z Z<|wm Z<|aA ?_;exact⟨i+1,A1,n1,c1,acc,i+1,⟨G,G,(dd),(aDx ar G bb cF),(aCf hnd ar G cF)⟩,G,SA,λ_ h=>h⟩
   ·refine aJ<|aM<|wm Z<|wm Z<|wm Z<|wS Z Z<|wy (aH ai sz5 Z Z (am.c _))<|wy (aX cz Z Z (am.c _))<|wa (bS .u8 [rd u ((rd a i)-1)] ai zs5 Z Z Z) ?_;rintro _ _ ⟨md,rfl,rfl⟩;refine wa (bE 2 Z ai zb5 Z Z Z (rdr 0 Z)) ?_;rintro _ _ ⟨bc,bh,rfl,rfl⟩;refine bN (v:=sl bc (n1+1) bh) Z<|wn Z<|aM<|wA Z Z<|wm Z<|aA ?_;exact⟨i+1,bc,n1+1,bh,acc++([rd u ((rd a i)-1)]),m,⟨G,G,(by rw[ah,dd];rfl),(aNz ar G bb cF),(aKn hnd ar G hm cF)⟩,G,SA,λ_ h=>h.sel [1,2] cC Z⟩
  ·refine aZ<|wq<|wm Z<|wm Z<|wg Z<|wg Z<|wn Z<|aT [1] 99 cC Z ?_;refine⟨_,_,_,Z,Z,Z,?_⟩;have Vh:a.take i.toNat=a:=bn G;rw[Vh] at bb hm;obtain rfl:acc=ofL u a:=bb;obtain rfl:=dd;subst hm;exact⟨_,_,Z,Z⟩
 ·refine aJ<|aG<|wq<|wm Z<|wy (aQ aa Z)<|wm Z<|aA<|aI ?_;refine nU (λ(i:Int) (A1:Option Addr) (n1:Nat) (c1:Nat) (acc:List Int) (m:Int)=>[(0,sl ao u.length an),(4,sl A1 n1 c1),(5,I m),(32,sl g9 a.length i9),(33,I ((a.length:Nat):Int)),(34,I i)]) (λi A1 n1 c1 acc m=>[(ru 5 A1 n1 c1 acc)]) (λi A1 n1 c1 acc m=>(0<=i)/\(i<=a.length)/\(n1=acc.length)/\(acc=(if 0<u.length then [rd u (u.length-1)] else [])++ofT u (a.take i.toNat))/\(m=zat (a.take i.toNat))) (λi A1 n1 c1 acc m=>(a.length-i).toNat) ?_ ?_
  ·exact⟨0,GG cv,0,0,[],0,⟨G,G,(by first|rfl|simp),(by first|(rw[cu G];rfl)|(rw[bu G];rfl)),(Z)⟩,SA,λ_ h=>h⟩
  intro i A1 n1 c1 acc m ⟨ar,ia,dd,bb,hm⟩
  have wb:acc.length<=i.toNat+1:=by
   have h1:=aDy u (a.take i.toNat);rw[ax] at h1;rw[bb,ah];split<;>simp only[dm,jy]<;>omega
  have s7:i<a.length->0<=rd a i/\rd a i<u.length:=λh=>aW.1 (hp.subset (bH ar h));refine wq<|wL Z Z<|aA<|aG<|bJ Z (λka=> ?_) (λka=> ?_)
  ·have Ti:=s7 G;refine aJ<|aG<|aI<|wq<|wm Z<|wy (aH aa sz3 Z Z (vx.c _))<|wy (aX ak Z Z (vx.c _))<|wg Z<|wn Z<|aG<|wq<|wm Z ?_;refine wy (bC Z Z)<|aA<|bJ Z (λkj=> ?_) (λkj=> ?_)
   ·refine wq<|wm Z<|wA Z Z<|wn Z<|aZ<|aM<|wA Z Z<|wm Z<|aA ?_;exact⟨i+1,A1,n1,c1,acc,i+1,⟨G,G,(dd),(aDx ar G bb cF),(aCf hnd ar G cF)⟩,G,SA,λ_ h=>h⟩
   ·refine aJ<|aM<|wm Z<|wm Z<|wm Z<|wS Z Z<|wy (aH ai sz5 Z Z (am.c _))<|wy (aX cz Z Z (am.c _))<|wa (bS .u8 [rd u ((rd a i)-1)] ai zs5 Z Z Z) ?_;rintro _ _ ⟨An,rfl,rfl⟩;refine wa (bE 1 Z ai zb5 Z Z Z (rdr 0 Z)) ?_;rintro _ _ ⟨ff,fg,rfl,rfl⟩;refine bN (v:=sl ff (n1+1) fg) Z<|wn Z<|aM<|wA Z Z<|wm Z<|aA ?_;exact⟨i+1,ff,n1+1,fg,acc++([rd u ((rd a i)-1)]),m,⟨G,G,(by rw[ah,dd];rfl),(aNz ar G bb cF),(aKn hnd ar G hm cF)⟩,G,SA,λ_ h=>h.sel [1] cC Z⟩
  ·refine aZ<|wq<|wm Z<|wm Z<|wg Z<|wg Z<|wn Z<|aT [0] 99 cC Z ?_;refine⟨_,_,_,Z,Z,Z,?_⟩;have Vh:a.take i.toNat=a:=bn G;rw[Vh] at bb hm;obtain rfl:acc=ofL u a:=bb;obtain rfl:=dd;subst hm;exact⟨_,_,Z,Z⟩
theorem aRn (am:Rd w ao ap an 1 (ints .u8 u)) (ac:aO u) (hN:u.length<=100000):
  Ct Tryz.prog 103 #[sl ao ap an] w.heap.size w [] (λv R'=> ∃(b:List Int) (A:Option Addr) (c:Nat),v= .tuple #[sl A (ofL u b).length c,I (zat b),I 0]/\b.Perm (iota u.length)/\b.Pairwise (bU u)/\R'=[(ru 5 A ((ofL u b).length) c (ofL u b))]):=by
 obtain rfl:=am.lenI;refine fn3 Tryz.func103 Z Z Z ?_;have pd:=am.max;refine wq<|wg Z<|wg Z<|wn Z<|wq<|wm Z<|wa (aF aYg Z (Ct.fresh (λw hw=>MG ((am.c _) w hw) ac hN))) ?_;rintro _ _ ⟨_,rfl,a1,bx,br,rfl,yi,o3,rfl⟩;refine wm Z<|wX Z Z<|wX Z Z<|wg Z<|wn Z<|aG<|wq<|wm Z<|wy (Yl.f (iZ Z Z))<|aA<|aL Z<|aJ<|aG ?_;refine aM<|wm Z<|wm Z<|wa (aF aYj Z (Ct.fresh (λw hw=>aRq ((am.c _) w hw) ((rdr 0 Z) w hw) yi G))) ?_;rintro _ _ ⟨_,rfl,kd,km,rfl,rfl⟩;refine wm Z<|wX Z Z<|wX Z Z<|wX Z Z<|wg Z<|wn Z<|wq<|wm Z<|wm Z<|wg Z<|wg Z<|wn Z ?_;refine aT [0] 99 cC Z ?_;refine⟨_,_,_,Z,Z,Z,?_⟩;exact⟨a1,_,_,Z,yi,o3,Z⟩
set_option maxHeartbeats 800000 in
theorem aIl (am:Rd w ao ap an 1 (ints .u8 u)) (ac:aO u) (hN:u.length<=1000000):
  Ct Tryz.prog 182 #[sl ao ap an] w.heap.size w [] (λv R'=> ∃A c,v=sl A (fsL u).length c/\R'=[(ri 3 A ((fsL u).length) c (fsL u))]):=by
 obtain rfl:=am.lenI;refine fn1 Tryz.func182 Z Z Z ?_;have pd:=am.max;refine wq<|wn Z<|wq<|wm Z<|wy (aQ ai Z)<|wa (dE aa zb3 Z Z) ?_;rintro _ _ ⟨al,rfl,rfl⟩;refine bN (v:=sl (GG al) u.length u.length) Z<|wn Z<|wq<|wm Z<|wy (aQ ai Z)<|wa (dE aa zb3 Z Z) ?_;rintro _ _ ⟨cv,rfl,rfl⟩;refine bN (v:=sl (GG cv) u.length u.length) Z<|wn Z<|aG<|wq<|wm Z<|wy (aQ ai Z)<|wm Z<|aA<|aI ?_;refine fU (λ(i:Int) (V:List Int) (K:List Int)=>[(3,sl (GG al) u.length u.length),(4,sl (GG cv) u.length u.length),(15,sl ao u.length an),(16,I ((u.length:Nat):Int)),(17,I i)]) (λi V K=>[(ri 3 (GG cv) u.length u.length K),(ri 3 (GG al) u.length u.length V)]) (λi V K=>(0<=i)/\(i<=u.length)/\(V.length=u.length)/\(K.length=u.length)/\(∀j:Int,0<=j->j<i->rd V j=j)/\(∀j:Int,0<=j->j<i->rd K j=rd u j)) (λi V K=>(u.length-i).toNat) ?_ ?_
 ·exact⟨0,List.replicate u.length (0:Int),List.replicate u.length (0:Int),⟨G,G,(by rw[bq]),(by rw[bq]),(λj h1 h2=>G),(λj h1 h2=>G)⟩,SA,λ_ h=>h⟩
 intro i V K ⟨ar,ia,iu,Mg,hV,hK⟩;refine wq<|wL Z Z<|aA<|aG<|bJ Z (λaq=> ?_) (λaq=> ?_)
 ·have rj:=ac.rd i;refine aJ<|aG<|aI<|wq<|wm Z<|wy (aH ai sz5 Z Z (am.c _))<|wy (aX cz Z Z (am.c _))<|wg Z<|wn Z<|aM<|wm Z<|wm Z<|wm Z ?_;refine wm Z<|wm Z<|wm Z<|wy (iV cz ak Z)<|wy (aH aa sz3 Z Z (rdr 1 Z))<|bX (bG 1 Z sz3 Z Z) ?_;rintro _ _ rfl;refine wy (aH aa sz3 Z Z (rdr 0 Z))<|bX (bG 0 Z sz3 Z Z) ?_;rintro _ _ rfl;refine aA<|aM<|wA Z Z<|wm Z<|aA ?_;exact⟨i+1,upd V i i,upd K i (rd u i),⟨G,G,(by rw[aV];exact iu),(by rw[aV];exact Mg),(eG (f:=λj=>j) ar G hV Z),(eG (f:=λj=>rd u j) ar G hK Z)⟩,G,SA,λ_ h=>h⟩
 ·obtain rfl:V=iota u.length:=bI (by rw[bF];omega) λj h0 h1=>by rw[vJ h0 G];exact hV j h0 G
  obtain rfl:u=K:=(bI G λj h0 h1=>hK j h0 G:K=u).symm;refine aZ<|wq<|wm Z<|wm Z<|wa (aF JC Z (Ct.fresh (λw hw=>rZ ((rdr 1 Z) w hw) ((rdr 0 Z) w hw) G ac (λi hi=>aW.1 hi) (by rw[bF];omega)))) ?_;rintro _ _ ⟨_,rfl,ij,io,rfl,rfl⟩;refine wm Z<|wX Z Z<|wX Z Z<|wn Z<|wq<|wm Z<|wa (aF aQl Z (Ct.fresh (λw hw=>PC ((rdr 0 Z) w hw) (aDq ac) (by rw[BC ac];omega)))) ?_;rintro _ _ ⟨_,rfl,fh,nf,inv,rfl,ti,tk,rfl⟩;refine wm Z<|wX Z Z<|wX Z Z<|wg Z<|wn Z<|wq<|wm Z<|wn Z<|aT [0] 99 cC Z ?_;refine⟨_,Z,?_⟩;obtain rfl:inv=fsL u:=aXm ac ti tk;have el:(bW (iota u.length) u (256:Int).toNat).length=(fsL u).length:=by rw[BC ac,vR]
  rw[el];exact⟨_,_,Z,Z⟩
theorem aFf (k0:0<=k) (hk:k<u.length) (hl:S.length=u.length) (h: ∀j:Int,k<j->j<u.length->rd S j=rd (lI u m) j) {x:Int} (hx:x=rd u (ixr m (iT u m (u.length-1-k).toNat))): ∀j:Int,k-1<j->j<u.length->rd (upd S k x) j=rd (lI u m) j:=by
 intro j h1 h2;rw[fI k0 G G];split
 ·rename_i e;rw[e,TI k0 hk,hx]
 ·exact h j G h2
theorem aFg {i:Int} (k0:0<=k) (hk:k<u.length) (hr:r=iT u m (u.length-1-k).toNat) (hi:i=ixr m r):lfC u i+1=iT u m (u.length-1-(k-1)).toNat:=by
 rw[show((u.length:Int)-1-(k-1)).toNat=(u.length-1-k).toNat+1 by omega,iT,hi,hr]
theorem aWn (hl:S.length=u.length) (h: ∀j:Int,-1<j->j<u.length->rd S j=rd (lI u m) j):S=lI u m:=bI (by rw[hl,rH]) λj h0 h1=>h j G G
theorem aDt (k0:0<=k) (hk:k<u.length) (h: ∀t:Nat,(t:Int)<u.length-1-k->iT u m t≠m) (hr:r=iT u m (u.length-1-k).toNat) (da:r≠m): ∀t:Nat,(t:Int)<u.length-1-(k-1)->iT u m t≠m:=by
 intro t ht;rcases ay t (u.length-1-k) with g|g
 ·exact h t g
 ·rw[show t=(u.length-1-k).toNat by omega,<-hr];exact da
set_option maxHeartbeats 1000000 in
theorem XC (am:Rd w ao ap an 1 (ints .u8 u)) (ac:aO u) (cx:aKl u m) (hN:u.length<=100000):
  Ct Tryz.prog 109 #[sl ao ap an,I m] w.heap.size w [] (λv R'=> ∃A c,v= .tuple #[sl A u.length c,I 0]/\R'=[(ru 5 A u.length c (lI u m))]):=by
 obtain rfl:=am.lenI;refine fn2 Tryz.func109 Z Z Z ?_;have pd:=am.max;have qk:=vR u;have n8:=cx.1;have py:=cx.1.1;have lz:=cx.1.2;have Ut:=cx.2.1;refine wq<|wg Z<|wn Z<|wq<|wm Z<|wy (aQ ai Z)<|wn Z<|aG<|wq<|wm Z ?_;refine wy (Yl.f (dV Z Z))<|wm Z<|aC Z Z<|wm Z<|aC Z Z<|wm Z<|aC Z Z<|wy (vV Z Z)<|aC Z Z<|wy (Yl.f (eO Z Z))<|wy (aR Z Z)<|wm Z<|aC Z Z<|wm Z<|aC Z Z ?_;refine wm Z<|aC Z Z<|wy (Yl.f (dV Z Z))<|wy (aR Z Z)<|aA<|aL Z<|aJ<|wq<|wm Z<|wa (aF bEu Z (Ct.fresh (λw hw=>aIl ((am.c _) w hw) ac G))) ?_;rintro _ _ ⟨_,rfl,bx,br,rfl,rfl⟩;refine wn Z<|wq<|wm Z<|wa (dE ai zb5 Z Z) ?_;rintro _ _ ⟨dq,rfl,rfl⟩;refine bN (v:=sl (GG dq) u.length u.length) Z<|wn Z<|wq<|wn Z<|aG<|wq<|wm Z<|wS Z Z<|wn Z<|aI ?_;refine fU (λ(k:Int) (r:Int) (S:List Int)=>[(0,sl ao u.length an),(1,I m),(7,sl bx ((fsL u).length) br),(8,sl (GG dq) u.length u.length),(9,I r),(10,I k)]) (λk r S=>[(ru 5 (GG dq) u.length u.length S),(ri 3 bx ((fsL u).length) br (fsL u))]) (λk r S=>(-1<=k)/\(k<u.length)/\(S.length=u.length)/\(r=iT u m (u.length-1-k).toNat)/\(∀t:Nat,(t:Int)<u.length-1-k->iT u m t≠m)/\(∀j:Int,k<j->j<u.length->rd S j=rd (lI u m) j)) (λk r S=>(k+1).toNat) ?_ ?_
 ·exact⟨((u.length:Nat):Int)-1,0,List.replicate u.length (0:Int),⟨G,G,(by rw[bq]),(by rw[show((u.length:Int)-1-(((u.length:Nat):Int)-1)).toNat=0 by omega];rfl),(λt h=>G),(λj h1 h2=>G)⟩,SA,λ_ h=>h⟩
 intro k r S ⟨nb,xj,Ax,hr,Us,hS⟩;refine aG<|wq<|wm Z<|wy (jF Z Z)<|aA<|bJ Z (λaq=> ?_) (λaq=> ?_)
 ·have kx:0<=k:=G
  have l4:=WZ (l:=u) ac n8 (u.length-1-k).toNat (λt ht=>Us t G) G;rw[<-hr] at l4;have qq:0<=m:=by have:=n8.1;omega
  have ln:=n8.2;have da:r≠m:=by rw[hr];exact Ut _ G
  refine aJ<|aG<|aI<|wq<|wm Z<|wn Z<|aG<|aI<|wq<|wm Z<|wm Z<|wy (Yl.f (bC Z Z) (da)) ?_;refine wn Z<|aL Z<|wq<|wm Z<|wm Z<|wy (dV Z Z)<|wn Z<|bJ Z (λcr=> ?_) (λcr=> ?_)
  ·have wd:r-1=ixr m r:=by unfold ixr;split<;>omega
   have Vq:rd u (r-1)=rd u (ixr m (iT u m (u.length-1-k).toNat)):=by rw[wd,<-hr]
   have f7:=PV (n:=u.length) l4.1 l4.2 da qq ln G;rw[<-wd] at f7;have In:=YZ (l:=u) f7.1 f7.2;have Ro:=UL (l:=u) ac f7.1 f7.2;have lf:rd (fsL u) (r-1)+1=iT u m (u.length-1-(k-1)).toNat:=by rw[In];exact aFg kx xj hr wd
   refine aM<|wm Z<|wS Z Z<|wn Z<|wq<|wm Z<|wm Z<|wm Z<|wm Z<|wy (aH ai sz5 Z Z (am.c _))<|wy (aX cz Z Z (am.c _))<|wy (aH ai sz5 Z Z (rdr 0 Z))<|bX (bG 0 Z sz5 Z Z) ?_;rintro _ _ rfl;refine aA<|aM<|wm Z<|wm Z<|wy (aH aa sz3 Z Z (rdr 1 Z))<|wy (aX ak Z Z (rdr 1 Z))<|wA Z Z<|wn Z<|aM<|wm Z<|wS Z Z<|wn Z ?_;exact⟨k-1,(rd (fsL u) (r-1))+1,upd S k (rd u (r-1)),⟨G,G,(by rw[aV];exact Ax),(lf),(aDt kx xj Us hr da),(aFf kx xj Ax hS Vq)⟩,G,SA,λ_ h=>h⟩
  ·have wd:r=ixr m r:=by unfold ixr;split<;>omega
   have Vq:rd u (r)=rd u (ixr m (iT u m (u.length-1-k).toNat)):=by rw[wd,<-hr]
   have f7:=PV (n:=u.length) l4.1 l4.2 da qq ln G;rw[<-wd] at f7;have In:=YZ (l:=u) f7.1 f7.2;have Ro:=UL (l:=u) ac f7.1 f7.2;have lf:rd (fsL u) (r)+1=iT u m (u.length-1-(k-1)).toNat:=by rw[In];exact aFg kx xj hr wd
   refine aJ<|wq<|wm Z<|wm Z<|wm Z<|wm Z<|wy (aH ai sz5 Z Z (am.c _))<|wy (aX cz Z Z (am.c _))<|wy (aH ai sz5 Z Z (rdr 0 Z))<|bX (bG 0 Z sz5 Z Z) ?_;rintro _ _ rfl;refine aA<|aM<|wm Z<|wm Z<|wy (aH aa sz3 Z Z (rdr 1 Z))<|wy (aX ak Z Z (rdr 1 Z))<|wA Z Z<|wn Z<|aM<|wm Z<|wS Z Z<|wn Z ?_;exact⟨k-1,(rd (fsL u) r)+1,upd S k (rd u r),⟨G,G,(by rw[aV];exact Ax),(lf),(aDt kx xj Us hr da),(aFf kx xj Ax hS Vq)⟩,G,SA,λ_ h=>h⟩
 ·refine aZ<|aG<|wq<|wm Z<|wm Z<|wy (Yl.f (iZ Z Z) (by
     have e:((u.length:Int)-1-k).toNat=u.length:=G
     rw[hr,e,cx.2.2]
     exact λh=>h Z)) ?_
  refine aA<|aL Z<|aJ<|wq<|wm Z<|wg Z<|wn Z<|aT [0] 99 cC Z ?_;refine⟨_,_,Z,Z,?_⟩;obtain rfl:S=lI u m:=aWn Ax λj h1 h2=>hS j G h2;exact⟨_,_,Z,Z⟩
variable {w:World} {ke:Option Addr} {qt kh:Nat} {b:List Int}
theorem TC:
  Ct Tryz.prog 105 #[] w.heap.size w [] (λv R'=> ∃A c,v=sl A 256 c/\R'=[(ru 5 A 256 c aS)]):=by
 refine fn1 Tryz.func105 Z Z Z ?_;refine wq<|wn Z<|wq<|wa (dE ai zb5 Z Z) ?_;rintro _ _ ⟨al,rfl,rfl⟩;refine bN (v:=sl (GG al) ((256:Int).toNat) ((256:Int).toNat)) Z<|wn Z<|aG<|wq<|wm Z<|wy (aQ ai Z)<|wm Z<|aA<|aI ?_;refine dS (λ(i:Int) (V:List Int)=>[(1,sl (GG al) ((256:Int).toNat) ((256:Int).toNat)),(5,I (((256:Int).toNat:Nat):Int)),(6,I i)]) (λi V=>[(ru 5 (GG al) ((256:Int).toNat) ((256:Int).toNat) V)]) (λi V=>(0<=i)/\(i<=256)/\(V.length=256)/\(∀j:Int,0<=j->j<i->rd V j=j)) (λi V=>(256-i).toNat) ?_ ?_
 ·exact⟨0,List.replicate ((256:Int).toNat) (0:Int),⟨G,G,(Z),(λj h1 h2=>G)⟩,SA,λ_ h=>h⟩
 intro i V ⟨ar,ia,iu,hV⟩;refine wq<|wL Z Z<|aA<|aG<|bJ Z (λaq=> ?_) (λaq=> ?_)
 ·refine aJ<|aG<|aI<|wq<|wm Z<|wn Z<|aM<|wm Z<|wm Z<|wm Z<|wy (oM ak cz Z)<|wy (aH ai sz5 Z Z (rdr 0 Z))<|bX (bG 0 Z sz5 Z Z) ?_;rintro _ _ rfl;refine aA<|aM<|wA Z Z<|wm Z<|aA ?_;exact⟨i+1,upd V i (IntKind.u8.wrap i),⟨G,G,(by rw[aV];exact iu),(eG (f:=λj=>j) ar G hV (rR ar G))⟩,G,SA,λ_ h=>h⟩
 ·refine aZ<|wq<|wm Z<|wn Z<|aT [0] 99 cC Z ?_;refine⟨_,Z,?_⟩;obtain rfl:V=aS:=aEf iu (λj h1 h2=>hV j h1 G);exact⟨_,_,Z,Z⟩
theorem UG {B:Nat} {w0:World} {R:List Row} {A:Option Addr} {m c:Nat} {l:List Int} {k:Int} (hm:m=l.length) (hk:0<=k/\k<l.length) (h2:1<l.length):
  Ct Tryz.prog 107 #[sl A m c,I k] B w0 ((ru 5 A m c l)::R) (λv R'=>v= .tuple #[]/\R'=(ru 5 A m c (mtf l k))::R):=by
 subst hm;refine fn0 Tryz.func107 Z Z Z ?_;refine wq<|wm Z<|wm Z<|wy (aH ai sz5 Z Z (rdr 0 Z))<|wy (aX cz Z Z (rdr 0 Z))<|wn Z<|aG<|bT mixed<|wD 0 Z (aN Z)<|wD 1 Z (iP ai sz5 Z Z)<|wD 2 Z (aN Z)<|wD 3 Z (aN Z)<|wD 4 Z (gD ai sz5 Z Z (rdr 0 Z)) ?_;refine wC 5 Z (QT (lo:=1) 0 Z ai sz5 Z Z Z Z G (RdC.toI (h:=(k).toNat) (rdr 0 Z) cH)) ?_;rintro _ _ ⟨rfl,rfl⟩;refine⟨.inl cA,?_⟩;refine wN<|aM<|wm Z<|wm Z<|wy (aH ai sz5 Z Z (rdr 0 Z))<|bX (bG 0 Z sz5 Z Z) ?_;rintro _ _ rfl;refine aA ?_
 skip
 rw[bAf hk.1 hk.2];exact⟨Z,Z⟩
theorem PZ {ao:Option Addr} {ap an:Nat} {u:List Int} {c:Int} (am:Rd w ao ap an 1 (ints .u8 u)) (ac:aO u) (hc:0<=c/\c<256) (hm:c∈u):
  Ct Tryz.prog 106 #[sl ao ap an, .int .u8 c] w.heap.size w [] (λv R'=>v=I (idx u c)):=by
 obtain rfl:=am.lenI;refine fn1 Tryz.func106 Z Z Z ?_;have pd:=am.max;refine wq<|wn Z<|wq<|wm Z<|wm Z<|wa (XJ Tryz.func180 cA cA cA cA Z Z (am.c _) ac hc hm) ?_;rintro _ _ ⟨rfl,rfl⟩;refine wn Z<|dF ?_;refine⟨_,Z,?_⟩;rfl
theorem MX (go:Rd w ke qt kh 1 (ints .u8 b)) (ce:aO b) (hN:b.length<=1000000):
  Ct Tryz.prog 60 #[sl ke qt kh] w.heap.size w [] (λv R'=> ∃A c,v=sl A (b.length) c/\R'=[(ru 5 A b.length c (bB aS b))]):=by
 obtain rfl:=go.lenI;refine fn1 Tryz.func60 Z Z Z ?_;have Jr:=go.max;refine wq<|wn Z<|wq<|wa (aF aYq Z (Ct.fresh (λw hw=>TC))) ?_;rintro _ _ ⟨_,rfl,bx,br,rfl,rfl⟩;refine wn Z<|wq<|wm Z<|wy (aQ ai Z)<|wa (dE ai zb5 Z Z) ?_;rintro _ _ ⟨dq,rfl,rfl⟩;refine bN (v:=sl (GG dq) b.length b.length) Z<|wn Z<|aG<|wq<|wm Z<|wy (aQ ai Z)<|wm Z<|aA<|aI ?_;refine fU (λ(i:Int) (V:List Int) (U:List Int)=>[(3,sl bx 256 br),(4,sl (GG dq) b.length b.length),(12,sl ke b.length kh),(13,I ((b.length:Nat):Int)),(14,I i)]) (λi V U=>[(ru 5 (GG dq) b.length b.length U),(ru 5 bx 256 br V)]) (λi V U=>(0<=i)/\(i<=b.length)/\(V=yC aS (b.take i.toNat))/\(U.length=b.length)/\(∀j:Int,0<=j->j<i->rd U j=rd (bB aS b) j)) (λi V U=>(b.length-i).toNat) ?_ ?_
 ·exact⟨0,aS,List.replicate b.length (0:Int),⟨G,G,(Z),(by rw[bq]),(λj h1 h2=>G)⟩,SA,λ_ h=>h⟩
 intro i V U ⟨ar,ia,hV,Bk,hU⟩;have Vk:V.Perm aS:=by rw[hV];exact aMd ce _
 have Mz:=MI Vk;have rj:=ce.rd i;have rm:=Mz.2.2 _ rj.1 rj.2;refine wq<|wL Z Z<|aA<|aG<|bJ Z (λaq=> ?_) (λaq=> ?_)
 ·refine aJ<|aG<|aI<|wq<|wm Z<|wy (aH ai sz5 Z Z (go.c _))<|wy (aX cz Z Z (go.c _))<|wg Z<|wn Z<|wq<|wm Z<|wm Z ?_;refine wa (aF bFm Z (Ct.quiet (λw hw=>PZ ((rdr 1 Z) w hw) Mz.2.1 rj rm.1))) ?_;rintro _ _ ⟨rfl,rfl⟩;refine wn Z<|wq<|wm Z<|wm Z<|wm Z<|wy (oM ak cz Z)<|wy (aH ai sz5 Z Z (rdr 0 Z))<|bX (bG 0 Z sz5 Z Z) ?_;rintro _ _ rfl;refine aA<|aM<|wm Z<|wm Z<|wa (aF aYp Z (Ct.at 1 Z (UG Mz.1.symm G G))) ?_;rintro _ _ ⟨rfl,rfl⟩;refine aA<|aM<|wA Z Z<|wm Z<|aA ?_;exact⟨i+1,mtf V (idx V (rd b i)),upd U i (IntKind.u8.wrap (idx V (rd b i))),⟨G,G,(by rw[aGq ar G,<-hV]),(by rw[aV];exact Bk),(eG (f:=λj=>rd (bB aS b) j) ar G hU (by rw[aNb ar G,<-hV];exact rR rm.2.1 rm.2.2))⟩,G,SA,λ_ h=>h⟩
 ·refine aZ<|wq<|wm Z<|wn Z<|aT [0] 99 cC Z ?_;refine⟨_,Z,?_⟩;obtain rfl:U=bB aS b:=bI (by rw[Bk,iL]) (λj h1 h2=>hU j h1 G);exact⟨_,_,Z,Z⟩
theorem OC (go:Rd w ke qt kh 1 (ints .u8 b)) (ce:aO b) (hN:b.length<=1000000):
  Ct Tryz.prog 111 #[sl ke qt kh] w.heap.size w [] (λv R'=> ∃A c,v=sl A (b.length) c/\R'=[(ru 5 A b.length c (jV aS b))]):=by
 obtain rfl:=go.lenI;refine fn1 Tryz.func111 Z Z Z ?_;have Jr:=go.max;refine wq<|wn Z<|wq<|wa (aF aYq Z (Ct.fresh (λw hw=>TC))) ?_;rintro _ _ ⟨_,rfl,bx,br,rfl,rfl⟩;refine wn Z<|wq<|wm Z<|wy (aQ ai Z)<|wa (dE ai zb5 Z Z) ?_;rintro _ _ ⟨dq,rfl,rfl⟩;refine bN (v:=sl (GG dq) b.length b.length) Z<|wn Z<|aG<|wq<|wm Z<|wy (aQ ai Z)<|wm Z<|aA<|aI ?_;refine fU (λ(i:Int) (V:List Int) (U:List Int)=>[(3,sl bx 256 br),(4,sl (GG dq) b.length b.length),(11,sl ke b.length kh),(12,I ((b.length:Nat):Int)),(13,I i)]) (λi V U=>[(ru 5 (GG dq) b.length b.length U),(ru 5 bx 256 br V)]) (λi V U=>(0<=i)/\(i<=b.length)/\(V=DL aS (b.take i.toNat))/\(U.length=b.length)/\(∀j:Int,0<=j->j<i->rd U j=rd (jV aS b) j)) (λi V U=>(b.length-i).toNat) ?_ ?_
 ·exact⟨0,aS,List.replicate b.length (0:Int),⟨G,G,(Z),(by rw[bq]),(λj h1 h2=>G)⟩,SA,λ_ h=>h⟩
 intro i V U ⟨ar,ia,hV,Bk,hU⟩;have Vk:V.Perm aS:=by rw[hV];exact aMc ce _
 have Mz:=MI Vk;have rj:=ce.rd i;have rm:=Mz.2.2 _ rj.1 rj.2;refine wq<|wL Z Z<|aA<|aG<|bJ Z (λaq=> ?_) (λaq=> ?_)
 ·refine aJ<|aG<|aI<|wq<|wm Z<|wy (aH ai sz5 Z Z (go.c _))<|wy (aX cz Z Z (go.c _))<|wg Z<|wn Z<|wq<|wm Z<|wm Z ?_;refine wm Z<|wm Z<|wy (aH ai sz5 Z Z (rdr 1 Z))<|wy (aX cz Z Z (rdr 1 Z))<|wy (aH ai sz5 Z Z (rdr 0 Z))<|bX (bG 0 Z sz5 Z Z) ?_;rintro _ _ rfl;refine aA<|aM<|wm Z<|wm Z<|wy (iV cz ak Z)<|wa (aF aYp Z (Ct.at 1 Z (UG Mz.1.symm G G))) ?_;rintro _ _ ⟨rfl,rfl⟩;refine aA<|aM<|wA Z Z<|wm Z<|aA ?_;exact⟨i+1,mtf V (rd b i),upd U i (rd V (rd b i)),⟨G,G,(by rw[aGp ar G,<-hV]),(by rw[aV];exact Bk),(eG (f:=λj=>rd (jV aS b) j) ar G hU (by rw[aMy ar G,<-hV]))⟩,G,SA,λ_ h=>h⟩
 ·refine aZ<|wq<|wm Z<|wn Z<|aT [0] 99 cC Z ?_;refine⟨_,Z,?_⟩;obtain rfl:U=jV aS b:=bI (by rw[Bk,vD]) (λj h1 h2=>hU j h1 G);exact⟨_,_,Z,Z⟩
end Go.Proofs.YtdbebmmhdefgdaaGreat
namespace Go.Eng
open Go Go.RowKit Go.Pure
section
variable {P:Program} {n:Nd} {B:Nat} {w0:World} {L:Env} {R:List Row} {ty:TypeId}
theorem aSn {id:Nat} {l:List Oper} {Q:eH} {Rc:List Row} (hm:P.follows .mixedOrders=true) (hR: ∀w,Hp B w0 w R->Hp B w0 w Rc) (h:WDc P n B w0 l.toArray Q.nrm l.toArray.size (Array.replicate l.toArray.size false) L R Rc) (hd:yV n.rd l=true:=by exact rfl):W P n B w0 (.region id l.toArray true) Q L R:=by
 intro a w hs hp;refine wpIn_region_any hm (XH aCc hd _ _ _ _<|wI _ _ _ _ _ (h a _ _ hs (hp.drawn _ (Fy _)) hR (λ_ _ _ h=>h) λ_ _ L' R' dg bw hk=>⟨L',R',dg,bw,hk⟩))
theorem RgR.left {Rs:List Row} {l:List RC} (h:RgR Rs l) (T:List Row):RgR (Rs++T) l:=h.weak λ_ _ _ hw=>hw.left
theorem SlR.nilR (k:IntKind) (Rs:List Row):SlR k Rs [] []:=⟨rfl,λj hj=>by simp at hj⟩
theorem OkB.app {a b:List (List Int)} (ha:OkB a) (hb:OkB b):OkB (a++b):=λl hl=>(fw.1 hl).elim (ha l) (hb l)
end
end Go.Eng
namespace Go.Proofs.YtdbebmmhdefgdaaGreat
open Go Go.Eng Go.Pure
open Tryz
set_option maxRecDepth 100000
variable {n i:Int} {acc b:List Int} {w:World}
theorem aFw {m:Int} (h:iD n.toNat=acc++iD m.toNat) (hp:0<m) {d q:Int} (hd:d=(m-1)%2) (hq:q=(m-1)/2):iD n.toNat=(acc++[d])++iD q.toNat:=by
 rw[h,xU G,ig,nz];have e1:(((m.toNat-1)%2:Nat):Int)=d:=G
 have e2:(m.toNat-1)/2=q.toNat:=G
 rw[e1,e2]
theorem aFx (h:acc++bD n.toNat (b.drop i.toNat)=bD 0 b) (i0:0<=i) (hi:i<b.length) (n0:0<=n) (hc:rd b i=0):acc++bD (n+1).toNat (b.drop (i+1).toNat)=bD 0 b:=by
 rw[fM i0 hi,bD,cu hc] at h;rw[show(n+1).toNat=n.toNat+1 by omega];exact h
theorem aLj (h:acc++bD n.toNat (b.drop i.toNat)=bD 0 b) (i0:0<=i) (hi:i<b.length) (hc: ¬rd b i=0):((acc++iD n.toNat)++[rd b i+1])++bD 0 (b.drop (i+1).toNat)=bD 0 b:=by
 rw[fM i0 hi,bD,bu hc] at h;rw[<-h];simp
theorem YE (h:acc++bD n.toNat (b.drop i.toNat)=bD 0 b):acc.length<=b.length:=by
 have h1:=bz List.length h;have h2:=oQ b 0;rw[ah] at h1;omega
theorem aFv (h0:0<=n):((iD n.toNat).length:Int)<=n:=by
 have:=xV _ _ (dh n.toNat);omega
theorem LQ (h0:0<=n/\n<=1000000):
  Ct Tryz.prog 201 #[I n] w.heap.size w [] (λv R'=> ∃A c,v=sl A ((iD n.toNat).length) c/\R'=[(ri 3 A ((iD n.toNat).length) c (iD n.toNat))]):=by
 refine fn1 Tryz.func201 Z Z Z ?_;refine wq<|wn Z<|wq<|dH (R1:=[(ri 3 none 0 0 ([]))]) (Sub.refl _) (λ_ h=>h.nil 3 1)<|wn Z<|aG<|aI ?_;refine jN (λ(A1:Option Addr) (n1:Nat) (c1:Nat) (acc:List Int) (m:Int)=>[(0,I m),(3,sl A1 n1 c1)]) (λA1 n1 c1 acc m=>[(ri 3 A1 n1 c1 acc)]) (λA1 n1 c1 acc m=>(n1=acc.length)/\(0<=m)/\(iD n.toNat=acc++iD m.toNat)/\(acc.length+m<=n)) (λA1 n1 c1 acc m=>m.toNat) ?_ ?_
 ·exact⟨none,0,0,[],n,⟨(Z),G,(Z),(by show((0:Nat):Int)+n<=n;omega)⟩,SA,λ_ h=>h⟩
 intro A1 n1 c1 acc m ⟨dd,qq,hT,hL⟩;refine aG<|wq<|wm Z<|wy (dV Z Z)<|aA<|bJ Z (λaq=> ?_) (λaq=> ?_)
 ·refine aJ<|aG<|aI<|aM<|wm Z<|wm Z<|wS Z Z<|wy (CE Z Z)<|wa (bS .i64 [(m-1)%2] aa zs3 Z Z Z) ?_;rintro _ _ ⟨cv,rfl,rfl⟩;refine wa (bE 1 Z aa zb3 Z Z Z (rdr 0 Z)) ?_;rintro _ _ ⟨ij,io,rfl,rfl⟩;refine bN (v:=sl ij (n1+1) io) Z<|wn Z<|aM<|wm Z<|wS Z Z<|wy (OM Z Z G G G)<|wn Z ?_;exact⟨ij,n1+1,io,acc++([(m-1)%2]),(m-1)/2,⟨(by rw[ah,dd];try rfl),G,(aFw hT G G G),(by rw[ah,ic];omega)⟩,G,SA,λ_ h=>h.sel [1] cC Z⟩
 ·refine aZ<|wq<|wm Z<|wn Z<|aT [0] 99 cC Z ?_;refine⟨_,Z,?_⟩;obtain rfl:m=0:=G
  have e:iD n.toNat=acc:=by rw[hT];exact jo _
  rw[e];obtain rfl:=dd;exact⟨_,_,Z,Z⟩
theorem aFy {ke:Option Addr} {qt kh:Nat} (go:Rd w ke qt kh 1 (ints .u8 b)) (ce:aO b) (hN:b.length<=1000000):
  Ct Tryz.prog 129 #[sl ke qt kh] w.heap.size w [] (λv R'=> ∃A c,v=sl A ((bD 0 b).length) c/\R'=[(ri 3 A ((bD 0 b).length) c (bD 0 b))]):=by
 obtain rfl:=go.lenI;refine fn1 Tryz.func129 Z Z Z ?_;have Jr:=go.max;refine wq<|wn Z<|wq<|dH (R1:=[(ri 3 none 0 0 ([]))]) (Sub.refl _) (λ_ h=>h.nil 3 1)<|wn Z<|wq<|wn Z<|aG<|aG ?_;refine aM<|wm Z<|wy (aQ ai Z)<|wm Z<|aA<|aI ?_;refine nU (λ(A1:Option Addr) (n1:Nat) (c1:Nat) (acc:List Int) (i:Int) (m:Int)=>[(3,sl A1 n1 c1),(4,I m),(7,sl ke b.length kh),(8,I ((b.length:Nat):Int)),(9,I i)]) (λA1 n1 c1 acc i m=>[(ri 3 A1 n1 c1 acc)]) (λA1 n1 c1 acc i m=>(n1=acc.length)/\(0<=i)/\(i<=b.length)/\(0<=m)/\(m<=i)/\(acc++bD m.toNat (b.drop i.toNat)=bD 0 b)) (λA1 n1 c1 acc i m=>(b.length-i).toNat) ?_ ?_
 ·exact⟨none,0,0,[],0,0,⟨(Z),G,G,G,G,(Z)⟩,SA,λ_ h=>h⟩
 intro A1 n1 c1 acc i m ⟨dd,ar,ia,qq,ln,hT⟩;have sd:=YE hT;have hts:=aFv qq;refine wq<|wL Z Z<|aA<|aG<|bJ Z (λaq=> ?_) (λaq=> ?_)
 ·have rj:=ce.rd i;refine aJ<|aG<|aI<|wq<|wy (aH ai sz5 Z Z (go.c _))<|wy (aX cz Z Z (go.c _))<|wn Z<|aG<|wq<|wm Z<|wy (bC Z Z)<|aA ?_;refine bJ Z (λcr=> ?_) (λcr=> ?_)
  ·refine wq<|wm Z<|wA Z Z<|wn Z<|aZ<|aM<|wA Z Z<|wm Z<|aA ?_;exact⟨A1,n1,c1,acc,i+1,m+1,⟨(by first|exact dd|simp[dd,qd]),G,G,G,G,(aFx hT ar G qq cF)⟩,G,SA,λ_ h=>h⟩
  ·refine aJ<|wq<|wm Z<|wm Z<|wa (aF aYc Z (Ct.fresh (λw hw=>LQ G))) ?_;rintro _ _ ⟨_,rfl,bx,br,rfl,rfl⟩;refine wa (bE 1 Z aa zb3 Z Z Z (rdr 0 Z)) ?_;rintro _ _ ⟨kd,km,rfl,rfl⟩;refine bN (v:=sl kd (n1+((iD (m).toNat).length)) km) Z<|wm Z<|wy (iV cz ak Z)<|wA Z Z<|wa (bS .i64 [(rd b i)+1] aa zs3 Z Z Z) ?_;rintro _ _ ⟨ft,rfl,rfl⟩;refine wa (bE 2 Z aa zb3 Z Z Z (rdr 0 Z)) ?_;rintro _ _ ⟨gw,kf,rfl,rfl⟩;refine bN (v:=sl gw ((n1+((iD (m).toNat).length))+1) kf) Z<|wn Z<|aM<|wn Z<|aM<|wA Z Z<|wm Z<|aA ?_;exact⟨gw,(n1+((iD (m).toNat).length))+1,kf,(acc++(iD (m).toNat))++([(rd b i)+1]),i+1,0,⟨(by first|exact dd|simp[dd,qd]),G,G,G,G,(aLj hT ar G cF)⟩,G,SA,λ_ h=>h.sel [2] cC Z⟩
 ·refine aZ<|wq<|wm Z<|wm Z<|wa (aF aYc Z (Ct.fresh (λw hw=>LQ G))) ?_;rintro _ _ ⟨_,rfl,bc,bh,rfl,rfl⟩;refine wa (bE 1 Z aa zb3 Z Z Z (rdr 0 Z)) ?_;rintro _ _ ⟨fz,ge,rfl,rfl⟩;refine bN (v:=sl fz (n1+((iD (m).toNat).length)) ge) Z<|wn Z<|aT [1] 99 cC Z ?_;refine⟨_,Z,?_⟩;rw[xx G] at hT;have e2:acc++iD m.toNat=bD 0 b:=hT;have e:n1+(iD m.toNat).length=(bD 0 b).length:=by rw[<-e2,ah,dd]
  rw[e,e2];exact⟨_,_,Z,Z⟩
variable {B g n c:Nat} {w0:World} {R:List Row} {A:Option Addr} {C:List Int} {fj:Int}
theorem II (hn:n=C.length) (hs:0<=fj/\fj<C.length):
  Ct Tryz.prog 202 #[PG g,I fj] B w0 ((rc 256 2 g [sl A n c,I (aU C)])::(ri 3 A n c C)::R) (λv R'=>v=bt/\R'=(rc 256 2 g [sl A n c,I (aU C)])::(ri 3 A n c C)::R):=by
 subst hn;refine fn1 Tryz.func202 Z Z Z ?_;refine wq<|wn Z<|wq<|wm Z<|wy (aCi Dk Z Z)<|wm Z<|aC Z Z<|wm Z<|aC Z Z<|wy (Yl.t (jF Z Z) G)<|wy (aY Z Z)<|wm Z ?_;refine aC Z Z<|wm Z<|aC Z Z<|wm Z<|aC Z Z<|wy (aD Z)<|aC Z Z<|wy (aB (off:=0) (m:=0) pu Z gW Z Z Z)<|aC Z Z<|wy (aK (rdr 0 Z) aa Z Z Z)<|aC Z Z<|wy (aQ aa Z)<|aC Z Z<|wy (Yl.t (eO Z Z) G)<|wy (aY Z Z) ?_;refine wn Z<|bR (R1:=((rc 256 2 g [sl A C.length c,I (aU C)])::(ri 3 A C.length c C)::R)) (λ_ h=>h) ?_;refine⟨_,Z,?_⟩;exact⟨Z,Z⟩
theorem iB:
  Ct Tryz.prog 133 #[PG g] B w0 ((rc 256 2 g [sl A n c,I (aU C)])::(ri 3 A n c C)::R) (λv R'=>v=I (aU C)/\R'=(rc 256 2 g [sl A n c,I (aU C)])::(ri 3 A n c C)::R):=by
 refine fn1 Tryz.func133 Z Z Z ?_;refine wq<|wn Z<|aG<|wq<|wm Z<|wy (dA Dk Z Z)<|aA<|aL Z<|aJ<|wq<|wm Z ?_;refine wy (aD Z)<|wy (aB (off:=1) (m:=1) pu Z sz3 Z Z Z)<|wy (aK (rdr 0 Z) ak Z Z Z)<|wn Z<|bR (R1:=((rc 256 2 g [sl A n c,I (aU C)])::(ri 3 A n c C)::R)) (λ_ h=>h) ?_;refine⟨_,Z,?_⟩;exact⟨Z,Z⟩
theorem jR (hn:n=C.length) (hs:0<=fj/\fj<C.length) (cx:lJ C):
  Ct Tryz.prog 131 #[PG g,I fj] B w0 ((rc 256 2 g [sl A n c,I (aU C)])::(ri 3 A n c C)::R) (λv R'=>v= .tuple #[I (aU (C.take fj.toNat)),I (rd C fj),bt]/\R'=(rc 256 2 g [sl A n c,I (aU C)])::(ri 3 A n c C)::R):=by
 subst hn;refine fn3 Tryz.func131 Z Z Z ?_;refine wq<|wg Z<|wg Z<|wn Z<|aG<|wq<|wm Z<|wm Z<|wa (aF aYb Z ((II Z G))) ?_;rintro _ _ ⟨rfl,rfl⟩;refine wy (dI Z)<|aA<|aL Z<|aJ<|aG<|wq<|wm Z<|wy (aD Z)<|wy (aB (off:=0) (m:=0) pu Z gW Z Z Z)<|wy (aK (rdr 0 Z) aa Z Z Z)<|wm Z<|wy (gD aa sz3 Z Z (rdr 1 Z))<|wy (aQ aa Z)<|wm Z ?_;refine aA<|aI ?_;refine dS (λ(i:Int) (low:Int)=>[(0,PG g),(1,I fj),(4,I low),(18,sl A ((fj).toNat) c),(19,I (((fj).toNat:Nat):Int)),(20,I i)]) (λi low=>((rc 256 2 g [sl A C.length c,I (aU C)])::(ri 3 A C.length c C)::R)) (λi low=>(0<=i)/\(i<=fj)/\(low=aU (C.take i.toNat))) (λi low=>(fj-i).toNat) ?_ ?_
 ·exact⟨0,0,⟨G,G,(Z)⟩,SA,λ_ h=>h⟩
 intro i low ⟨ar,ia,Eq⟩;have Lm:=qO (i:=i) cx.2.1 ar G;have Pi:=cx.2.2;have kc:=cx.1;have b9:=PE (l:=C) (k:=fj) (i:=i) ar;refine wq<|wL Z Z<|aA<|aG<|bJ Z (λaq=> ?_) (λaq=> ?_)
 ·have b9:=b9 G;refine aJ<|aG<|aI<|wq<|wy (aH aa sz3 Z Z (RdC.toI (h:=(fj).toNat) (rdr 1 Z) cH)) ?_;refine wy (aX ak Z Z (RdC.toI (h:=(fj).toNat) (rdr 1 Z) cH)) ?_;refine wn Z<|aM<|wm Z<|wm Z<|wA Z Z<|wn Z<|aM<|wA Z Z<|wm Z<|aA ?_;exact⟨i+1,low+(rd ((C).take (fj).toNat) i),⟨G,G,(by rw[qN ar G,<-Eq,PE ar G])⟩,G,SA,λ_ h=>h⟩
 ·refine aZ<|aG<|bT mixed<|wD 0 Z (aN Z)<|wD 1 Z (aN Z)<|wD 2 Z (aD Z)<|wD 3 Z (aB (off:=0) (m:=0) pu Z gW Z Z Z)<|wD 4 Z (aK (rdr 0 Z) aa Z Z Z)<|wD 5 Z (aN Z)<|wD 6 Z (aH aa sz3 Z Z (rdr 1 Z))<|wD 7 Z (aX ak Z Z (rdr 1 Z))<|wD 8 Z (bP Z)<|wD 9 Z (bP Z)<|wD 10 Z (bP Z)<|wN ?_;refine bR (R1:=((rc 256 2 g [sl A C.length c,I (aU C)])::(ri 3 A C.length c C)::R)) (λ_ h=>h) ?_;refine⟨_,_,_,Z,Z,Z,?_⟩;obtain rfl:i=fj:=G
  rw[<-Eq];exact⟨Z,Z⟩
theorem uH {w:World}:
  Ct Tryz.prog 200 #[I 258] w.heap.size w [] (λv R'=> ∃g A c,v=PG g/\R'=[(rc 256 2 g [sl A 258 c,I 258]),(ri 3 A 258 c wY)]):=by
 refine fn1 Tryz.func200 Z Z Z ?_;refine wq<|wn Z<|aG<|wq<|wm Z<|wy (Yl.f (eO Z Z) cC)<|wm Z<|aC Z Z<|wm Z<|aC Z Z<|wy (Yl.f (dV Z Z) cC)<|wy (aR Z Z) ?_;refine aA<|aL Z<|aJ<|wq<|wm Z<|wm Z<|wa (dE aa zb3 Z Z) ?_;rintro _ _ ⟨al,rfl,rfl⟩;refine bN (v:=sl (GG al) ((258:Int).toNat) ((258:Int).toNat)) Z<|wy (dU (v:= .agg #[sl (GG al) ((258:Int).toNat) ((258:Int).toNat),I 258]) Z (λw=>cA))<|wa (bY (sz:=2) rfl rfl) ?_;rintro _ _ ⟨cv,rfl,rfl⟩;refine wn Z<|aG<|wq<|wm Z<|wy (aD Z)<|wy (aB (off:=0) (m:=0) pu Z gW Z Z Z)<|wy (aK (rdr 0 Z) aa Z Z Z)<|wy (aQ aa Z)<|wm Z<|aA<|aI ?_;refine dS (λ(i:Int) (V:List Int)=>[(3,PG cv),(20,I (((258:Int).toNat:Nat):Int)),(21,I i)]) (λi V=>[(rc 256 2 cv [sl (GG al) ((258:Int).toNat) ((258:Int).toNat),I 258]),(ri 3 (GG al) ((258:Int).toNat) ((258:Int).toNat) V)]) (λi V=>(0<=i)/\(i<=258)/\(V.length=258)/\(∀j:Int,0<=j->j<i->rd V j=1)) (λi V=>(258-i).toNat) ?_ ?_
 ·exact⟨0,List.replicate ((258:Int).toNat) (0:Int),⟨G,G,(bq),(λj h1 h2=>G)⟩,SA,λ_ h=>h⟩
 intro i V ⟨ar,ia,iu,hV⟩;refine wq<|wL Z Z<|aA<|aG<|bJ Z (λaq=> ?_) (λaq=> ?_)
 ·refine aJ<|aG<|aI<|wq<|wm Z<|wn Z<|aM<|wm Z<|wy (aD Z)<|wy (aB (off:=0) (m:=0) pu Z gW Z Z Z)<|wy (aK (rdr 0 Z) aa Z Z Z)<|wm Z<|wy (aH aa sz3 Z Z (rdr 1 Z)) ?_;refine bX (bG 1 Z sz3 Z Z) ?_;rintro _ _ rfl;refine aA<|aM<|wA Z Z<|wm Z<|aA ?_;exact⟨i+1,upd V i 1,⟨G,G,(by rw[aV];exact iu),(eG (f:=λ_=>1) ar G hV Z)⟩,G,SA,λ_ h=>h⟩
 ·refine aZ<|wq<|wm Z<|wn Z<|bR (R1:=[(rc 256 2 cv [sl (GG al) ((258:Int).toNat) ((258:Int).toNat),I 258]),(ri 3 (GG al) ((258:Int).toNat) ((258:Int).toNat) V)]) (λ_ h=>h) ?_;refine⟨_,Z,?_⟩;obtain rfl:V=wY:=bAg iu (λj h1 h2=>hV j h1 G);exact⟨_,_,_,Z,Z⟩
set_option maxHeartbeats 1000000 in
theorem uG (hn:n=C.length) (hs:0<=fj/\fj<C.length) (cx:lJ C):
  Ct Tryz.prog 205 #[PG g,I fj] B w0 ((rc 256 2 g [sl A n c,I (aU C)])::(ri 3 A n c C)::R) (λv R'=>v=bt/\R'=(rc 256 2 g [sl A n c,I (aU (lK C fj))])::(ri 3 A n c (lK C fj))::R):=by
 subst hn;have kc:=cx.1;have Lm:=cx.le.part (i:=fj) hs.1 G;have Jn:=cx.up (s:=fj) hs.1 G;have Pi:=cx.2.2;have yr:=Jn.1.1;have Rz:=tN cx.2.1;refine fn1 Tryz.func205 Z Z Z ?_;refine wq<|wn Z<|aG<|wq<|wm Z<|wm Z<|wa (aF aYb Z ((II Z G))) ?_;rintro _ _ ⟨rfl,rfl⟩;refine wy (dI Z)<|aA<|aL Z<|aJ<|wq<|wm Z<|wy (aD Z)<|wy (aB (off:=0) (m:=0) pu Z gW Z Z Z)<|wy (aK (rdr 0 Z) aa Z Z Z)<|wm Z<|wy (aH aa sz3 Z Z (rdr 1 Z))<|wy (aX ak Z Z (rdr 1 Z))<|wA Z Z<|wy (aH aa sz3 Z Z (rdr 1 Z)) ?_;refine bX (bG 1 Z sz3 Z Z) ?_;rintro _ _ rfl;refine aA<|wq<|wm Z<|wy (aD Z)<|wy (aB (off:=1) (m:=1) pu Z sz3 Z Z Z)<|wy (aK (rdr 0 Z) ak Z Z Z)<|wA Z Z<|wy (aD Z)<|wy (aB (off:=1) (m:=1) pu Z sz3 Z Z Z)<|bX (bA 0 Z Z Z sz3 Z Z Z Z (au Z)) ?_;rintro _ _ rfl;refine aA<|aG<|wq<|wm Z<|wy (aD Z)<|wy (aB (off:=1) (m:=1) pu Z sz3 Z Z Z)<|wy (aK (rdr 0 Z) ak Z Z Z)<|wy (dV Z Z)<|aA<|bJ Z (λaq=> ?_) (λaq=> ?_)
 ·refine wq<|wm Z<|wy (aD Z)<|wy (aB (off:=1) (m:=1) pu Z sz3 Z Z Z)<|bX (bA 0 Z Z Z sz3 Z Z Z Z (au Z)) ?_;rintro _ _ rfl;refine aA<|wq<|wm Z<|wy (aD Z)<|wy (aB (off:=0) (m:=0) pu Z gW Z Z Z)<|wy (aK (rdr 0 Z) aa Z Z Z)<|wy (aQ aa Z)<|wm Z<|aA<|aI ?_;refine fU (λ(i:Int) (V:List Int) (t:Int)=>[(0,PG g),(38,sl A C.length c),(39,I ((C.length:Nat):Int)),(40,I i)]) (λi V t=>((rc 256 2 g [sl A C.length c,I t])::(ri 3 A C.length c V)::R)) (λi V t=>(0<=i)/\(i<=258)/\(KD (upd C fj (rd C fj+32)) V i t)) (λi V t=>(258-i).toNat) ?_ ?_
  ·exact⟨0,upd C fj ((rd C fj)+32),0,⟨G,G,(aAd yr)⟩,SA,λ_ h=>h⟩
  intro i V t ⟨ar,ia,hI⟩;have Xf:=Jn.1.part (i:=i) ar;have Ua:=Jn.1.half.le.part (i:=i) ar;have iu:=hI.len;have Ry:=hI.sum;refine wq<|wL Z Z<|aA<|aG<|bJ Z (λcr=> ?_) (λcr=> ?_)
  ·have Xf:=Xf G;have Ua:=Ua G;have Ro:=hI.left i G G;have Rw:=eD (l:=V) (i:=i) (v:=(rd V i+1)/2) ar G;have hht:0<=t/\t<=65536:=by rw[Ry];exact Ua.1
   refine aJ<|aG<|aI<|wq<|wm Z<|wy (aH aa sz3 Z Z (rdr 1 Z))<|wy (aX ak Z Z (rdr 1 Z))<|wg Z<|wn Z<|wq<|wm Z<|wy (aD Z) ?_;refine wy (aB (off:=0) (m:=0) pu Z gW Z Z Z)<|wy (aK (rdr 0 Z) aa Z Z Z)<|wm Z<|wm Z<|wA Z Z<|wy (OM Z Z G G G)<|wy (aH aa sz3 Z Z (rdr 1 Z))<|bX (bG 1 Z sz3 Z Z) ?_;rintro _ _ rfl;refine aA<|bT mixed<|wD 0 Z (aN Z)<|wD 1 Z (aD Z)<|wD 2 Z (aB (off:=1) (m:=1) pu Z sz3 Z Z Z)<|wD 3 Z (aK (rdr 0 Z) ak Z Z Z)<|wD 4 Z (aN Z)<|wD 5 Z (aD Z)<|wD 6 Z (aB (off:=0) (m:=0) pu Z gW Z Z Z)<|wD 7 Z (aK (rdr 0 Z) aa Z Z Z)<|wD 8 Z (aN Z)<|wD 9 Z (aH aa sz3 Z Z (rdr 1 Z))<|wD 10 Z (aX ak Z Z (rdr 1 Z))<|wD 11 Z (dG Z Z)<|wD 12 Z (aD Z) ?_;refine wD 13 Z (aB (off:=1) (m:=1) pu Z sz3 Z Z Z)<|pQ 14 Z cA (bA 0 Z Z Z sz3 Z Z Z Z (au Z)) ?_;rintro _ _ rfl;refine⟨.inl cA,?_⟩;refine wN<|aM<|wA Z Z<|wm Z<|aA ?_;exact⟨i+1,upd V i (((rd V i)+1)/2),(t+rd (upd V i ((rd V i+1)/2)) i),⟨G,G,(hI.step yr ar G)⟩,G,SA,λ_ h=>h⟩
  ·refine aZ<|wq<|wn Z<|bR (R1:=((rc 256 2 g [sl A C.length c,I t])::(ri 3 A C.length c V)::R)) (λ_ h=>h) ?_;refine⟨_,Z,?_⟩;obtain rfl:i=258:=G
   obtain⟨e1,e2⟩:=hI.done_all yr;have e3:lK C fj=V:=by unfold lK;rw[cu G,e1]
   rw[e3,e1,<-e2];exact⟨Z,Z⟩
 ·refine aJ<|wq<|wn Z<|bR (R1:=((rc 256 2 g [sl A C.length c,I ((aU C)+32)])::(ri 3 A C.length c (upd C fj ((rd C fj)+32)))::R)) (λ_ h=>h) ?_;refine⟨_,Z,?_⟩;have e3:lK C fj=(upd C fj (rd C fj+32)):=by unfold lK;rw[bu G]
  rw[e3,Jn.2];exact⟨Z,Z⟩
variable {w w0:World} {low size total:Int} {B g n c:Nat} {R:List Row} {A:Option Addr}
theorem DD (d4:uV low size total):
  Ct Tryz.prog 203 #[I low,I size,I total] w.heap.size w [] (λv R'=>v=bt):=by
 refine fn1 Tryz.func203 Z Z Z ?_;obtain⟨s1,s2,s3,s4⟩:=d4;refine wq<|wn Z<|wq<|wm Z<|wy (Yl.t (vT Z Z) G)<|wm Z<|aC Z Z<|wm Z<|aC Z Z<|wy (Yl.t (jF Z Z) G)<|wy (aY Z Z)<|wm Z ?_;refine aC Z Z<|wm Z<|aC Z Z<|wy (Yl.t (jF Z Z) G)<|wy (aY Z Z)<|wm Z<|aC Z Z<|wm Z<|aC Z Z<|wm Z<|aC Z Z<|wy (Yl.t (vT Z Z) G)<|wy (aY Z Z)<|wm Z<|aC Z Z ?_;refine wm Z<|aC Z Z<|wm Z<|aC Z Z<|wm Z<|aC Z Z<|wS Z Z<|aC Z Z<|wy (Yl.t (vT Z Z) G)<|wy (aY Z Z)<|wn Z<|dF ?_;refine⟨_,Z,?_⟩;rfl
theorem IE:
  Ct Tryz.prog 128 #[] w.heap.size w [] (λv R'=> ∃g A c,v=PG g/\R'=[(rc 253 3 g [sl A cd0.k c, .int .u64 (cd0.N%4294967296), .int .u64 cd0.R]),(ru 5 A cd0.k c (beL cd0.k (cd0.N/4294967296)))]):=by
 refine fn1 Tryz.func128 Z Z Z ?_;refine wq<|wn Z<|wq<|wy (dU (v:= .agg #[sl none 0 0, .int .u64 0, .int .u64 4294967295]) Z (λw=>cA))<|wa (bY (sz:=3) rfl rfl) ?_;rintro _ _ ⟨al,rfl,rfl⟩;refine dH (R1:=[(ru 5 none 0 0 ([])),(rc 253 3 al [sl none 0 0, .int .u64 0, .int .u64 4294967295])]) (Sub.refl _) (λ_ h=>h.nil 5 1)<|wn Z<|aT [1,0] 99 cC Z ?_;refine⟨_,Z,?_⟩;exact⟨_,_,_,Z,Z⟩
theorem QH {b:List Int} {x r:Int} (hn:n=b.length) (hb:aO b) (hL:b.length<=1000000):
  Ct Tryz.prog 204 #[PG g] B w0 ((rc 253 3 g [sl A n c, .int .u64 x, .int .u64 r])::(ru 5 A n c b)::R) (λv R'=>v= .tuple #[]/\R'=(rc 253 3 g [sl A n c, .int .u64 x, .int .u64 r])::(ru 5 A n c (DW b 1))::R):=by
 subst hn;refine fn0 Tryz.func204 Z Z Z ?_;refine wq<|wm Z<|wy (aD Z)<|wy (aB (off:=0) (m:=0) jg Z dO Z Z Z)<|wy (aK (rdr 0 Z) ai Z Z Z)<|wy (aQ ai Z)<|wS Z Z<|wn Z<|aI ?_;refine dS (λ(i:Int) (V:List Int)=>[(0,PG g),(2,I i)]) (λi V=>((rc 253 3 g [sl A b.length c, .int .u64 x, .int .u64 r])::(ru 5 A b.length c V)::R)) (λi V=>(-1<=i)/\(i<b.length)/\(aCd b 1 V i 1)) (λi V=>(i+1).toNat) ?_ ?_
 ·exact⟨((b.length:Nat):Int)-1,b,⟨G,G,(aKj hb Z)⟩,SA,λ_ h=>h⟩
 intro i V ⟨ar,ia,hI⟩;have iu:=hI.1;have hVb:=hI.2.1.rd i;have Rw:=eD (l:=V) (i:=i) (v:=(rd V i+1)%256);refine aG<|wq<|wm Z<|wy (jF Z Z)<|aA<|bJ Z (λaq=> ?_) (λaq=> ?_)
 ·have Rw:=Rw G G;refine aJ<|aG<|aI<|wq<|wm Z<|wy (aD Z)<|wy (aB (off:=0) (m:=0) jg Z dO Z Z Z)<|wy (aK (rdr 0 Z) ai Z Z Z)<|wm Z<|wy (aH ai sz5 Z Z (rdr 1 Z))<|wy (aX cz Z Z (rdr 1 Z))<|wy (aYz Z Z)<|wy (aH ai sz5 Z Z (rdr 1 Z))<|bX (bG 1 Z sz5 Z Z) ?_;rintro _ _ rfl;refine aA<|wq<|wm Z<|wy (aD Z)<|wy (aB (off:=0) (m:=0) jg Z dO Z Z Z)<|wy (aK (rdr 0 Z) ai Z Z Z)<|wm Z<|wy (aH ai sz5 Z Z (rdr 1 Z))<|wy (aX cz Z Z (rdr 1 Z))<|wy (iZ Z Z)<|aA<|bJ Z (λcr=> ?_) (λcr=> ?_)
  ·refine bR (R1:=((rc 253 3 g [sl A b.length c, .int .u64 x, .int .u64 r])::(ru 5 A b.length c (upd V i (((rd V i)+1)%256)))::R)) (λ_ h=>h) ?_
   skip
   have e:upd V i ((rd V i+1)%256)=DW b 1:=(hI.step (y:=0) (d:=(rd V i+1)%256) G G G G).stop (.inl rfl);rw[e];exact⟨Z,Z⟩
  ·refine aJ<|aM<|wm Z<|wS Z Z<|wn Z ?_;exact⟨i-1,upd V i (((rd V i)+1)%256),⟨G,G,(hI.step G G G G)⟩,G,SA,λ_ h=>h⟩
 ·refine aZ ?_
  skip
  obtain rfl:=hI.stop (.inr G);exact⟨Z,Z⟩
set_option maxHeartbeats 1000000 in
theorem GM {s:CdS} (hn:n=s.k) (hc:XP s) (d4:uV low size total) (hk:s.k<=1000000):
  Ct Tryz.prog 132 #[PG g,I low,I size,I total] B w0 ((rc 253 3 g [sl A n c, .int .u64 (s.N%4294967296), .int .u64 s.R])::(ru 5 A n c (beL s.k (s.N/4294967296)))::R) (λv R'=> ∃(A1:Option Addr) (c1:Nat),v=bt/\R'=(rc 253 3 g [sl A1 ((gN s low size total).k) c1, .int .u64 ((gN s low size total).N%4294967296), .int .u64 ((gN s low size total).R)])::(ru 5 A1 ((gN s low size total).k) c1 (beL (gN s low size total).k ((gN s low size total).N/4294967296)))::R):=by
 subst hn;obtain⟨r0,r1,n0,nr⟩:=hc;have Ls:=d4;obtain⟨s1,s2,s3,s4⟩:=Ls;obtain⟨f1,f2,f3,f4,f5⟩:=oU d4 ⟨r0,r1⟩;refine fn1 Tryz.func132 Z Z Z ?_;refine wq<|wn Z<|aG<|wq<|wm Z<|wy (dA underlying181 Z Z)<|wm Z<|aC Z Z<|wm Z<|aC Z Z<|wm Z<|aC Z Z ?_;refine wm Z<|aC Z Z<|wa (aF aYa Z (Ct.quiet (λw hw=>DD d4))) ?_;rintro _ _ ⟨rfl,rfl⟩;refine aC Z Z<|wy (dI Z)<|wy (aR Z Z)<|aA<|aL Z<|aJ<|wq<|wm Z<|wy (aD Z)<|wy (aB (off:=2) (m:=2) jg Z dP Z Z Z)<|wy (aK (rdr 0 Z) fo Z Z Z)<|wm Z<|wy (iU ak fo Z)<|wy (ES Z Z G G) ?_;refine wn Z<|wq<|wm Z<|wy (aD Z)<|wy (aB (off:=1) (m:=1) jg Z dP Z Z Z)<|wy (aK (rdr 0 Z) fo Z Z Z)<|wm Z<|wm Z<|wy (iU ak fo Z)<|wy (wH Z Z G)<|wy (aYy Z Z G)<|wy (aD Z)<|wy (aB (off:=1) (m:=1) jg Z dP Z Z Z) ?_;refine bX (bA 0 Z Z Z dP Z Z Z Z (au Z)) ?_;rintro _ _ rfl;refine aA<|aG<|wq<|wm Z<|wy (aD Z)<|wy (aB (off:=1) (m:=1) jg Z dP Z Z Z)<|wy (aK (rdr 0 Z) fo Z Z Z)<|wy (pV (k:=32) (m:=4294967296) Z Z Z G Z)<|wy (dV Z Z)<|aA<|bJ Z (λaq=> ?_) (λaq=> ?_)
 ·refine wq<|wm Z<|wy (aD Z)<|wy (aB (off:=1) (m:=1) jg Z dP Z Z Z)<|wy (aK (rdr 0 Z) fo Z Z Z)<|wy (OP (m:=4294967296) 32 Z Z Z Z G Z)<|wy (aD Z)<|wy (aB (off:=1) (m:=1) jg Z dP Z Z Z)<|bX (bA 0 Z Z Z dP Z Z Z Z (au Z)) ?_;rintro _ _ rfl;refine aA<|aM<|wm Z<|wa (aF bEo Z ((QH (by rw[kP]) (BX _ _) (by rw[kP];omega)))) ?_;rintro _ _ ⟨rfl,rfl⟩;refine aA<|aG<|wq<|wm Z<|wm Z<|wm Z<|wy (iU ak fo Z)<|wy (wH Z Z G)<|wy (aD Z)<|wy (aB (off:=2) (m:=2) jg Z dP Z Z Z)<|bX (bA 0 Z Z Z dP Z Z Z Z (au Z)) ?_;rintro _ _ rfl;refine aA<|aI ?_;refine DZ (λ(j:Nat) (A1:Option Addr) (n1:Nat) (c1:Nat) (V:List Int) (x:Int) (r:Int) (M:Int)=>[(0,PG g)]) (λj A1 n1 c1 V x r M=>((rc 253 3 g [sl A1 n1 c1, .int .u64 x, .int .u64 r])::(ru 5 A1 n1 c1 V)::R)) (λj A1 n1 c1 V x r M=>(M=(s.N+s.R/total*low)*256^j)/\(r=(s.R/total*size)*256^j)/\(j<=shN (s.R/total*size))/\(V=beL (s.k+j) (M/4294967296))/\(x=M%4294967296)/\(n1=s.k+j)) (λj A1 n1 c1 V x r M=>(4-j)) ?_ ?_
  ·exact⟨0,A,s.k,c,DW (beL s.k (s.N/4294967296)) 1,((s.N%4294967296)+((s.R/total)*low))%4294967296,(s.R/total)*size,(s.N+s.R/total*low),⟨(by rw[vv,Ao]),(by rw[vv,Ao]),(uh _),(by first|(rw[QP,qa,show(s.N+s.R/total*low)/4294967296=s.N/4294967296+1 by omega])|(rw[qa,show(s.N+s.R/total*low)/4294967296=s.N/4294967296 by omega])),G,(Z)⟩,SA,λ_ h=>h⟩
  intro j A1 n1 c1 V x r M ⟨hM,hr,hj,hV,hx,dd⟩;have tx:=FP (s.R/total*size);have Vd:1<=r:=by rw[hr];exact GQ G
  refine aG<|wq<|wm Z<|wy (aD Z)<|wy (aB (off:=2) (m:=2) jg Z dP Z Z Z)<|wy (aK (rdr 0 Z) fo Z Z Z)<|wL Z Z<|aA<|bJ Z (λcr=> ?_) (λcr=> ?_)
  ·refine aJ<|aG<|aI<|aG<|bT mixed<|wD 0 Z (aN Z)<|wD 1 Z (aN Z)<|wD 2 Z (aD Z)<|wD 3 Z (aB (off:=0) (m:=0) jg Z dO Z Z Z)<|wD 4 Z (aK (rdr 0 Z) ai Z Z Z)<|wD 5 Z (aN Z)<|wD 6 Z (aD Z)<|wD 7 Z (aB (off:=1) (m:=1) jg Z dP Z Z Z)<|wD 8 Z (aK (rdr 0 Z) fo Z Z Z)<|wD 9 Z (pV (k:=24) (m:=16777216) Z Z Z G Z) ?_;refine wD 10 Z (iF fo cz Z)<|wC 11 Z (bS .u8 [(x/16777216)%256] ai zs5 Z Z Z) ?_;rintro _ _ ⟨cv,rfl,rfl⟩;refine⟨.inr λ_ h=>h.right (R':=[_]),?_⟩;refine wC 12 Z (bE 2 Z ai zb5 Z Z Z (rdr 0 Z)) ?_;rintro _ _ ⟨ij,io,rfl,rfl⟩;refine⟨.inl cA,?_⟩;refine CK (v:=sl ij (n1+1) io) Z<|wD 13 Z (aD Z)<|wD 14 Z (aB (off:=0) (m:=0) jg Z dO Z Z Z)<|pQ 15 Z cA (bA 1 Z Z Z dO Z Z Z Z (au Z)) ?_;rintro _ _ rfl;refine⟨.inl cA,?_⟩;refine wN<|aM<|wm Z<|wm Z<|wy (aD Z)<|wy (aB (off:=1) (m:=1) jg Z dP Z Z Z)<|wy (aK (rdr 1 Z) fo Z Z Z)<|wy (wF (k:=8) (m:=256) Z Z Z G Z)<|wy (OP (m:=4294967296) 32 Z Z Z Z G Z)<|wy (aD Z)<|wy (aB (off:=1) (m:=1) jg Z dP Z Z Z)<|bX (bA 1 Z Z Z dP Z Z Z Z (au Z)) ?_;rintro _ _ rfl;refine aA<|aM<|wm Z<|wy (aD Z)<|wy (aB (off:=2) (m:=2) jg Z dP Z Z Z)<|wy (aK (rdr 1 Z) fo Z Z Z)<|wy (wF (k:=8) (m:=256) Z Z Z G Z)<|wy (aD Z)<|wy (aB (off:=2) (m:=2) jg Z dP Z Z Z)<|bX (bA 1 Z Z Z dP Z Z Z Z (au Z)) ?_;rintro _ _ rfl;refine aA ?_;exact⟨(j+1),ij,n1+1,io,V++([(x/16777216)%256]),(x*256)%4294967296,r*256,(M*256),⟨(by rw[hM,ui,<-xe]),(by rw[hr,ui,<-xe]),(FO G hj (by rw[<-hr];assumption)),(by rw[hV,hx];exact(XB _ _).symm),G,(by rw[dd];rfl)⟩,G,SA,λ_ h=>h.selR (F:=[_,_,_]) (F':=[_,_]) [1,2] cC Z⟩
  ·refine aZ<|wq<|wn Z<|bR (R1:=((rc 253 3 g [sl A1 n1 c1, .int .u64 x, .int .u64 r])::(ru 5 A1 n1 c1 V)::R)) (λ_ h=>h) ?_;refine⟨_,Z,?_⟩;obtain rfl:j=shN (s.R/total*size):=OY G hj (by rw[<-hr];omega);refine⟨A1,c1,Z,?_⟩;rw[hV,hx,hr,hM,dd];rfl
 ·refine aJ<|aG<|wq<|wm Z<|wm Z<|wm Z<|wy (iU ak fo Z)<|wy (wH Z Z G)<|wy (aD Z)<|wy (aB (off:=2) (m:=2) jg Z dP Z Z Z)<|bX (bA 0 Z Z Z dP Z Z Z Z (au Z)) ?_;rintro _ _ rfl;refine aA<|aI ?_;refine DZ (λ(j:Nat) (A1:Option Addr) (n1:Nat) (c1:Nat) (V:List Int) (x:Int) (r:Int) (M:Int)=>[(0,PG g)]) (λj A1 n1 c1 V x r M=>((rc 253 3 g [sl A1 n1 c1, .int .u64 x, .int .u64 r])::(ru 5 A1 n1 c1 V)::R)) (λj A1 n1 c1 V x r M=>(M=(s.N+s.R/total*low)*256^j)/\(r=(s.R/total*size)*256^j)/\(j<=shN (s.R/total*size))/\(V=beL (s.k+j) (M/4294967296))/\(x=M%4294967296)/\(n1=s.k+j)) (λj A1 n1 c1 V x r M=>(4-j)) ?_ ?_
  ·exact⟨0,A,s.k,c,beL s.k (s.N/4294967296),(s.N%4294967296)+((s.R/total)*low),(s.R/total)*size,(s.N+s.R/total*low),⟨(by rw[vv,Ao]),(by rw[vv,Ao]),(uh _),(by first|(rw[QP,qa,show(s.N+s.R/total*low)/4294967296=s.N/4294967296+1 by omega])|(rw[qa,show(s.N+s.R/total*low)/4294967296=s.N/4294967296 by omega])),G,(Z)⟩,SA,λ_ h=>h⟩
  intro j A1 n1 c1 V x r M ⟨hM,hr,hj,hV,hx,dd⟩;have tx:=FP (s.R/total*size);have Vd:1<=r:=by rw[hr];exact GQ G
  refine aG<|wq<|wm Z<|wy (aD Z)<|wy (aB (off:=2) (m:=2) jg Z dP Z Z Z)<|wy (aK (rdr 0 Z) fo Z Z Z)<|wL Z Z<|aA<|bJ Z (λfd=> ?_) (λfd=> ?_)
  ·refine aJ<|aG<|aI<|aG<|bT mixed<|wD 0 Z (aN Z)<|wD 1 Z (aN Z)<|wD 2 Z (aD Z)<|wD 3 Z (aB (off:=0) (m:=0) jg Z dO Z Z Z)<|wD 4 Z (aK (rdr 0 Z) ai Z Z Z)<|wD 5 Z (aN Z)<|wD 6 Z (aD Z)<|wD 7 Z (aB (off:=1) (m:=1) jg Z dP Z Z Z)<|wD 8 Z (aK (rdr 0 Z) fo Z Z Z)<|wD 9 Z (pV (k:=24) (m:=16777216) Z Z Z G Z) ?_;refine wD 10 Z (iF fo cz Z)<|wC 11 Z (bS .u8 [(x/16777216)%256] ai zs5 Z Z Z) ?_;rintro _ _ ⟨fm,rfl,rfl⟩;refine⟨.inr λ_ h=>h.right (R':=[_]),?_⟩;refine wC 12 Z (bE 2 Z ai zb5 Z Z Z (rdr 0 Z)) ?_;rintro _ _ ⟨es,dt,rfl,rfl⟩;refine⟨.inl cA,?_⟩;refine CK (v:=sl es (n1+1) dt) Z<|wD 13 Z (aD Z)<|wD 14 Z (aB (off:=0) (m:=0) jg Z dO Z Z Z)<|pQ 15 Z cA (bA 1 Z Z Z dO Z Z Z Z (au Z)) ?_;rintro _ _ rfl;refine⟨.inl cA,?_⟩;refine wN<|aM<|wm Z<|wm Z<|wy (aD Z)<|wy (aB (off:=1) (m:=1) jg Z dP Z Z Z)<|wy (aK (rdr 1 Z) fo Z Z Z)<|wy (wF (k:=8) (m:=256) Z Z Z G Z)<|wy (OP (m:=4294967296) 32 Z Z Z Z G Z)<|wy (aD Z)<|wy (aB (off:=1) (m:=1) jg Z dP Z Z Z)<|bX (bA 1 Z Z Z dP Z Z Z Z (au Z)) ?_;rintro _ _ rfl;refine aA<|aM<|wm Z<|wy (aD Z)<|wy (aB (off:=2) (m:=2) jg Z dP Z Z Z)<|wy (aK (rdr 1 Z) fo Z Z Z)<|wy (wF (k:=8) (m:=256) Z Z Z G Z)<|wy (aD Z)<|wy (aB (off:=2) (m:=2) jg Z dP Z Z Z)<|bX (bA 1 Z Z Z dP Z Z Z Z (au Z)) ?_;rintro _ _ rfl;refine aA ?_;exact⟨(j+1),es,n1+1,dt,V++([(x/16777216)%256]),(x*256)%4294967296,r*256,(M*256),⟨(by rw[hM,ui,<-xe]),(by rw[hr,ui,<-xe]),(FO G hj (by rw[<-hr];assumption)),(by rw[hV,hx];exact(XB _ _).symm),G,(by rw[dd];rfl)⟩,G,SA,λ_ h=>h.selR (F:=[_,_,_]) (F':=[_,_]) [1,2] cC Z⟩
  ·refine aZ<|wq<|wn Z<|bR (R1:=((rc 253 3 g [sl A1 n1 c1, .int .u64 x, .int .u64 r])::(ru 5 A1 n1 c1 V)::R)) (λ_ h=>h) ?_;refine⟨_,Z,?_⟩;obtain rfl:j=shN (s.R/total*size):=OY G hj (by rw[<-hr];omega);refine⟨A1,c1,Z,?_⟩;rw[hV,hx,hr,hM,dd];rfl
theorem aPw {s:CdS} (hn:n=s.k) (hk:s.k<=1000000):
  Ct Tryz.prog 135 #[PG g] B w0 ((rc 253 3 g [sl A n c, .int .u64 (s.N%4294967296), .int .u64 s.R])::(ru 5 A n c (beL s.k (s.N/4294967296)))::R) (λv R'=> ∃(A1:Option Addr) (c1:Nat),v=sl A1 (s.k+4) c1/\R'=(ru 5 A1 (s.k+4) c1 (beL (s.k+4) s.N))::(rc 253 3 g [sl A n c, .int .u64 (s.N%4294967296), .int .u64 s.R])::(ru 5 A n c (beL s.k (s.N/4294967296)))::R):=by
 subst hn;have xt:=kP s.k (s.N/4294967296);refine fn1 Tryz.func135 Z Z Z ?_;refine wq<|wn Z<|aG<|wq<|wm Z<|wy (dA underlying181 Z Z)<|aA<|aL Z<|aJ<|wq<|wm Z ?_;refine wy (aD Z)<|wy (aB (off:=0) (m:=0) jg Z dO Z Z Z)<|wy (aK (rdr 0 Z) ai Z Z Z)<|wa (aF VK Z (Ct.fresh (λw hw=>lG ((rdr 1 Z) w hw) (by rw[kP];exact hk)))) ?_;rintro _ _ ⟨_,rfl,bx,br,rfl,rfl⟩;refine wn Z<|aG<|wq<|wm Z<|aA<|aI<|qL 5<|dY<|wq<|wy (Yl.t (eO Z Z) cC)<|aA<|aG ?_;refine bO Z<|aJ<|aG<|aI<|wq<|wm Z<|wn Z<|aM<|wm Z<|wm Z<|wy (aD Z)<|wy (aB (off:=1) (m:=1) jg Z dP Z Z Z)<|wy (aK (rdr 1 Z) fo Z Z Z) ?_;refine wm Z<|wy (Yl.is (dG Z Z) Z)<|wy (Yl.is (gZ Z Z) Z)<|wy (Yl.is (jE Z Z) Z)<|wy (pV (k:=24) (m:=16777216) Z Z Z G Z)<|wy (iF fo cz Z)<|wa (bS .u8 [((s.N%4294967296)/16777216)%256] ai zs5 Z Z Z) ?_;rintro _ _ ⟨dy,rfl,rfl⟩;refine wa (bE 1 Z ai zb5 Z Z Z (rdr 0 Z)) ?_;rintro _ _ ⟨fh,nf,rfl,rfl⟩;refine bN (v:=sl fh (((beL s.k (s.N/4294967296)).length)+1) nf) Z<|wn Z<|aM<|wy (Yl.is (dG Z Z) Z)<|wm Z<|aA<|dY<|wq<|wy (Yl.t (eO Z Z) cC)<|aA<|aG<|bO Z<|aJ ?_;refine aG<|aI<|wq<|wm Z<|wn Z<|aM<|wm Z<|wm Z<|wy (aD Z)<|wy (aB (off:=1) (m:=1) jg Z dP Z Z Z)<|wy (aK (rdr 2 Z) fo Z Z Z)<|wm Z<|wy (Yl.is (dG Z Z) Z) ?_;refine wy (Yl.is (gZ Z Z) Z)<|wy (Yl.is (jE Z Z) Z)<|wy (pV (k:=16) (m:=65536) Z Z Z G Z)<|wy (iF fo cz Z)<|wa (bS .u8 [((s.N%4294967296)/65536)%256] ai zs5 Z Z Z) ?_;rintro _ _ ⟨Nu,rfl,rfl⟩;refine wa (bE 2 Z ai zb5 Z Z Z (rdr 0 Z)) ?_;rintro _ _ ⟨fc,ci,rfl,rfl⟩;refine bN (v:=sl fc ((((beL s.k (s.N/4294967296)).length)+1)+1) ci) Z<|wn Z<|aM<|wy (Yl.is (dG Z Z) Z)<|wm Z<|aA<|dY<|wq<|wy (Yl.t (eO Z Z) cC)<|aA<|aG<|bO Z<|aJ ?_;refine aG<|aI<|wq<|wm Z<|wn Z<|aM<|wm Z<|wm Z<|wy (aD Z)<|wy (aB (off:=1) (m:=1) jg Z dP Z Z Z)<|wy (aK (rdr 3 Z) fo Z Z Z)<|wm Z<|wy (Yl.is (dG Z Z) Z) ?_;refine wy (Yl.is (gZ Z Z) Z)<|wy (Yl.is (jE Z Z) Z)<|wy (pV (k:=8) (m:=256) Z Z Z G Z)<|wy (iF fo cz Z)<|wa (bS .u8 [((s.N%4294967296)/256)%256] ai zs5 Z Z Z) ?_;rintro _ _ ⟨j6,rfl,rfl⟩;refine wa (bE 3 Z ai zb5 Z Z Z (rdr 0 Z)) ?_;rintro _ _ ⟨fz,ge,rfl,rfl⟩;refine bN (v:=sl fz (((((beL s.k (s.N/4294967296)).length)+1)+1)+1) ge) Z<|wn Z<|aM<|wy (Yl.is (dG Z Z) Z)<|wm Z<|aA<|dY<|wq<|wy (Yl.t (eO Z Z) cC)<|aA<|aG<|bO Z<|aJ ?_;refine aG<|aI<|wq<|wm Z<|wn Z<|aM<|wm Z<|wm Z<|wy (aD Z)<|wy (aB (off:=1) (m:=1) jg Z dP Z Z Z)<|wy (aK (rdr 4 Z) fo Z Z Z)<|wm Z<|wy (Yl.is (dG Z Z) Z) ?_;refine wy (Yl.is (gZ Z Z) Z)<|wy (Yl.is (jE Z Z) Z)<|wy (pV (k:=0) (m:=1) Z Z Z G Z)<|wy (iF fo cz Z)<|wa (bS .u8 [((s.N%4294967296)/1)%256] ai zs5 Z Z Z) ?_;rintro _ _ ⟨j8,rfl,rfl⟩;refine wa (bE 4 Z ai zb5 Z Z Z (rdr 0 Z)) ?_;rintro _ _ ⟨gd,gg,rfl,rfl⟩;refine bN (v:=sl gd ((((((beL s.k (s.N/4294967296)).length)+1)+1)+1)+1) gg) Z<|wn Z<|aM<|wy (Yl.is (dG Z Z) Z)<|wm Z<|aA<|dY<|wq<|wy (Yl.f (eO Z Z) cC)<|aA<|aG<|aL Z<|aZ ?_;refine wq<|wm Z<|wn Z<|aT [4,5,6] 7 cC Z ?_;refine⟨_,Z,?_⟩;have e:(beL s.k (s.N/4294967296)).length+1+1+1+1=s.k+4:=G
 rw[e,<-aWp s.k s.N _ rfl];exact⟨_,_,Z,Z⟩
variable {w w0:World} {fj o cls x i:Int} {B g g0 g1 g2 c:Nat} {R:List Row} {A:Option Addr} {C l:List Int}
theorem xG:
  Ct Tryz.prog 206 #[I fj] w.heap.size w [] (λv R'=>v=I (lF fj)):=by
 refine fn1 Tryz.func206 Z Z Z ?_;refine wq<|wn Z<|aG<|aI<|wq<|wm Z<|wL Z Z<|wn Z<|bJ Z (λaq=> ?_) (λaq=> ?_)
 ·refine wq<|wn Z<|dF ?_;refine⟨_,Z,?_⟩;exact bz (Value.int .i64) (by unfold lF;rw[cu cF])
 ·refine wq<|wm Z<|wL Z Z<|wn Z<|bJ Z (λcr=> ?_) (λcr=> ?_)
  ·refine wq<|wn Z<|dF ?_;refine⟨_,Z,?_⟩;exact bz (Value.int .i64) (by unfold lF;rw[bu cF,cu cF])
  ·refine aJ<|wq<|wn Z<|dF ?_;refine⟨_,Z,?_⟩;exact bz (Value.int .i64) (by unfold lF;rw[bu cF,bu cF])
theorem zB (ho:o=0\/o=1):
  Ct Tryz.prog 126 #[I o] w.heap.size w [] (λv R'=>v=bt):=by
 refine fn1 Tryz.func126 Z Z Z ?_;refine wq<|wn Z<|wq<|wm Z<|wy (bC Z Z)<|wm Z<|dQ 3 [(8, .bool (decide ((o=0)\/(o=1))))] [] ?_ ?_
 ·refine cK 5 Z (λaq=> ?_) (λaq=> ?_)
  ·refine aP Z Z Z Z<|aP Z Z Z Z<|wy (aY Z Z)<|aA ?_;exact⟨SA,λ_ h=>h⟩
  ·refine aC Z Z<|wm Z<|aC Z Z<|wy (bC Z Z)<|wy (aR Z Z)<|aA ?_;exact⟨SA,λ_ h=>h⟩
 refine kK 8 Z (ho)<|wn Z<|dF ?_;refine⟨_,Z,?_⟩;rfl
theorem NA:
  Ct Tryz.prog 127 #[I o] w.heap.size w [] (λv R'=> ∃(g g0 g1 g2:Nat) (A0 A1 A2:Option Addr) (c0 c1 c2:Nat),v=PG g/\R'=[(rc 250 5 g [PG g0,PG g1,PG g2,I 0,I o]),(rc 256 2 g0 [sl A0 258 c0,I 258]),(ri 3 A0 258 c0 wY),(rc 256 2 g1 [sl A1 258 c1,I 258]),(ri 3 A1 258 c1 wY),(rc 256 2 g2 [sl A2 258 c2,I 258]),(ri 3 A2 258 c2 wY)]):=by
 refine fn1 Tryz.func127 Z Z Z ?_;refine wq<|wn Z<|wq<|wm Z<|wy (dU (v:= .agg #[.pointer none, .pointer none, .pointer none,I 0,I o]) Z (λw=>cA))<|wa (bY (sz:=5) rfl rfl) ?_;rintro _ _ ⟨al,rfl,rfl⟩;refine wn Z<|aG<|wq<|wm Z<|aA<|aI<|qL 4<|dY<|wq<|wy (Yl.t (eO Z Z) cC)<|aA<|aG ?_;refine bO Z<|aJ<|aG<|aI<|wq<|wm Z<|wn Z<|bT mixed<|wD 0 Z (aN Z)<|wD 1 Z (aN Z)<|wD 3 Z (aD Z)<|wD 4 Z (aB (off:=0) (m:=0) qx Z LV Z Z Z)<|wC 2 Z (aF aQg Z (Ct.fresh (λw hw=>uH))) ?_;rintro _ _ ⟨_,rfl,cv,ij,io,rfl,rfl⟩;refine⟨.inr λ_ h=>h.right (R':=[_,_]),?_⟩;refine wD 5 Z (dC (q:=0) (rdr 2 Z) Bp xX Z Z (au Z) cC cC Z)<|pQ 6 Z cA (bA 2 Z Z Z xX Z Z Z Z (au Z)) ?_;rintro _ _ rfl;refine⟨.inl cA,?_⟩;refine wN<|aM<|wy (Yl.is (dG Z Z) Z)<|wm Z<|aA<|dY<|wq<|wy (Yl.t (eO Z Z) cC)<|aA<|aG<|bO Z<|aJ<|aG<|aI ?_;refine wq<|wm Z<|wn Z<|bT mixed<|wD 0 Z (aN Z)<|wD 1 Z (aN Z)<|wD 3 Z (aD Z)<|wD 4 Z (aB (off:=0) (m:=0) qx Z LV Z Z Z)<|wC 2 Z (aF aQg Z (Ct.fresh (λw hw=>uH))) ?_;rintro _ _ ⟨_,rfl,fm,es,dt,rfl,rfl⟩;refine⟨.inr λ_ h=>h.right (R':=[_,_]),?_⟩;refine wD 5 Z (dC (q:=1) (rdr 4 Z) Bp xX Z Z (au Z) cC cC Z)<|pQ 6 Z cA (bA 4 Z Z Z xX Z Z Z Z (au Z)) ?_;rintro _ _ rfl;refine⟨.inl cA,?_⟩;refine wN<|aM<|wy (Yl.is (dG Z Z) Z)<|wm Z<|aA<|dY<|wq<|wy (Yl.t (eO Z Z) cC)<|aA<|aG<|bO Z<|aJ<|aG<|aI ?_;refine wq<|wm Z<|wn Z<|bT mixed<|wD 0 Z (aN Z)<|wD 1 Z (aN Z)<|wD 3 Z (aD Z)<|wD 4 Z (aB (off:=0) (m:=0) qx Z LV Z Z Z)<|wC 2 Z (aF aQg Z (Ct.fresh (λw hw=>uH))) ?_;rintro _ _ ⟨_,rfl,Ka,oe,cg,rfl,rfl⟩;refine⟨.inr λ_ h=>h.right (R':=[_,_]),?_⟩;refine wD 5 Z (dC (q:=2) (rdr 6 Z) Bp xX Z Z (au Z) cC cC Z)<|pQ 6 Z cA (bA 6 Z Z Z xX Z Z Z Z (au Z)) ?_;rintro _ _ rfl;refine⟨.inl cA,?_⟩;refine wN<|aM<|wy (Yl.is (dG Z Z) Z)<|wm Z<|aA<|dY<|wq<|wy (Yl.f (eO Z Z) cC)<|aA<|aG<|aL Z<|aZ<|wq ?_;refine wm Z<|wn Z<|aT [6,4,5,2,3,0,1] 99 cC Z ?_;refine⟨_,Z,?_⟩;exact⟨_,_,_,_,_,_,_,_,_,_,Z,Z⟩
theorem mU (hk:cls*o=0):
  Ct Tryz.prog 130 #[PG g] B w0 ((rc 250 5 g [PG g0,PG g1,PG g2,I cls,I o])::R) (λv R'=>v=PG g0/\R'=(rc 250 5 g [PG g0,PG g1,PG g2,I cls,I o])::R):=by
 refine fn1 Ht Z Z Z ?_;refine wq<|wn Z<|aG<|bT mixed<|wD 0 Z (aN Z)<|wD 1 Z (aN Z)<|wD 2 Z (aD Z)<|wD 3 Z (aB (off:=3) (m:=3) qx Z sz3 Z Z Z)<|wD 4 Z (aK (rdr 0 Z) ak Z Z Z)<|wD 5 Z (aN Z)<|wD 6 Z (aD Z)<|wD 7 Z (aB (off:=4) (m:=4) qx Z sz3 Z Z Z)<|wD 8 Z (aK (rdr 0 Z) ak Z Z Z) ?_;refine wD 9 Z (Yl.is (gZ Z Z) (by rw[hk])) ?_;refine wD 10 Z (aD Z)<|wD 11 Z (aB (off:=0) (m:=0) qx Z LV Z Z Z)<|wD 12 Z (dC (q:=0) (rdr 0 Z) Bp xX Z Z (au Z) cC cC Z)<|wD 13 Z (aK (rdr 0 Z) Dk Z Z Z)<|wD 14 Z (bP Z)<|wN<|bR (R1:=((rc 250 5 g [PG g0,PG g1,PG g2,I cls,I o])::R)) (λ_ h=>h) ?_;refine⟨_,Z,?_⟩;exact⟨Z,Z⟩
theorem mR (hk:cls*o=1):
  Ct Tryz.prog 130 #[PG g] B w0 ((rc 250 5 g [PG g0,PG g1,PG g2,I cls,I o])::R) (λv R'=>v=PG g1/\R'=(rc 250 5 g [PG g0,PG g1,PG g2,I cls,I o])::R):=by
 refine fn1 Ht Z Z Z ?_;refine wq<|wn Z<|aG<|bT mixed<|wD 0 Z (aN Z)<|wD 1 Z (aN Z)<|wD 2 Z (aD Z)<|wD 3 Z (aB (off:=3) (m:=3) qx Z sz3 Z Z Z)<|wD 4 Z (aK (rdr 0 Z) ak Z Z Z)<|wD 5 Z (aN Z)<|wD 6 Z (aD Z)<|wD 7 Z (aB (off:=4) (m:=4) qx Z sz3 Z Z Z)<|wD 8 Z (aK (rdr 0 Z) ak Z Z Z) ?_;refine wD 9 Z (Yl.is (gZ Z Z) (by rw[hk])) ?_;refine wD 10 Z (aD Z)<|wD 11 Z (aB (off:=0) (m:=0) qx Z LV Z Z Z)<|wD 12 Z (dC (q:=1) (rdr 0 Z) Bp xX Z Z (au Z) cC cC Z)<|wD 13 Z (aK (rdr 0 Z) Dk Z Z Z)<|wD 14 Z (bP Z)<|wN<|bR (R1:=((rc 250 5 g [PG g0,PG g1,PG g2,I cls,I o])::R)) (λ_ h=>h) ?_;refine⟨_,Z,?_⟩;exact⟨Z,Z⟩
theorem mQ (hk:cls*o=2):
  Ct Tryz.prog 130 #[PG g] B w0 ((rc 250 5 g [PG g0,PG g1,PG g2,I cls,I o])::R) (λv R'=>v=PG g2/\R'=(rc 250 5 g [PG g0,PG g1,PG g2,I cls,I o])::R):=by
 refine fn1 Ht Z Z Z ?_;refine wq<|wn Z<|aG<|bT mixed<|wD 0 Z (aN Z)<|wD 1 Z (aN Z)<|wD 2 Z (aD Z)<|wD 3 Z (aB (off:=3) (m:=3) qx Z sz3 Z Z Z)<|wD 4 Z (aK (rdr 0 Z) ak Z Z Z)<|wD 5 Z (aN Z)<|wD 6 Z (aD Z)<|wD 7 Z (aB (off:=4) (m:=4) qx Z sz3 Z Z Z)<|wD 8 Z (aK (rdr 0 Z) ak Z Z Z) ?_;refine wD 9 Z (Yl.is (gZ Z Z) (by rw[hk])) ?_;refine wD 10 Z (aD Z)<|wD 11 Z (aB (off:=0) (m:=0) qx Z LV Z Z Z)<|wD 12 Z (dC (q:=2) (rdr 0 Z) Bp xX Z Z (au Z) cC cC Z)<|wD 13 Z (aK (rdr 0 Z) Dk Z Z Z)<|wD 14 Z (bP Z)<|wN<|bR (R1:=((rc 250 5 g [PG g0,PG g1,PG g2,I cls,I o])::R)) (λ_ h=>h) ?_;refine⟨_,Z,?_⟩;exact⟨Z,Z⟩
theorem FU (hk:cls*o=0) (hs:0<=fj/\fj<C.length) (cx:lJ C):
  Ct Tryz.prog 134 #[PG g,I fj] B w0 ((rc 250 5 g [PG g0,PG g1,PG g2,I cls,I o])::(rc 256 2 g0 [sl A 258 c,I (aU C)])::(ri 3 A 258 c C)::R) (λv R'=>v= .tuple #[]/\R'=(rc 250 5 g [PG g0,PG g1,PG g2,I (lF fj),I o])::(rc 256 2 g0 [sl A 258 c,I (aU (lK C fj))])::(ri 3 A 258 c (lK C fj))::R):=by
 have kc:=cx.1;refine fn0 Hu Z Z Z ?_;refine wq<|wm Z<|wa (aF mG Z (Ct.at 0 Z (mU cF))) ?_;rintro _ _ ⟨rfl,rfl⟩;refine wm Z<|wa (aF aQf Z (Ct.pick [1,2,0] 3 cC Z (uG (by rw[kc]) hs cx))) ?_;rintro _ _ ⟨rfl,rfl⟩;refine dH (R1:=((rc 250 5 g [PG g0,PG g1,PG g2,I cls,I o])::(rc 256 2 g0 [sl A 258 c,I (aU (lK C fj))])::(ri 3 A 258 c (lK C fj))::R)) (Sub.refl _) (λ_ h=>h.selR (F:=[_,_,_]) (F':=[_,_,_]) [2,0,1] cC Z)<|aA<|aM<|wm Z<|wm Z<|wa (aF aQe Z (Ct.quiet (λw hw=>xG))) ?_;rintro _ _ ⟨rfl,rfl⟩;refine wy (aD Z)<|wy (aB (off:=3) (m:=3) qx Z sz3 Z Z Z)<|bX (bA 0 Z Z Z sz3 Z Z Z Z (au Z)) ?_;rintro _ _ rfl;refine aA ?_
 skip
 exact⟨Z,Z⟩
theorem FT (hk:cls*o=1) (hs:0<=fj/\fj<C.length) (cx:lJ C):
  Ct Tryz.prog 134 #[PG g,I fj] B w0 ((rc 250 5 g [PG g0,PG g1,PG g2,I cls,I o])::(rc 256 2 g1 [sl A 258 c,I (aU C)])::(ri 3 A 258 c C)::R) (λv R'=>v= .tuple #[]/\R'=(rc 250 5 g [PG g0,PG g1,PG g2,I (lF fj),I o])::(rc 256 2 g1 [sl A 258 c,I (aU (lK C fj))])::(ri 3 A 258 c (lK C fj))::R):=by
 have kc:=cx.1;refine fn0 Hu Z Z Z ?_;refine wq<|wm Z<|wa (aF mG Z (Ct.at 0 Z (mR cF))) ?_;rintro _ _ ⟨rfl,rfl⟩;refine wm Z<|wa (aF aQf Z (Ct.pick [1,2,0] 3 cC Z (uG (by rw[kc]) hs cx))) ?_;rintro _ _ ⟨rfl,rfl⟩;refine dH (R1:=((rc 250 5 g [PG g0,PG g1,PG g2,I cls,I o])::(rc 256 2 g1 [sl A 258 c,I (aU (lK C fj))])::(ri 3 A 258 c (lK C fj))::R)) (Sub.refl _) (λ_ h=>h.selR (F:=[_,_,_]) (F':=[_,_,_]) [2,0,1] cC Z)<|aA<|aM<|wm Z<|wm Z<|wa (aF aQe Z (Ct.quiet (λw hw=>xG))) ?_;rintro _ _ ⟨rfl,rfl⟩;refine wy (aD Z)<|wy (aB (off:=3) (m:=3) qx Z sz3 Z Z Z)<|bX (bA 0 Z Z Z sz3 Z Z Z Z (au Z)) ?_;rintro _ _ rfl;refine aA ?_
 skip
 exact⟨Z,Z⟩
theorem FR (hk:cls*o=2) (hs:0<=fj/\fj<C.length) (cx:lJ C):
  Ct Tryz.prog 134 #[PG g,I fj] B w0 ((rc 250 5 g [PG g0,PG g1,PG g2,I cls,I o])::(rc 256 2 g2 [sl A 258 c,I (aU C)])::(ri 3 A 258 c C)::R) (λv R'=>v= .tuple #[]/\R'=(rc 250 5 g [PG g0,PG g1,PG g2,I (lF fj),I o])::(rc 256 2 g2 [sl A 258 c,I (aU (lK C fj))])::(ri 3 A 258 c (lK C fj))::R):=by
 have kc:=cx.1;refine fn0 Hu Z Z Z ?_;refine wq<|wm Z<|wa (aF mG Z (Ct.at 0 Z (mQ cF))) ?_;rintro _ _ ⟨rfl,rfl⟩;refine wm Z<|wa (aF aQf Z (Ct.pick [1,2,0] 3 cC Z (uG (by rw[kc]) hs cx))) ?_;rintro _ _ ⟨rfl,rfl⟩;refine dH (R1:=((rc 250 5 g [PG g0,PG g1,PG g2,I cls,I o])::(rc 256 2 g2 [sl A 258 c,I (aU (lK C fj))])::(ri 3 A 258 c (lK C fj))::R)) (Sub.refl _) (λ_ h=>h.selR (F:=[_,_,_]) (F':=[_,_,_]) [2,0,1] cC Z)<|aA<|aM<|wm Z<|wm Z<|wa (aF aQe Z (Ct.quiet (λw hw=>xG))) ?_;rintro _ _ ⟨rfl,rfl⟩;refine wy (aD Z)<|wy (aB (off:=3) (m:=3) qx Z sz3 Z Z Z)<|bX (bA 0 Z Z Z sz3 Z Z Z Z (au Z)) ?_;rintro _ _ rfl;refine aA ?_
 skip
 exact⟨Z,Z⟩
theorem aCu {s:PpS} (h:s.cls*o=0):jX o s x=⟨lK s.c0 x,s.c1,s.c2,lF x,sO s.cd s.c0 x⟩:=by
 unfold jX aGk tT;rw[cu h,cu h]
theorem aCt {s:PpS} (h:s.cls*o=1):jX o s x=⟨s.c0,lK s.c1 x,s.c2,lF x,sO s.cd s.c1 x⟩:=by
 unfold jX aGk tT;rw[bu G,cu h,bu G,cu h]
theorem aCs {s:PpS} (h:s.cls*o=2):jX o s x=⟨s.c0,s.c1,lK s.c2 x,lF x,sO s.cd s.c2 x⟩:=by
 unfold jX aGk tT;rw[bu G,bu G,bu G,bu G]
theorem qQ {s t:PpS} (h:s=encP o (l.take i.toNat)) (h0:0<=i) (hi:i<l.length) (ht:jX o s (rd l i)=t):t=encP o (l.take (i+1).toNat):=by
 rw[dD h0 hi,aIu,<-h,ht]
theorem aEr {s:PpS} (hl:aCb l) (h:s=encP o (l.take i.toNat)):LC s/\s.cd.k<=2*l.length:=by
 have:=zK (o:=o) (l:=l.take i.toNat) (λx hx=>hl x (lu hx));rw[<-h,ax] at this;exact⟨this.1,G⟩
theorem WQ {s:PpS} (h:LC s) (ho:o=0\/o=1):s.cls*o=0\/s.cls*o=1\/s.cls*o=2:=by
 have:=h.2.1;rcases ho with rfl|rfl<;>omega
set_option maxHeartbeats 4000000 in
theorem vM {ke:Option Addr} {qt kh:Nat} {b:List Int} (go:Rd w ke qt kh 1 (ints .u8 b)) (ce:aO b) (ho:o=0\/o=1) (hN:b.length<=100000):
  Ct Tryz.prog 75 #[sl ke qt kh,I o] w.heap.size w [] (λv R'=> ∃A c,v= .tuple #[sl A (dJ b o).length c,bt]/\R'=[(ru 5 A ((dJ b o).length) c (dJ b o))]):=by
 obtain rfl:=go.lenI;refine fn2 Tryz.func75 Z Z Z ?_;have Jr:=go.max;have o7:=qM ce;have tx:=LW b;have Qg:=oQ (bB aS b) 0;rw[iL] at Qg;have un:(bL b).length=(bD 0 (bB aS b)).length+1:=by unfold bL;rw[ah];rfl
 refine wq<|wg Z<|wn Z<|aG<|wq<|wm Z<|wa (aF aYi Z (Ct.quiet (λw hw=>zB ho))) ?_;rintro _ _ ⟨rfl,rfl⟩;refine wy (dI Z)<|wm Z<|aC Z Z<|wm Z<|aC Z Z<|wy (aQ ai Z)<|aC Z Z<|wy (Yl.f (dV Z Z))<|wy (aR Z Z)<|aA<|aL Z<|aJ<|wq<|wm Z ?_;refine wa (aF aYh Z (Ct.fresh (λw hw=>NA))) ?_;rintro _ _ ⟨_,rfl,al,cv,dq,dy,fh,fk,es,dt,kf,ci,rfl,rfl⟩;refine wn Z<|wq<|wa (aF bFf Z (Ct.fresh (λw hw=>IE))) ?_;rintro _ _ ⟨_,rfl,kb,pr,cj,rfl,rfl⟩;refine wn Z<|aG<|wq<|wm Z<|wa (aF bCz Z (Ct.fresh (λw hw=>MX ((go.c _) w hw) ce G))) ?_;rintro _ _ ⟨_,rfl,ff,fg,rfl,rfl⟩;refine wa (aF bFe Z (Ct.fresh (λw hw=>aFy ((rdr 0 Z) w hw) (mW ce) (by rw[iL];omega)))) ?_;rintro _ _ ⟨_,rfl,gd,gg,rfl,rfl⟩;refine wa (bS .i64 [257] aa zs3 Z Z Z) ?_;rintro _ _ ⟨jn,rfl,rfl⟩;refine wa (bE 1 Z aa zb3 Z Z Z (rdr 0 Z)) ?_;rintro _ _ ⟨en,ew,rfl,rfl⟩;refine bN (v:=sl en (((bD 0 (bB aS b)).length)+1) ew) Z<|wy (aQ aa Z)<|wm Z<|aA<|aI ?_;refine EB (λ(i:Int) (Aw:Option Addr) (cw:Nat) (Sx:PpS)=>[(6,PG al),(7,PG kb),(28,sl en (((bD 0 (bB aS b)).length)+1) ew),(29,I ((((bD 0 (bB aS b)).length)+1:Nat):Int)),(30,I i)]) (λi Aw cw Sx=>[(ri 3 (GG jn) 1 1 ([257])),(ri 3 en (((bD 0 (bB aS b)).length)+1) ew ((bD 0 (bB aS b))++([257]))),(ru 5 ff ((b).length) fg (bB aS b)),(rc 253 3 kb [sl Aw Sx.cd.k cw, .int .u64 (Sx.cd.N%4294967296), .int .u64 Sx.cd.R]),(ru 5 Aw Sx.cd.k cw (beL Sx.cd.k (Sx.cd.N/4294967296))),(rc 250 5 al [PG cv,PG dq,PG dy,I Sx.cls,I o]),(rc 256 2 cv [sl fh 258 dt,I (aU Sx.c0)]),(ri 3 fh 258 dt Sx.c0),(rc 256 2 dq [sl fk 258 kf,I (aU Sx.c1)]),(ri 3 fk 258 kf Sx.c1),(rc 256 2 dy [sl es 258 ci,I (aU Sx.c2)]),(ri 3 es 258 ci Sx.c2)]) (λi Aw cw Sx=>(0<=i)/\(i<=(bL b).length)/\(Sx=encP o ((bL b).take i.toNat))) (λi Aw cw Sx=>((bL b).length-i).toNat) ?_ ?_
 ·exact⟨0,pr,cj,pp0,⟨G,G,(Z)⟩,SA,λ_ h=>h⟩
 intro i Aw cw Sx ⟨ar,ia,hS⟩;have cm:=aEr o7 hS;refine wq<|wL Z Z<|aA<|aG<|bJ Z (λaq=> ?_) (λaq=> ?_)
 ·have hx:=o7 _ (bH (L:=bL b) (k:=i) ar G);refine aJ<|aG<|aI<|wq<|wy (aH aa sz3 Z Z (rdr 1 Z))<|wy (aX ak Z Z (rdr 1 Z))<|wn Z<|wq ?_;rcases WQ cm.1 ho with hk|hk|hk
  ·refine wm Z<|wa (aF mG Z (Ct.at 5 Z (mU hk))) ?_;rintro _ _ ⟨rfl,rfl⟩;refine wm Z<|wa (aF NS Z (Ct.sub (R1:=[(rc 256 2 cv [sl fh 258 dt,I (aU Sx.c0)]),(ri 3 fh 258 dt Sx.c0),(ri 3 (GG jn) 1 1 ([257])),(ri 3 en (((bD 0 (bB aS b)).length)+1) ew ((bD 0 (bB aS b))++([257]))),(ru 5 ff ((b).length) fg (bB aS b)),(rc 253 3 kb [sl Aw Sx.cd.k cw, .int .u64 (Sx.cd.N%4294967296), .int .u64 Sx.cd.R]),(ru 5 Aw Sx.cd.k cw (beL Sx.cd.k (Sx.cd.N/4294967296))),(rc 250 5 al [PG cv,PG dq,PG dy,I Sx.cls,I o]),(rc 256 2 dq [sl fk 258 kf,I (aU Sx.c1)]),(ri 3 fk 258 kf Sx.c1),(rc 256 2 dy [sl es 258 ci,I (aU Sx.c2)]),(ri 3 es 258 ci Sx.c2)]) (λ_ h=>h.sel [6,7,0,1,2,3,4,5,8,9,10,11] cC Z) (jR (by rw[cm.1.1.1.1]) (by rw[cm.1.1.1.1];exact hx) cm.1.1.1))) ?_;rintro _ _ ⟨rfl,rfl⟩;refine wm Z<|wX Z Z<|wX Z Z<|wX Z Z<|wg Z<|wg Z<|wn Z<|wq<|wm Z<|wm Z<|wm Z<|wm Z<|wa (aF mG Z (Ct.at 7 Z (mU hk))) ?_;rintro _ _ ⟨rfl,rfl⟩;refine wa (aF JD Z (Ct.sub (R1:=[(rc 256 2 cv [sl fh 258 dt,I (aU Sx.c0)]),(ri 3 fh 258 dt Sx.c0),(ri 3 (GG jn) 1 1 ([257])),(ri 3 en (((bD 0 (bB aS b)).length)+1) ew ((bD 0 (bB aS b))++([257]))),(ru 5 ff ((b).length) fg (bB aS b)),(rc 253 3 kb [sl Aw Sx.cd.k cw, .int .u64 (Sx.cd.N%4294967296), .int .u64 Sx.cd.R]),(ru 5 Aw Sx.cd.k cw (beL Sx.cd.k (Sx.cd.N/4294967296))),(rc 250 5 al [PG cv,PG dq,PG dy,I Sx.cls,I o]),(rc 256 2 dq [sl fk 258 kf,I (aU Sx.c1)]),(ri 3 fk 258 kf Sx.c1),(rc 256 2 dy [sl es 258 ci,I (aU Sx.c2)]),(ri 3 es 258 ci Sx.c2)]) (λ_ h=>h) (iB))) ?_;rintro _ _ ⟨rfl,rfl⟩;refine wa (aF aQn Z (Ct.sub (R1:=[(rc 253 3 kb [sl Aw Sx.cd.k cw, .int .u64 (Sx.cd.N%4294967296), .int .u64 Sx.cd.R]),(ru 5 Aw Sx.cd.k cw (beL Sx.cd.k (Sx.cd.N/4294967296))),(rc 256 2 cv [sl fh 258 dt,I (aU Sx.c0)]),(ri 3 fh 258 dt Sx.c0),(ri 3 (GG jn) 1 1 ([257])),(ri 3 en (((bD 0 (bB aS b)).length)+1) ew ((bD 0 (bB aS b))++([257]))),(ru 5 ff ((b).length) fg (bB aS b)),(rc 250 5 al [PG cv,PG dq,PG dy,I Sx.cls,I o]),(rc 256 2 dq [sl fk 258 kf,I (aU Sx.c1)]),(ri 3 fk 258 kf Sx.c1),(rc 256 2 dy [sl es 258 ci,I (aU Sx.c2)]),(ri 3 es 258 ci Sx.c2)]) (λ_ h=>h.sel [5,6,0,1,2,3,4,7,8,9,10,11] cC Z) (GM Z cm.1.2.2 (lT cm.1.1.1 hx.1 hx.2) G))) ?_;rintro _ _ ⟨pe,pf,rfl,rfl⟩;refine aA<|aM<|wm Z<|wm Z<|wa (aF NR Z (Ct.sub (R1:=[(rc 250 5 al [PG cv,PG dq,PG dy,I Sx.cls,I o]),(rc 256 2 cv [sl fh 258 dt,I (aU Sx.c0)]),(ri 3 fh 258 dt Sx.c0),(rc 253 3 kb [sl pe ((gN Sx.cd (aU (Sx.c0.take (rd ((bD 0 (bB aS b))++([257])) i).toNat)) (rd Sx.c0 (rd ((bD 0 (bB aS b))++([257])) i)) (aU Sx.c0)).k) pf, .int .u64 ((gN Sx.cd (aU (Sx.c0.take (rd ((bD 0 (bB aS b))++([257])) i).toNat)) (rd Sx.c0 (rd ((bD 0 (bB aS b))++([257])) i)) (aU Sx.c0)).N%4294967296), .int .u64 ((gN Sx.cd (aU (Sx.c0.take (rd ((bD 0 (bB aS b))++([257])) i).toNat)) (rd Sx.c0 (rd ((bD 0 (bB aS b))++([257])) i)) (aU Sx.c0)).R)]),(ru 5 pe ((gN Sx.cd (aU (Sx.c0.take (rd ((bD 0 (bB aS b))++([257])) i).toNat)) (rd Sx.c0 (rd ((bD 0 (bB aS b))++([257])) i)) (aU Sx.c0)).k) pf (beL (gN Sx.cd (aU (Sx.c0.take (rd ((bD 0 (bB aS b))++([257])) i).toNat)) (rd Sx.c0 (rd ((bD 0 (bB aS b))++([257])) i)) (aU Sx.c0)).k ((gN Sx.cd (aU (Sx.c0.take (rd ((bD 0 (bB aS b))++([257])) i).toNat)) (rd Sx.c0 (rd ((bD 0 (bB aS b))++([257])) i)) (aU Sx.c0)).N/4294967296))),(ri 3 (GG jn) 1 1 ([257])),(ri 3 en (((bD 0 (bB aS b)).length)+1) ew ((bD 0 (bB aS b))++([257]))),(ru 5 ff ((b).length) fg (bB aS b)),(rc 256 2 dq [sl fk 258 kf,I (aU Sx.c1)]),(ri 3 fk 258 kf Sx.c1),(rc 256 2 dy [sl es 258 ci,I (aU Sx.c2)]),(ri 3 es 258 ci Sx.c2)]) (λ_ h=>h.sel [7,2,3,0,1,4,5,6,8,9,10,11] cC Z) (FU hk (by rw[cm.1.1.1.1];exact hx) cm.1.1.1))) ?_;rintro _ _ ⟨rfl,rfl⟩;refine aA<|aM<|wA Z Z<|wm Z<|aA ?_;exact⟨i+1,pe,pf,(⟨lK Sx.c0 (rd (bL b) i),Sx.c1,Sx.c2,lF (rd (bL b) i),sO Sx.cd Sx.c0 (rd (bL b) i)⟩:PpS),⟨G,G,(qQ hS ar G (aCu hk))⟩,G,SA,λ_ h=>h.sel [5,6,7,3,4,0,1,2,8,9,10,11] cC Z⟩
  ·refine wm Z<|wa (aF mG Z (Ct.at 5 Z (mR hk))) ?_;rintro _ _ ⟨rfl,rfl⟩;refine wm Z<|wa (aF NS Z (Ct.sub (R1:=[(rc 256 2 dq [sl fk 258 kf,I (aU Sx.c1)]),(ri 3 fk 258 kf Sx.c1),(ri 3 (GG jn) 1 1 ([257])),(ri 3 en (((bD 0 (bB aS b)).length)+1) ew ((bD 0 (bB aS b))++([257]))),(ru 5 ff ((b).length) fg (bB aS b)),(rc 253 3 kb [sl Aw Sx.cd.k cw, .int .u64 (Sx.cd.N%4294967296), .int .u64 Sx.cd.R]),(ru 5 Aw Sx.cd.k cw (beL Sx.cd.k (Sx.cd.N/4294967296))),(rc 250 5 al [PG cv,PG dq,PG dy,I Sx.cls,I o]),(rc 256 2 cv [sl fh 258 dt,I (aU Sx.c0)]),(ri 3 fh 258 dt Sx.c0),(rc 256 2 dy [sl es 258 ci,I (aU Sx.c2)]),(ri 3 es 258 ci Sx.c2)]) (λ_ h=>h.sel [8,9,0,1,2,3,4,5,6,7,10,11] cC Z) (jR (by rw[cm.1.1.2.1.1]) (by rw[cm.1.1.2.1.1];exact hx) cm.1.1.2.1))) ?_;rintro _ _ ⟨rfl,rfl⟩;refine wm Z<|wX Z Z<|wX Z Z<|wX Z Z<|wg Z<|wg Z<|wn Z<|wq<|wm Z<|wm Z<|wm Z<|wm Z<|wa (aF mG Z (Ct.at 7 Z (mR hk))) ?_;rintro _ _ ⟨rfl,rfl⟩;refine wa (aF JD Z (Ct.sub (R1:=[(rc 256 2 dq [sl fk 258 kf,I (aU Sx.c1)]),(ri 3 fk 258 kf Sx.c1),(ri 3 (GG jn) 1 1 ([257])),(ri 3 en (((bD 0 (bB aS b)).length)+1) ew ((bD 0 (bB aS b))++([257]))),(ru 5 ff ((b).length) fg (bB aS b)),(rc 253 3 kb [sl Aw Sx.cd.k cw, .int .u64 (Sx.cd.N%4294967296), .int .u64 Sx.cd.R]),(ru 5 Aw Sx.cd.k cw (beL Sx.cd.k (Sx.cd.N/4294967296))),(rc 250 5 al [PG cv,PG dq,PG dy,I Sx.cls,I o]),(rc 256 2 cv [sl fh 258 dt,I (aU Sx.c0)]),(ri 3 fh 258 dt Sx.c0),(rc 256 2 dy [sl es 258 ci,I (aU Sx.c2)]),(ri 3 es 258 ci Sx.c2)]) (λ_ h=>h) (iB))) ?_;rintro _ _ ⟨rfl,rfl⟩;refine wa (aF aQn Z (Ct.sub (R1:=[(rc 253 3 kb [sl Aw Sx.cd.k cw, .int .u64 (Sx.cd.N%4294967296), .int .u64 Sx.cd.R]),(ru 5 Aw Sx.cd.k cw (beL Sx.cd.k (Sx.cd.N/4294967296))),(rc 256 2 dq [sl fk 258 kf,I (aU Sx.c1)]),(ri 3 fk 258 kf Sx.c1),(ri 3 (GG jn) 1 1 ([257])),(ri 3 en (((bD 0 (bB aS b)).length)+1) ew ((bD 0 (bB aS b))++([257]))),(ru 5 ff ((b).length) fg (bB aS b)),(rc 250 5 al [PG cv,PG dq,PG dy,I Sx.cls,I o]),(rc 256 2 cv [sl fh 258 dt,I (aU Sx.c0)]),(ri 3 fh 258 dt Sx.c0),(rc 256 2 dy [sl es 258 ci,I (aU Sx.c2)]),(ri 3 es 258 ci Sx.c2)]) (λ_ h=>h.sel [5,6,0,1,2,3,4,7,8,9,10,11] cC Z) (GM Z cm.1.2.2 (lT cm.1.1.2.1 hx.1 hx.2) G))) ?_;rintro _ _ ⟨ot,ov,rfl,rfl⟩;refine aA<|aM<|wm Z<|wm Z<|wa (aF NR Z (Ct.sub (R1:=[(rc 250 5 al [PG cv,PG dq,PG dy,I Sx.cls,I o]),(rc 256 2 dq [sl fk 258 kf,I (aU Sx.c1)]),(ri 3 fk 258 kf Sx.c1),(rc 253 3 kb [sl ot ((gN Sx.cd (aU (Sx.c1.take (rd ((bD 0 (bB aS b))++([257])) i).toNat)) (rd Sx.c1 (rd ((bD 0 (bB aS b))++([257])) i)) (aU Sx.c1)).k) ov, .int .u64 ((gN Sx.cd (aU (Sx.c1.take (rd ((bD 0 (bB aS b))++([257])) i).toNat)) (rd Sx.c1 (rd ((bD 0 (bB aS b))++([257])) i)) (aU Sx.c1)).N%4294967296), .int .u64 ((gN Sx.cd (aU (Sx.c1.take (rd ((bD 0 (bB aS b))++([257])) i).toNat)) (rd Sx.c1 (rd ((bD 0 (bB aS b))++([257])) i)) (aU Sx.c1)).R)]),(ru 5 ot ((gN Sx.cd (aU (Sx.c1.take (rd ((bD 0 (bB aS b))++([257])) i).toNat)) (rd Sx.c1 (rd ((bD 0 (bB aS b))++([257])) i)) (aU Sx.c1)).k) ov (beL (gN Sx.cd (aU (Sx.c1.take (rd ((bD 0 (bB aS b))++([257])) i).toNat)) (rd Sx.c1 (rd ((bD 0 (bB aS b))++([257])) i)) (aU Sx.c1)).k ((gN Sx.cd (aU (Sx.c1.take (rd ((bD 0 (bB aS b))++([257])) i).toNat)) (rd Sx.c1 (rd ((bD 0 (bB aS b))++([257])) i)) (aU Sx.c1)).N/4294967296))),(ri 3 (GG jn) 1 1 ([257])),(ri 3 en (((bD 0 (bB aS b)).length)+1) ew ((bD 0 (bB aS b))++([257]))),(ru 5 ff ((b).length) fg (bB aS b)),(rc 256 2 cv [sl fh 258 dt,I (aU Sx.c0)]),(ri 3 fh 258 dt Sx.c0),(rc 256 2 dy [sl es 258 ci,I (aU Sx.c2)]),(ri 3 es 258 ci Sx.c2)]) (λ_ h=>h.sel [7,2,3,0,1,4,5,6,8,9,10,11] cC Z) (FT hk (by rw[cm.1.1.2.1.1];exact hx) cm.1.1.2.1))) ?_;rintro _ _ ⟨rfl,rfl⟩;refine aA<|aM<|wA Z Z<|wm Z<|aA ?_;exact⟨i+1,ot,ov,(⟨Sx.c0,lK Sx.c1 (rd (bL b) i),Sx.c2,lF (rd (bL b) i),sO Sx.cd Sx.c1 (rd (bL b) i)⟩:PpS),⟨G,G,(qQ hS ar G (aCt hk))⟩,G,SA,λ_ h=>h.sel [5,6,7,3,4,0,8,9,1,2,10,11] cC Z⟩
  ·refine wm Z<|wa (aF mG Z (Ct.at 5 Z (mQ hk))) ?_;rintro _ _ ⟨rfl,rfl⟩;refine wm Z<|wa (aF NS Z (Ct.sub (R1:=[(rc 256 2 dy [sl es 258 ci,I (aU Sx.c2)]),(ri 3 es 258 ci Sx.c2),(ri 3 (GG jn) 1 1 ([257])),(ri 3 en (((bD 0 (bB aS b)).length)+1) ew ((bD 0 (bB aS b))++([257]))),(ru 5 ff ((b).length) fg (bB aS b)),(rc 253 3 kb [sl Aw Sx.cd.k cw, .int .u64 (Sx.cd.N%4294967296), .int .u64 Sx.cd.R]),(ru 5 Aw Sx.cd.k cw (beL Sx.cd.k (Sx.cd.N/4294967296))),(rc 250 5 al [PG cv,PG dq,PG dy,I Sx.cls,I o]),(rc 256 2 cv [sl fh 258 dt,I (aU Sx.c0)]),(ri 3 fh 258 dt Sx.c0),(rc 256 2 dq [sl fk 258 kf,I (aU Sx.c1)]),(ri 3 fk 258 kf Sx.c1)]) (λ_ h=>h.sel [10,11,0,1,2,3,4,5,6,7,8,9] cC Z) (jR (by rw[cm.1.1.2.2.1]) (by rw[cm.1.1.2.2.1];exact hx) cm.1.1.2.2))) ?_;rintro _ _ ⟨rfl,rfl⟩;refine wm Z<|wX Z Z<|wX Z Z<|wX Z Z<|wg Z<|wg Z<|wn Z<|wq<|wm Z<|wm Z<|wm Z<|wm Z<|wa (aF mG Z (Ct.at 7 Z (mQ hk))) ?_;rintro _ _ ⟨rfl,rfl⟩;refine wa (aF JD Z (Ct.sub (R1:=[(rc 256 2 dy [sl es 258 ci,I (aU Sx.c2)]),(ri 3 es 258 ci Sx.c2),(ri 3 (GG jn) 1 1 ([257])),(ri 3 en (((bD 0 (bB aS b)).length)+1) ew ((bD 0 (bB aS b))++([257]))),(ru 5 ff ((b).length) fg (bB aS b)),(rc 253 3 kb [sl Aw Sx.cd.k cw, .int .u64 (Sx.cd.N%4294967296), .int .u64 Sx.cd.R]),(ru 5 Aw Sx.cd.k cw (beL Sx.cd.k (Sx.cd.N/4294967296))),(rc 250 5 al [PG cv,PG dq,PG dy,I Sx.cls,I o]),(rc 256 2 cv [sl fh 258 dt,I (aU Sx.c0)]),(ri 3 fh 258 dt Sx.c0),(rc 256 2 dq [sl fk 258 kf,I (aU Sx.c1)]),(ri 3 fk 258 kf Sx.c1)]) (λ_ h=>h) (iB))) ?_;rintro _ _ ⟨rfl,rfl⟩;refine wa (aF aQn Z (Ct.sub (R1:=[(rc 253 3 kb [sl Aw Sx.cd.k cw, .int .u64 (Sx.cd.N%4294967296), .int .u64 Sx.cd.R]),(ru 5 Aw Sx.cd.k cw (beL Sx.cd.k (Sx.cd.N/4294967296))),(rc 256 2 dy [sl es 258 ci,I (aU Sx.c2)]),(ri 3 es 258 ci Sx.c2),(ri 3 (GG jn) 1 1 ([257])),(ri 3 en (((bD 0 (bB aS b)).length)+1) ew ((bD 0 (bB aS b))++([257]))),(ru 5 ff ((b).length) fg (bB aS b)),(rc 250 5 al [PG cv,PG dq,PG dy,I Sx.cls,I o]),(rc 256 2 cv [sl fh 258 dt,I (aU Sx.c0)]),(ri 3 fh 258 dt Sx.c0),(rc 256 2 dq [sl fk 258 kf,I (aU Sx.c1)]),(ri 3 fk 258 kf Sx.c1)]) (λ_ h=>h.sel [5,6,0,1,2,3,4,7,8,9,10,11] cC Z) (GM Z cm.1.2.2 (lT cm.1.1.2.2 hx.1 hx.2) G))) ?_;rintro _ _ ⟨sq,sr,rfl,rfl⟩;refine aA<|aM<|wm Z<|wm Z<|wa (aF NR Z (Ct.sub (R1:=[(rc 250 5 al [PG cv,PG dq,PG dy,I Sx.cls,I o]),(rc 256 2 dy [sl es 258 ci,I (aU Sx.c2)]),(ri 3 es 258 ci Sx.c2),(rc 253 3 kb [sl sq ((gN Sx.cd (aU (Sx.c2.take (rd ((bD 0 (bB aS b))++([257])) i).toNat)) (rd Sx.c2 (rd ((bD 0 (bB aS b))++([257])) i)) (aU Sx.c2)).k) sr, .int .u64 ((gN Sx.cd (aU (Sx.c2.take (rd ((bD 0 (bB aS b))++([257])) i).toNat)) (rd Sx.c2 (rd ((bD 0 (bB aS b))++([257])) i)) (aU Sx.c2)).N%4294967296), .int .u64 ((gN Sx.cd (aU (Sx.c2.take (rd ((bD 0 (bB aS b))++([257])) i).toNat)) (rd Sx.c2 (rd ((bD 0 (bB aS b))++([257])) i)) (aU Sx.c2)).R)]),(ru 5 sq ((gN Sx.cd (aU (Sx.c2.take (rd ((bD 0 (bB aS b))++([257])) i).toNat)) (rd Sx.c2 (rd ((bD 0 (bB aS b))++([257])) i)) (aU Sx.c2)).k) sr (beL (gN Sx.cd (aU (Sx.c2.take (rd ((bD 0 (bB aS b))++([257])) i).toNat)) (rd Sx.c2 (rd ((bD 0 (bB aS b))++([257])) i)) (aU Sx.c2)).k ((gN Sx.cd (aU (Sx.c2.take (rd ((bD 0 (bB aS b))++([257])) i).toNat)) (rd Sx.c2 (rd ((bD 0 (bB aS b))++([257])) i)) (aU Sx.c2)).N/4294967296))),(ri 3 (GG jn) 1 1 ([257])),(ri 3 en (((bD 0 (bB aS b)).length)+1) ew ((bD 0 (bB aS b))++([257]))),(ru 5 ff ((b).length) fg (bB aS b)),(rc 256 2 cv [sl fh 258 dt,I (aU Sx.c0)]),(ri 3 fh 258 dt Sx.c0),(rc 256 2 dq [sl fk 258 kf,I (aU Sx.c1)]),(ri 3 fk 258 kf Sx.c1)]) (λ_ h=>h.sel [7,2,3,0,1,4,5,6,8,9,10,11] cC Z) (FR hk (by rw[cm.1.1.2.2.1];exact hx) cm.1.1.2.2))) ?_;rintro _ _ ⟨rfl,rfl⟩;refine aA<|aM<|wA Z Z<|wm Z<|aA ?_;exact⟨i+1,sq,sr,(⟨Sx.c0,Sx.c1,lK Sx.c2 (rd (bL b) i),lF (rd (bL b) i),sO Sx.cd Sx.c2 (rd (bL b) i)⟩:PpS),⟨G,G,(qQ hS ar G (aCs hk))⟩,G,SA,λ_ h=>h.sel [5,6,7,3,4,0,8,9,10,11,1,2] cC Z⟩
 ·refine aZ<|wq<|wm Z<|wa (aF bFd Z (Ct.sub (R1:=[(rc 253 3 kb [sl Aw Sx.cd.k cw, .int .u64 (Sx.cd.N%4294967296), .int .u64 Sx.cd.R]),(ru 5 Aw Sx.cd.k cw (beL Sx.cd.k (Sx.cd.N/4294967296))),(ri 3 (GG jn) 1 1 ([257])),(ri 3 en (((bD 0 (bB aS b)).length)+1) ew ((bD 0 (bB aS b))++([257]))),(ru 5 ff ((b).length) fg (bB aS b)),(rc 250 5 al [PG cv,PG dq,PG dy,I Sx.cls,I o]),(rc 256 2 cv [sl fh 258 dt,I (aU Sx.c0)]),(ri 3 fh 258 dt Sx.c0),(rc 256 2 dq [sl fk 258 kf,I (aU Sx.c1)]),(ri 3 fk 258 kf Sx.c1),(rc 256 2 dy [sl es 258 ci,I (aU Sx.c2)]),(ri 3 es 258 ci Sx.c2)]) (λ_ h=>h.sel [3,4,0,1,2,5,6,7,8,9,10,11] cC Z) (aPw Z G))) ?_;rintro _ _ ⟨Ju,Jy,rfl,rfl⟩;refine wg Z<|wn Z<|bR (R1:=[(ru 5 Ju (Sx.cd.k+4) Jy (beL (Sx.cd.k+4) Sx.cd.N))]) (λ_ h=>h.sel [0] cC Z) ?_;refine⟨_,_,Z,Z,?_⟩;rw[bn G] at hS;have e:(dJ b o).length=Sx.cd.k+4:=by unfold dJ;rw[kP,<-hS]
  have e2:dJ b o=beL (Sx.cd.k+4) Sx.cd.N:=by unfold dJ;rw[<-hS]
  rw[e,e2];exact⟨_,_,Z,Z⟩
end Go.Proofs.YtdbebmmhdefgdaaGreat
namespace Go.Pure
open Go Go.Eng
variable {k i b d s r x:Int} {t l:List Int} {B:Nat} {w0:World} {R:List Row} {vals:List Value} {ls:List (List Int)}
def aEx (x:BitVec 32):BitVec 32:=if x &&& 1#32=1#32 then(x>>>1)^^^3988292384#32 else x>>>1
def JF:Nat->BitVec 32->BitVec 32
 |0,x=>x
 |k+1,x=>JF k (aEx x)
def aAv (x:BitVec 32):BitVec 32:=JF 8 x
theorem NT {x:BitVec 32} (h:k<8):JF (8-k).toNat x=JF (8-(k+1)).toNat (aEx x):=by
 have e:(8-k).toNat=(8-(k+1)).toNat+1:=G
 rw[e];rfl
def aAw (x:BitVec 32) (b:Int):BitVec 32:=(x &&& 255#32)^^^BitVec.ofInt 32 b
def bFp (x:BitVec 32) (b:Int):BitVec 32:=(x>>>8)^^^aAv (aAw x b)
def JO (x:BitVec 32) (l:List Int):BitVec 32:=l.foldl bFp x
def jS (l:List Int):BitVec 32:=JO 4294967295#32 l^^^4294967295#32
def qJ:List Int:=(List.range 256).map λi=>bv (aAv (BitVec.ofNat 32 i))
theorem uQ:qJ.length=256:=by unfold qJ;rw[bi,Fx]
theorem aEw {i:Nat} (h:i<256):qJ[i]? =some (bv (aAv (BitVec.ofNat 32 i))):=by
 unfold qJ;rw[qo,zg h];rfl
theorem MU (i:Nat):BitVec.ofInt 32 (i:Int)=BitVec.ofNat 32 i:=rfl
theorem aRh {x:BitVec 32} (hb:0<=b/\b<256):(aAw x b).toNat=(x.toNat%256)^^^b.toNat:=by
 obtain⟨b,rfl⟩: ∃m:Nat,b=m:=⟨b.toNat,G⟩;unfold aAw;have e1:(255#32).toNat=2^8-1:=rfl;have e2:(BitVec.ofInt 32 (b:Int)).toNat=b:=by rw[MU,BitVec.toNat_ofNat];omega
 rw[BitVec.toNat_xor,BitVec.toNat_and,e1,e2,Da,az]
theorem QF {x:BitVec 32} (hb:0<=b/\b<256):0<=bv (aAw x b)/\bv (aAw x b)<256:=by
 have h:(aAw x b).toNat<2^8:=by
  rw[aRh hb];exact Nat.xor_lt_two_pow (by have:=yg x.toNat (show 0<256 by omega);omega) G
 unfold bv;omega
def sP (d s r:Int) (t:List Int):List Value:=[.int .u32 d, .int .i32 s, .int .u32 0, .int .i32 r]++ints .u32 t
def dB (T g:Nat) (d s r:Int) (t:List Int):Row:=⟨T,260,some ⟨g,0,none⟩,1,1,sP d s r t,false⟩
theorem BS (d s r:Int) (t:List Int):(sP d s r t).length=4+t.length:=by
 unfold sP;rw[ah,bV];rfl
theorem aRb {i:Nat} (h:t[i]? =some x):(sP d s r t)[4+i]? =some (.int .u32 x):=by
 unfold sP;rw[iy cD];simp[ints,h]
theorem aJl {i:Nat}:(sP d s r t).set (4+i) (.int .u32 x)=sP d s r (t.set i x):=by
 unfold sP ints;rw[Cz _ _ cD,List.map_set];simp
theorem aJk (ht:t.length=256) (h0:0<=k) (h1:k<256):(qJ.take k.toNat++t.drop k.toNat).set k.toNat (bv (aAv (BitVec.ofInt 32 k)))=qJ.take (k+1).toNat++t.drop (k+1).toNat:=by
 obtain⟨k,rfl⟩: ∃m:Nat,k=m:=⟨k.toNat,G⟩;have e:((k:Int)+1).toNat=k+1:=G
 rw[e,az,MU];have hk:k<qJ.length:=by rw[uQ];omega
 have hl:(qJ.take k).length=k:=by rw[ax];omega
 rw[Cz _ _ G,hl,Bc,jw (by omega:k<t.length),Ew,qp,aEw G];simp
theorem aWb {x:BitVec 32} (h:bv x<256):qJ[(bv x).toNat]? =some (bv (aAv x)):=by
 have e:(bv x).toNat=x.toNat:=by unfold bv;rw[az]
 rw[e,aEw (by unfold bv at h;omega),BitVec.ofNat_toNat,BitVec.setWidth_eq]
def xI (B:Nat) (w0:World) (R:List Row) (vals:List Value) (ls:List (List Int)):Prop:=vals.length=ls.length/\ ∀(j:Nat) (v:Value),vals[j]? =some v-> ∃(A:Option Addr) (c:Nat) (l:List Int),v=Value.slice A l.length c/\ls[j]? =some l/\RdC B w0 R A l.length c 1 (ints .u8 l)/\aO l
theorem xI.at (h:xI B w0 R vals ls) (h0:0<=i) (h1:i<vals.length): ∃(A:Option Addr) (c:Nat) (l:List Int),vals[i.toNat]? =some (Value.slice A l.length c)/\ls[i.toNat]? =some l/\RdC B w0 R A l.length c 1 (ints .u8 l)/\aO l:=by
 have aw:i.toNat<vals.length:=G
 obtain⟨A,c,l,e,h2,h3,h4⟩:=h.2 i.toNat _ (av aw);exact⟨A,c,l,by rw[av aw,e],h2,h3,h4⟩
theorem xI.one {A:Option Addr} {c n:Nat} (h:RdC B w0 R A n c 1 (ints .u8 l)) (hb:aO l) (hn:n=l.length):xI B w0 R [.slice A n c] [l]:=by
 subst hn
 exact⟨rfl,λj v hv=>by
  cases j with
  |zero=>exact⟨A,c,l,by simpa using hv.symm,rfl,h,hb⟩
  |succ j=>simp at hv⟩
theorem xI.of {w:World} (h:SlW .u8 w vals ls):xI w.heap.size w R vals ls:=
 ⟨h.1,λj v hv=>by
  have aw:j<ls.length:=by rw[<-h.1];exact(dn.1 hv).1
  obtain⟨A,c,h1,h2,h3,_⟩:=h.2 j aw;rw[h1] at hv;have e:ls.getD j []=ls[j]:=by simp[af,av aw]
  rw[e] at hv h2 h3
  exact⟨A,c,ls[j],(iw hv).symm,av aw,h2.c R,byteL_wf h3⟩⟩
def Big (ls:List (List Int)):Prop:=ls.length<=1000000/\ ∀(j:Nat) (l:List Int),ls[j]? =some l->l.length<=1000000
theorem Big.one (h:l.length<=1000000):Big [l]:=⟨cD,λj q hq=>by
 cases j with
 |zero=>simp at hq;subst hq;exact h
 |succ j=>simp at hq⟩
theorem Big.nil:Big []:=⟨cD,λj q hq=>by simp at hq⟩
theorem Big.snoc {q:List Int} (h:Big ls) (h1:ls.length<1000000) (h2:q.length<=1000000):Big (ls++[q]):=⟨cG,λj r hr=>by
 rw[List.getElem?_append] at hr;split at hr
 ·exact h.2 j r hr
 ·rename_i hj
  have hz:j-ls.length=0:=by
   rcases dx (j-ls.length) with e|e
   ·exact e
   ·rw[ll cG] at hr;cases hr
  rw[hz] at hr;simp at hr
  rw[<-hr];exact h2⟩
theorem xI.nil:xI B w0 R [] []:=⟨rfl,λj v hv=>by simp at hv⟩
theorem aJd (h0:0<=i) (h:ls[i.toNat]? =some l):(ls.drop i.toNat).flatten=l++(ls.drop (i+1).toNat).flatten:=by
 have aw:i.toNat<ls.length:=(dn.1 h).1;have e:(i+1).toNat=i.toNat+1:=G
 rw[jw aw,(dn.1 h).2,e];rfl
theorem aBh {x:BitVec 32} {m:List Int} (h0:0<=i) (h:i<l.length):JO x (l.drop i.toNat++m)=JO (bFp x (rd l i)) (l.drop (i+1).toNat++m):=by
 rw[nV h0 h];rfl
theorem VU {α:Type} {l:List α} (h:(l.length:Int)<=i):l.drop i.toNat=[]:=uk G
end Go.Pure
namespace Go.Proofs.YtdbebmmhdefgdaaGreat
open Go Go.Eng Go.Pure
theorem CV (w:World):(callFunc 306 #[]).run Tryz.prog w= .ok (.value (.tuple #[])) w:=run_call_mark0 Tryz.func306 cA cA cA .disable cA w
theorem GJ (w:World):(callFunc 308 #[]).run Tryz.prog w= .ok (.value (.tuple #[])) w:=run_call_mark0 Tryz.func308 cA cA cA .enable cA w
theorem TJ (a:Addr) (w:World):(callFunc 309 #[.pointer (some a)]).run Tryz.prog w= .ok (.value (.tuple #[])) w:=run_call_marked Tryz.func309 cA cA cA .acquire cA a w
theorem BB (a:Addr) (w:World):(callFunc 311 #[.pointer (some a)]).run Tryz.prog w= .ok (.value (.tuple #[])) w:=run_call_marked Tryz.func311 cA cA cA .releaseMerge cA a w
theorem KG (a:Addr) (x:Value) (u:FrameMode) (w:World) (hc:w.cell? a=some x) (hz:w.frozen? a=false):
  CallsD Tryz.prog 256 #[.pointer (some a), .bool true] u w λe u' w'=>u'=u/\(e= .returned (.tuple #[])/\w'=w.drew.setCell a (.int .u32 1)):=by
 have Tr:w.drew.cell? a=some x:=by go_simp
 have hz':w.drew.frozen? a=false:=by go_simp
 have ee:=run_call_store (P:=Tryz.prog) Tryz.func288 cA cA cA cA (k:= .u32) (y:=1) Tr hz'
 go_enter_d Tryz.func256,Tryz.ntmps256
 go_wp2
 go_region_calls
 all_goals (go_end0;exact⟨rfl,rfl⟩)
set_option maxRecDepth 100000 in
theorem FI (a:Addr) (u:FrameMode) (w:World) (hc:w.cell? a=some (.int .i32 1)) (hz:w.frozen? a=false):
  CallsD Tryz.prog 255 #[.pointer (some a)] u w λe u' w'=>u'=u/\(e= .returned (.tuple #[])/\w'=w.setCell a (.int .i32 0)):=by
 have hd:=CV;have he:=GJ;have hr:=BB;have Cd:=Er (P:=Tryz.prog) Tryz.func257 cA cA cA .i32 cA (y:= -1) (s:=0) hc hz (by simp[go_sem];rfl);have hcv:=run_convert_to_unsafe (P:=Tryz.prog) (src:=340) (dst:=343) Tryz.underlying340 Tryz.underlying343 cA hc
 go_enter_d Tryz.func255,Tryz.ntmps255
 go_wp2
 go_end0
 go_wp2
 go_end0
 exact⟨rfl,rfl⟩
set_option maxRecDepth 100000 in
theorem aOm (a:Addr) (w:World) (hc:w.cell? a=some (.int .i32 0)) (hz:w.frozen? a=false):
  Calls Tryz.prog 254 #[.pointer (some a)] w λe w'=>e= .returned (.tuple #[])/\w'=w.setCell a (.int .i32 1):=by
 have hd:=CV;have he:=GJ;have ha:=TJ;have hcas:=run_call_cas_hit (P:=Tryz.prog) Tryz.func307 cA cA cA .i32 cA (y:=1) hc hz;have Tr:(w.setCell a (.int .i32 1)).cell? a=some (.int .i32 1):=World.cell?_setCell_same w a _ hc;have hcv:=run_convert_to_unsafe (P:=Tryz.prog) (src:=340) (dst:=343) Tryz.underlying340 Tryz.underlying343 cA Tr
 go_enter Tryz.func254,Tryz.ntmps254
 go_wp2
 first|go_end0|(simp only[Exit.inBlock,Exit.then];refine bodyPost_ret (results_none rfl _ _ _) rfl ?_)|refine bodyPost_ret (results_none rfl _ _ _) rfl ?_
 go_wp2
 go_end0
 exact⟨rfl,rfl⟩
section
variable {B:Nat} {w0:World} {R:List Row} {T g:Nat} {r r':Int} {t t':List Int}
theorem zM {w:World} {d s:Int} (h:Hp B w0 w (dB T g d s r t::R)) (j:Nat):w.frozen? ⟨g,j,none⟩=false:=h.openAt 0 j rfl rfl rfl
theorem zN {w:World} {d s:Int} (h:Hp B w0 w (dB T g d s r t::R)):w.cell? ⟨g,0,none⟩=some (.int .u32 d):=h.cellAt 0 (r:=dB T g d s r t) (j:=0) rfl rfl rfl
theorem WJ {w:World} {d s:Int} (h:Hp B w0 w (dB T g d s r t::R)):w.cell? ⟨g,1,none⟩=some (.int .i32 s):=h.cellAt 0 (r:=dB T g d s r t) (j:=1) rfl rfl rfl
theorem aQz {w:World} {d s:Int} (h:Hp B w0 w (dB T g d s r t::R)):w.cell? ⟨g,3,none⟩=some (.int .i32 r):=h.cellAt 0 (r:=dB T g d s r t) (j:=3) rfl rfl rfl
theorem WI {w:World} {d s:Int} (h:Hp B w0 w (dB T g d s r t::R)) (x:Int):Hp B w0 (w.setCell ⟨g,0,none⟩ (.int .u32 x)) (dB T g x s r t::R):=h.set1 0 (r:=dB T g d s r t) (j:=0) (v:= .int .u32 x) rfl rfl rfl
theorem DI {w:World} {d s:Int} (h:Hp B w0 w (dB T g d s r t::R)) (x:Int):Hp B w0 (w.setCell ⟨g,1,none⟩ (.int .i32 x)) (dB T g d x r t::R):=h.set1 0 (r:=dB T g d s r t) (j:=1) (v:= .int .i32 x) rfl rfl rfl
theorem WH {w:World} {d s:Int} (h:Hp B w0 w (dB T g d s r t::R)) (x:Int):Hp B w0 (w.setCell ⟨g,3,none⟩ (.int .i32 x)) (dB T g d s x t::R):=h.set1 0 (r:=dB T g d s r t) (j:=3) (v:= .int .i32 x) rfl rfl rfl
theorem aRa {w:World} {R:List Row} (h:Hp B w0 w R):Hp B w0 w.drew R:=h.drawn _ (Fy _)
set_option maxRecDepth 100000 in
set_option maxHeartbeats 1600000 in
theorem aNx {w:World} (hh:Hp B w0 w (dB T g 0 0 r t::R)) (hm: ∀w,Hp B w0 w (dB T g 0 1 r t::R)->Calls Tryz.prog 137 #[.pointer (some ⟨g,0,none⟩)] w λe w'=>e= .returned (.tuple #[])/\Hp B w0 w' (dB T g 0 1 r' t'::R)):
  Calls Tryz.prog 208 #[.pointer (some ⟨g,0,none⟩), .func (.func 137) #[.pointer (some ⟨g,0,none⟩)] #[]] w λe w'=>e= .returned (.tuple #[])/\Hp B w0 w' (dB T g 1 0 r' t'::R):=by
 have h1:=DI hh 1;have hl:=run_call_load (P:=Tryz.prog) Tryz.func253 cA cA cA .u32 cA (zN h1);have Fd: ∀(x:Bool) (w:World),(Op.unary .not (.bool x)).run Tryz.prog w= .ok (.bool (!x)) w:=λ_ _=>rfl;have k1:=WJ hh;have k2:=zM hh 1
 go_enter_defers Tryz.func208,Tryz.ntmps208
 go_wp2_with (first|(go_at_call 254;refine(aOm ⟨g,1,none⟩ _ (by go_simp) (by go_simp)).mono ?_;rintro e w' ⟨rfl,rfl⟩)|(go_at_call 137;refine(hm _ h1).mono ?_;rintro e w' ⟨rfl,h2⟩)|(go_at_call 207;go_in))
 refine leaves_cons (f:=256) (args:= #[.pointer (some ⟨g,0,none⟩), .bool true]) cD (by simp[go_sem]) ?_;refine(KG ⟨g,0,none⟩ _ .returning _ (zN h2) (zM h2 0)).mono ?_;rintro e u' Md ⟨rfl,rfl,rfl⟩;have h3:=WI (aRa h2) 1;refine leaves_cons (f:=255) (args:= #[.pointer (some ⟨g,1,none⟩)]) (by simp[settle]) (by simp[go_sem]) ?_;refine(FI ⟨g,1,none⟩ _ _ (WJ h3) (zM h3 1)).mono ?_;rintro e u' Md ⟨rfl,rfl,rfl⟩;have h4:=DI h3 0;simp[Leaves,settle,results,Tryz.results208];exact h4
set_option maxRecDepth 100000 in
set_option maxHeartbeats 1600000 in
theorem aHf (hm: ∀w,Hp B w0 w (dB T g 0 1 r t::R)->Calls Tryz.prog 137 #[.pointer (some ⟨g,0,none⟩)] w λe w'=>e= .returned (.tuple #[])/\Hp B w0 w' (dB T g 0 1 r' t'::R)):
  Ct Tryz.prog 136 #[.pointer (some ⟨g,0,none⟩), .func (.func 137) #[.pointer (some ⟨g,0,none⟩)] #[]] B w0 (dB T g 0 0 r t::R) (λv R'=>v= .tuple #[]/\R'=dB T g 1 0 r' t'::R):=by
 intro w hh;have hl:=run_call_load (P:=Tryz.prog) Tryz.func253 cA cA cA .u32 cA (zN hh);have Fd: ∀(x:Bool) (w:World),(Op.unary .not (.bool x)).run Tryz.prog w= .ok (.bool (!x)) w:=λ_ _=>rfl
 go_enter Tryz.func136,Tryz.ntmps136
 go_wp2_with (first|(go_at_call 208;refine(aNx hh hm).mono ?_;rintro e w' ⟨rfl,h2⟩)|(go_at_call 207;go_in))
 go_end0
 exact⟨_,_,rfl,h2,rfl,rfl⟩
theorem aNy {fv:Value}:Ct Tryz.prog 136 #[.pointer (some ⟨g,0,none⟩),fv] B w0 (dB T g 1 0 r t::R) (λv R'=>v= .tuple #[]/\R'=dB T g 1 0 r t::R):=by
 intro w hh;have hl:=run_call_load (P:=Tryz.prog) Tryz.func253 cA cA cA .u32 cA (zN hh);have Fd: ∀(x:Bool) (w:World),(Op.unary .not (.bool x)).run Tryz.prog w= .ok (.bool (!x)) w:=λ_ _=>rfl
 go_enter Tryz.func136,Tryz.ntmps136
 go_wp2
 go_end0
 exact⟨_,_,rfl,hh,rfl,rfl⟩
theorem aTh (hr:0<=r/\r<1000000): ∀ {d s:Int} {w:World},Hp B w0 w (dB T g d s r t::R)-> ∃w',(callFunc 257 #[.pointer (some ⟨g,3,none⟩), .int .i32 1]).run Tryz.prog w= .ok (.value (.int .i32 (r+1))) w'/\Hp B w0 w' (dB T g d s (r+1) t::R):=by
 intro d s w hh;refine⟨_,Er (P:=Tryz.prog) Tryz.func257 cA cA cA .i32 cA (y:=1) (s:=r+1) (aQz hh) (zM hh 3) ?_,WH hh (r+1)⟩;have:IntKind.i32.wrap (r+1)=r+1:=by rw[IntKind.wrap_i32];omega
 simp[Op.intArith,this]
end
open Tryz
set_option maxRecDepth 100000
variable {B T g:Nat} {w0:World} {R:List Row} {d s r r':Int} {t:List Int}
theorem aRm (w:World):(Instr.build 203 #[]).run Tryz.prog w= .ok (.agg (sP 0 0 0 (List.replicate 256 0)).toArray) w:=cA
theorem oK {w:World}:
  Ct Tryz.prog 77 #[] w.heap.size w [] (λv R'=> ∃g,v=PG g/\R'=[dB 203 g 0 0 0 (List.replicate 256 0)]):=by
 refine fn1 Tryz.func77 Z Z Z ?_;refine wq<|wn Z<|wq<|wy (aKu aRm)<|wa (bY (sz:=260) Z cA) ?_;rintro _ _ ⟨al,rfl,rfl⟩;refine wn Z<|aT [0] 99 cC Z ?_;refine⟨_,Z,?_⟩;exact⟨_,Z,Z⟩
theorem aJm (hr:0<=r/\r<1000000):
  Ct Tryz.prog 209 #[.pointer (some ⟨g,3,none⟩), .int .i32 1] B w0 (dB T g d s r t::R) (λv R'=>v= .int .i32 (r+1)/\R'=dB T g d s (r+1) t::R):=by
 refine fn1 Tryz.func209 Z Z Z ?_;refine wq<|wn Z<|wq<|wm Z<|wy (aD Z)<|wy (aB (off:=0) (m:=3) underlying200 Z bGc Z Z Z)<|wm Z<|wa (aFl Z (λw hw=>aTh hr hw)) ?_;rintro _ _ ⟨rfl,rfl⟩;refine wn Z<|dF ?_;refine⟨_,Z,?_⟩;exact⟨Z,Z⟩
theorem WK (hr:0<=r/\r<1000000) (ht:t.length=256):
  Ct Tryz.prog 137 #[PG g] B w0 (dB T g d s r t::R) (λv R'=>v= .tuple #[]/\R'=dB T g d s (r+1) qJ::R):=by
 refine fn0 Tryz.func137 Z Z Z ?_;refine wq<|wm Z<|wy (aD Z)<|wy (aB (off:=3) (m:=3) Gw Z bCp Z Z Z)<|wa (aF bEn Z (Ct.at 0 Z (aJm G))) ?_;rintro _ _ ⟨rfl,rfl⟩;refine aA<|wq<|wm Z<|aA<|aI ?_;refine pX (λ(k:Int)=>[(0,PG g),(9,I k)]) (λk=>(dB T g d s (r+1) (qJ.take k.toNat++t.drop k.toNat)::R)) (λk=>(0<=k)/\(k<=256)) (λk=>(256-k).toNat) ?_ ?_
 ·exact⟨0,⟨G,G⟩,SA,λ_ h=>h⟩
 intro k ⟨nb,xj⟩;refine wq<|wL Z Z<|aA<|aG<|bJ Z (λaq=> ?_) (λaq=> ?_)
 ·refine aJ<|aG<|aI<|wq<|wm Z<|wn Z<|wq<|wm Z<|wy (aCk ak vo Z)<|wn Z<|aG ?_;refine wq<|wm Z<|aA<|aI ?_;refine dS (λ(j:Int) (x:BitVec 32)=>[(0,PG g),(2,I k),(3, .int .u32 (bv x)),(9,I k),(14,I j)]) (λj x=>(dB T g d s (r+1) (qJ.take k.toNat++t.drop k.toNat)::R)) (λj x=>(0<=j)/\(j<=8)/\(aAv (BitVec.ofInt 32 k)=JF (8-j).toNat x)) (λj x=>(8-j).toNat) ?_ ?_
  ·exact⟨0,BitVec.ofInt 32 k,⟨G,G,(Z)⟩,SA,λ_ h=>h⟩
  intro j x ⟨yd,hj8,hx⟩;refine wq<|wL Z Z<|aA<|aG<|bJ Z (λcr=> ?_) (λcr=> ?_)
  ·refine aJ<|aG<|aI<|wq<|wm Z<|wy (aKv (p:=x) (q:=1#32) Z Z)<|wn Z<|wq<|wm Z<|wy (aKp (k:=1) Z Z Z)<|wn Z ?_;refine wq<|wm Z<|wy (bCj (p:=x &&& (1#32)) (q:=1#32) Z Z)<|aA<|bJ Z (λfd=> ?_) (λfd=> ?_)
   ·refine aM<|wm Z<|wy (OJ (p:=x>>>1) (q:=3988292384#32) Z Z)<|wn Z<|aM<|wA Z Z<|wm Z<|aA ?_;exact⟨j+1,(x>>>1)^^^(3988292384#32),⟨G,G,(by rw[hx,NT G];unfold aEx;rw[cu cF])⟩,G,SA,λ_ h=>h⟩
   ·refine aJ<|aM<|wA Z Z<|wm Z<|aA ?_;exact⟨j+1,x>>>1,⟨G,G,(by rw[hx,NT G];unfold aEx;rw[bu cF])⟩,G,SA,λ_ h=>h⟩
  ·refine aZ<|aM<|wm Z<|wm Z<|wm Z<|wy (aD Z)<|wy (aB (off:=4) (m:=4) Gw Z aXi Z Z Z)<|wy (LD 0 Z Z underlying201 aLt Z Z (by show _<(sP _ _ _ _).length;rw[BS,ah,ax,bg,uQ,ht];omega) G G) ?_;refine bX (bA 0 Z Z Z aLt Z Z Z Z (by show _<(sP _ _ _ _).length;rw[BS,ah,ax,bg,uQ,ht];omega)) ?_;rintro _ _ rfl;refine iW (R1:=(dB T g d s (r+1) (qJ.take (k+1).toNat++t.drop (k+1).toNat)::R)) (by have hj:j=8:=G;subst hj;have hf:=aJk ht nb (show k<256 by omega);rw[hx] at hf;simp only[Ew,dB,aJl];rw[<-hf];rfl) ?_;refine aA<|aM<|wA Z Z<|wm Z<|aA ?_;exact⟨k+1,⟨G,G⟩,G,SA,λ_ h=>h⟩
 ·refine aZ ?_
  skip
  obtain rfl:k=256:=G
  refine⟨Z,?_⟩;have e:qJ.take (256:Int).toNat++t.drop (256:Int).toNat=qJ:=by rw[bn (by rw[uQ];decide),uk (by rw[ht];decide),jo]
  rw[e]
theorem aUk {g:Nat} (ee:(d=0/\r'=r+1/\t.length=256/\0<=r/\r<1000000)\/(d=1/\r'=r/\t=qJ)):
  Ct Tryz.prog 136 #[PG g, .func (.func 137) #[PG g] #[]] B w0 (dB T g d 0 r t::R) (λv R'=>v= .tuple #[]/\R'=dB T g 1 0 r' qJ::R):=by
 rcases ee with⟨rfl,rfl,ht,hr⟩|⟨rfl,rfl,rfl⟩
 ·exact aHf (λw hw=>(WK hr ht w hw).mono (by rintro e w' ⟨v,R',rfl,hh,rfl,rfl⟩;exact⟨rfl,hh⟩))
 ·exact aNy
theorem oJ {A:Option Addr} {m c:Nat} {vals:List Value} {ls:List (List Int)} (ee:(d=0/\r'=r+1/\t.length=256/\0<=r/\r<1000000)\/(d=1/\r'=r/\t=qJ)) (hA:RdC B w0 R A m c 1 vals) (hm:m=vals.length) (Ji:xI B w0 R vals ls) (Cp:Big ls):
  Ct Tryz.prog 78 #[PG g,sl A m c] B w0 (dB T g d 0 r t::R) (λv R'=>v= .int .u32 (bv (jS ls.flatten))/\R'=dB T g 1 0 r' qJ::R):=by
 refine fn1 Tryz.func78 Z Z Z ?_;have px:=Cp.1;have mj:=Ji.1;refine wq<|wn Z<|aG<|wq<|wm Z<|wy (dA underlying124 Z Z)<|aA<|aL Z<|aJ<|wq<|wm Z ?_;refine wy (aD Z)<|wy (aB (off:=0) (m:=0) Gw Z bCq Z Z Z)<|wm Z<|wy (kQ Z Z)<|wa (aF bFc Z (Ct.at 0 Z (aUk ee))) ?_;rintro _ _ ⟨rfl,rfl⟩;refine aA<|wq<|wn Z<|aG<|wq<|wm Z<|wy (aQ gp Z)<|wm Z<|aA<|aI ?_;refine dS (λ(k:Int) (x:BitVec 32)=>[(0,PG g),(5, .int .u32 (bv x)),(18,sl A m c),(19,I ((m:Nat):Int)),(20,I k)]) (λk x=>(dB T g 1 0 r' qJ::R)) (λk x=>(0<=k)/\(k<=m)/\(JO 4294967295#32 ls.flatten=JO x (ls.drop k.toNat).flatten)) (λk x=>(m-k).toNat) ?_ ?_
 ·exact⟨0,4294967295#32,⟨G,G,(Z)⟩,SA,λ_ h=>h⟩
 intro k x ⟨nb,xj,hx⟩;refine wq<|wL Z Z<|aA<|aG<|bJ Z (λaq=> ?_) (λaq=> ?_)
 ·refine aJ<|aG<|aI<|wq<|wy (aH gp dO Z Z (RdC.tail hA)) ?_;obtain⟨A1,c1,l1,Qh,vj,Lo,sk⟩:=Ji.at nb (by have:=Ji.1;omega);have xt:=Cp.2 _ _ vj;refine wy (AB ai Z Z Z (RdC.tail hA) Qh)<|wn Z<|wq<|wm Z<|wy (aQ ai Z)<|wm Z<|aA<|aI ?_;refine dS (λ(j:Int) (y:BitVec 32)=>[(0,PG g),(5, .int .u32 (bv y)),(18,sl A m c),(19,I ((m:Nat):Int)),(20,I k),(24,sl A1 l1.length c1),(25,I ((l1.length:Nat):Int)),(26,I j)]) (λj y=>(dB T g 1 0 r' qJ::R)) (λj y=>(0<=j)/\(j<=l1.length)/\(JO 4294967295#32 ls.flatten=JO y (l1.drop j.toNat++(ls.drop (k+1).toNat).flatten))) (λj y=>(l1.length-j).toNat) ?_ ?_
  ·exact⟨0,x,⟨G,G,(by rw[hx,aJd nb vj];rfl)⟩,SA,λ_ h=>h⟩
  intro j y ⟨yd,Mn,hy⟩;refine wq<|wL Z Z<|aA<|aG<|bJ Z (λcr=> ?_) (λcr=> ?_)
  ·refine aJ<|aG<|aI<|wq<|wy (aH ai sz5 Z Z (RdC.tail Lo))<|wy (aX cz Z Z (RdC.tail Lo))<|wn Z<|aM<|wm Z<|wy (aKp (k:=8) Z Z Z)<|wm Z<|wm Z<|wy (aKv (p:=y) (q:=255#32) Z Z) ?_;refine wm Z<|wy (aCk cz vo Z)<|wy (OJ Z Z)<|wy (aD Z)<|wy (aB (off:=4) (m:=4) Gw Z aXi Z Z Z)<|wy (LD 0 Z Z underlying201 aLt Z Z (by show _<(sP _ _ _ _).length;rw[BS,uQ];omega) (by exact(QF (x:=y) (sk.rd j)).1) (by exact(QF (x:=y) (sk.rd j)).2)) ?_;refine wy (aYw 0 Z Z vo Z Z (aRb (aWb (QF (x:=y) (sk.rd j)).2)))<|wy (OJ Z Z)<|wn Z<|aM<|wA Z Z<|wm Z<|aA ?_;exact⟨j+1,(y>>>8)^^^(aAv (aAw y (rd l1 j))),⟨G,G,(by rw[hy,aBh yd G];rfl)⟩,G,SA,λ_ h=>h⟩
  ·refine aZ<|aM<|wA Z Z<|wm Z<|aA ?_;exact⟨k+1,y,⟨G,G,(by rw[hy,VU G];rfl)⟩,G,SA,λ_ h=>h⟩
 ·refine aZ<|wq<|wm Z<|wy (OJ (p:=x) (q:=4294967295#32) Z Z)<|wn Z<|dF ?_;refine⟨_,Z,?_⟩;refine⟨?_,Z⟩;rw[VU G] at hx;unfold jS;rw[hx];rfl
end Go.Proofs.YtdbebmmhdefgdaaGreat
namespace Go.Eng
open Go Go.RowKit Go.Pure
section
variable {P:Program} {n:Nd} {B:Nat} {w0:World} {L:Env} {R:List Row} {ty:TypeId}
theorem aSe {f:FuncId} {fn:Func} {x:Operand} {ts:Array TypeId} {m:Nat} {ps:Array TypeId} {t e:TypeId} (hf:P.funcs[f]? =some fn) (vn:(fn.name== "runtime.NumGoroutine")=false) (hb:fn.body.isNone=true) (hn:Extern.findNext fn=none) (he:Extern.find fn=some (Extern.BytealgMakeNoZero.makeNoZero ps #[t]))
  (ht:P.underlying t=some (.slice e)) (hx:ev L x=some (.int .i64 (m:Int))) (hm:m<=1000000):
  Ac P n B w0 (.call {callee:= .value (.func f),args:=[x].toArray,argTypes:=ts}) ty L R (λv R'=> ∃g C,m<=C/\v= .slice (some ⟨g,0,none⟩) m C/\R'=⟨e,1,some ⟨g,0,none⟩,0,C,ints .u8 [],false⟩::R):=
 QS (vs:=[.int .i64 (m:Int)]) (by simp[evs,hx]) λw hw=>by
  obtain⟨cs,hr,l8,mj⟩:=Lib.run_makeNoZero (P:=P) w ps t e ht m G;have lz:=((hw.drawn (w.drawn+1+1) G).newC cs e m l8 (mj (by unfold maxLen;omega))).cut (k:=0) (uh _) cD;refine⟨_,_,_,?_,lz,w.heap.size,cs.size,l8,rfl,by simp[ints]⟩;rw[Ei hf vn hb hn he];rw[show [Value.int .i64 (m:Int)].toArray= #[.int .i64 m] from rfl,hr];rfl
theorem OG {x y:Operand} {t t2 e:TypeId} {pp:Option Addr} {g p dl dc c m2 c2:Nat} {A2:Option Addr} {k:IntKind} {D src:List Int} (i:Nat) (hi:R[i]? =some ⟨e,1,some ⟨g,0,none⟩,p,c,ints k D,false⟩) (ht:P.underlying t=some (.slice e)) (ee:(P.info? e).map (·.size)=some 1)
  (hx:ev L x=some (.slice pp dl dc)) (hy:ev L y=some (.slice A2 m2 c2)) (Fm:pp=some ⟨g,p,none⟩) (Xa:p+dl<=c) (ie:RdC B w0 R A2 m2 c2 1 (ints k src)):
  Ac P n B w0 (.call {callee:= .builtin .copy,args:= #[x,y],argTypes:= #[t,t2]}) ty L R (λv R'=>v= .int .i64 ((min m2 dl:Nat):Int)/\R'=R.set i ⟨e,1,some ⟨g,0,none⟩,p+min m2 dl,c,ints k (D++src.take (min m2 dl)),false⟩):=by
 intro a w o K Q ho xo hs hw hk;have du:=Row.lies_w (hw.own _ (ek hi)) rfl;have wj:=ie w hw;have Mr:m2=src.length:=wj.lenI;have hl:p=D.length:=by have:=du.1;rw[bV] at this;simp only at this;omega
 rcases du.2 with⟨hv,_⟩|⟨g',cap,cur,hv,hb,hg,hnc,pj,hcs,g6⟩
 ·simp at hv
 simp only[jq,lm,Ab,Aa,zm] at hv;obtain⟨rfl,rfl⟩:=hv;simp only at g6 hcs hnc hg hb;rw[qy] at g6 hcs;subst Fm;obtain⟨q,hq⟩: ∃q,min m2 dl=q:=⟨_,rfl⟩;rw[hq] at hk;have Ln:Nat.min m2 dl=q:=hq;have kc:(ints k (src.take q)).length=q:=by rw[bV,ax];omega
 rcases dx m2 with hz|db
 ·have gv:q=0:=G
  have ld:=run_copy_none (P:=P) w t t2 o.type e (some ⟨g,p,none⟩) A2 dl dc m2 c2 ht ee (by rw[hz];exact Nat.zero_min _);unfold Oper.wp execOp;simp only[ho,resolve,invoke,builtin,jm,lv,jk,rf,kv,qi,hs.ev hx,hs.ev hy,ld,Oper.upon];refine hk (.int .i64 ((0:Nat):Int)) w R hw ⟨by rw[gv],?_⟩;rw[gv];simp only[xk,jo,qa]
  exact(by
   apply su;intro j;rw[vw];split
   ·rename_i e;subst e;rw[cu (dn.1 hi).1,hi]
   ·rfl)
 ·obtain ⟨a2,rfl⟩: ∃a2,A2=some a2:=by
   obtain⟨a2,h,_⟩:=wj.at_ 0 _ (av (by rw[bV];omega));exact⟨a2,h⟩
  have ld:=run_copy_row P w t t2 o.type e g p dl dc a2 m2 c2 cur e (ints k (src.take q)) ht ee hg (by rw[kc];exact hq.symm) (λj v hv=>by
   obtain⟨b,h1,h2⟩:=wj.at_ j v (by
    rw[ints,Bl] at hv;rw[oh] at hv;split at hv
    ·exact hv
    ·cases hv)
   obtain rfl:=iw h1
   exact h2) (by rw[kc,hcs];omega) (zD k _)
  rw[kc] at ld;unfold Oper.wp execOp;simp only[ho,resolve,invoke,builtin,jm,lv,jk,rf,kv,qi,hs.ev hx,hs.ev hy,ld,Oper.upon];refine hk (.int .i64 (q:Int)) _ _ ?_ ⟨rfl,rfl⟩;refine hw.upd hi (row:=some g) ⟨rfl,rfl,rfl,cD,λj _ hj=>Ij w g j _ (λe=>hj (by simp[e]))⟩ (dh _) (λj hj=>by cases hj;exact⟨_,rfl,rfl⟩) ?_ (λa' ki=> .inl ⟨a',ki,rfl⟩);unfold Row.lies;simp only;refine⟨?_, .inr ⟨g,c,_,rfl,hb,Jh w g cur _ e _ hg,G,pj,?_,?_⟩⟩
  ·simp only[bV,ah,ax];omega
  ·simp only[pz,ah,ax,bg,jl,bV];omega
  ·simp only[qy];rw[qB,<-g6]
   have h1:(cur.toList.take p++ints k (src.take q)).length=p+q:=by
    rw[ah,kc,ax,jl];omega
   rw[List.take_append,h1,bn G,Bc,xk,jo]
theorem aKo {x y:Operand} {t e:TypeId} {A:Option Addr} {m c sz:Nat} {k1:IntKind} {vh:Int} (ht:P.underlying t=some (.slice e)) (hi:(P.info? e).map (·.size)=some sz) (hx:ev L x=some (.slice A m c)) (hy:ev L y=some (.int k1 vh)) (h0:0<=vh) (hc:vh<=c):
  Yl P n B w0 (.slice t x none (some y) none) ty L R (.slice A vh.toNat c):=by
 intro a w o ho _ hs hp;obtain⟨i0,ar,hsz0⟩:=ib.1 hi;have pn:P.elem t=e:=by simp[Program.elem,ht]
 have ob:P.underlying t=some (.slice (P.elem t)):=by rw[pn];exact ht
 simp only[execOp,ho,jr,zz,hs.ev hx,hs.ev hy,jm,za w t _ _ _ _ ob,run_slice_h w t A m c ob k1 vh h0 hc,pn]
 have:(if c=0 then A else Option.map (λx=>x.add 0) A)=A:=by
  split
  ·rfl
  ·exact yM A
 simp[sizeOf,typeInfo,ar,hsz0,sliced,this]
theorem aFo {x y z:Operand} {t e:TypeId} {A:Option Addr} {m c h sz:Nat} {k1 k2:IntKind} {vh vm:Int} (ht:P.underlying t=some (.slice e)) (hi:(P.info? e).map (·.size)=some sz) (hx:ev L x=some (.slice A m c)) (hy:ev L y=some (.int k1 vh)) (hz:ev L z=some (.int k2 vm)) (e1:vh=(h:Int)) (e2:vm=(h:Int)) (hc:h<=c):
  Yl P n B w0 (.slice t x none (some y) (some z)) ty L R (.slice A h h):=by
 subst e1;subst e2;intro a w o ho _ hs hp;obtain⟨i0,ar,hsz0⟩:=ib.1 hi;have pn:P.elem t=e:=by simp[Program.elem,ht]
 have ob:P.underlying t=some (.slice (P.elem t)):=by rw[pn];exact ht
 simp only[execOp,ho,jr,zz,hs.ev hx,hs.ev hy,hs.ev hz,jm,za w t _ _ _ _ ob,run_slice_hm w t A m c ob k1 k2 (h:Int) (h:Int) G G G,pn]
 have:(if h=0 then A else Option.map (λx=>x.add 0) A)=A:=by
  split
  ·rfl
  ·exact yM A
 simp[sizeOf,typeInfo,ar,hsz0,sliced,this]
theorem Row.lies_ro {w:World} {e sz m c c':Nat} {A:Option Addr} {xs:List Value} (h:Row.lies B w ⟨e,sz,A,m,c,xs,false⟩) (hA:A≠none) (hc:m<=c'):Row.lies B w ⟨e,sz,A,m,c',xs,true⟩:=by
 have h1:=Row.lies_w h rfl;unfold Row.lies;simp only;obtain⟨hl,h2⟩:=h1;simp only at hl h2;rcases h2 with⟨hv,_⟩|⟨g,cap,cur,hv,hb,hg,hnc,pj,hcs,ht⟩
 ·simp only[jq] at hv;exact absurd hv.1 hA
 ·simp only[jq] at hv;obtain⟨rfl,_,rfl⟩:=hv;exact⟨g,cur,_,rfl,hb,hg,G,hc,hl,ht⟩
theorem Hp.toRo {w:World} {e sz m c c':Nat} {A:Option Addr} {xs:List Value} (h:Hp B w0 w (⟨e,sz,A,m,c,xs,false⟩::R)) (hA:A≠none) (hc:m<=c'):Hp B w0 w (⟨e,sz,A,m,c',xs,true⟩::R):=
 ⟨h.below,h.base,λr hr=>by
  rcases jf.1 hr with rfl|hr
  ·exact Row.lies_ro (h.own _ (.head _)) hA hc
  ·exact h.own r (.tail _ hr),by
  obtain⟨h1,h2⟩:=iv.1 h.apart
  exact iv.2 ⟨λr hr=>h1 r hr,h2⟩,h.late⟩
theorem RdC.capI {A:Option Addr} {m c c':Nat} {k:IntKind} {l:List Int} (h:RdC B w0 R A m c 1 (ints k l)) (hc:m<=c'):RdC B w0 R A m c' 1 (ints k l):=λw hw=>
 let q:=h w hw
 ⟨q.len,q.max,hc,q.at_⟩
structure QU (u D:List Int) (N:Nat) (p:Int):Prop where
 p0:0<=p
 pN:p<=N
 up:(u.length:Int)<=p
 len:(D.length:Int)=p
 at_: ∀j:Nat,j<p->lt D j=om u j
 dvd:p=N\/(u.length:Int)∣p
theorem bAj {D E:List Int} {j:Nat}:lt (D++E) j=if j<D.length then lt D j else lt E (j-D.length):=by
 unfold lt;rw[af];split
 ·rw[je G,af]
 ·rw[iy G,af]
theorem lt_take {D:List Int} {j q:Nat} (h:j<q):lt (D.take q) j=lt D j:=by
 unfold lt;rw[af,ng h,af]
theorem QU.init {u:List Int} {N:Nat} (hu:u.length<=N):QU u ([]++u.take (min u.length N)) N ((min u.length N:Nat):Int):=by
 have e:min u.length N=u.length:=G
 rw[e,jb,ul];exact⟨G,G,G,rfl,λj hj=>(CW G).symm, .inr (Int.dvd_refl _)⟩
theorem QU.step {u D:List Int} {N:Nat} {p:Int} (h:QU u D N p) (hu:0<u.length) (hp:p<N):
  QU u (D++(D.take (min p N).toNat).take (min (min p N).toNat (N-p.toNat))) N (p+((min (min p N).toNat (N-p.toNat):Nat):Int)):=by
 obtain⟨p0,pN,up,len,at_,dvd⟩:=h;have e:min p (N:Int)=p:=G
 rw[e];obtain⟨q,hq⟩: ∃q,min p.toNat (N-p.toNat)=q:=⟨_,rfl⟩;rw[hq];have hd:(u.length:Int)∣p:=dvd.resolve_left G;refine⟨G,G,G,by rw[ah,ax,ax];omega,λj hj=> ?_,?_⟩
 ·rw [bAj];split
  ·exact at_ j G
  ·rename_i hc;rw[lt_take G,lt_take G,at_ _ G];obtain⟨k,hk⟩:=hd
   have nb:0<=k:=by
    rcases ay k 0 with g|g
    ·have:=zh (show(0:Int)<=u.length by omega) (show 0<= -k by omega);rw[Int.mul_neg] at this;omega
    ·exact g
   have e3:D.length=u.length*k.toNat:=by
    have:(D.length:Int)=((u.length*k.toNat:Nat):Int):=by rw[len,hk,zy,ou nb]
    exact_mod_cast this
   have:=(uD u).mul k.toNat (j-D.length);rw[<-this,<-e3,qf G]
 ·rcases fe q p.toNat with g|g
  ·left;omega
  ·right;have:(q:Int)=p:=G
   rw[this];exact Int.dvd_add hd hd
theorem QU.done {u D:List Int} {cn:Int} {N:Nat} {p:Int} (h:QU u D N p) (hp: ¬p<N) (hN:N=cn.toNat*u.length):D=rep u cn:=by
 have hl:=h.len;have hpN:=h.pN;refine bI (by rw[oW];omega) λj h0 h1=> ?_;have h2:=h.at_ j.toNat G;have h3:=GC u cn.toNat j.toNat G;rw[IQ,h2,<-h3];unfold rd rep;rw[az]
end
end Go.Eng
namespace Go.Proofs
open Go.Shelf
def Tryz.laysRing_ren:Go.Shelf.Ren:=⟨λ|6=>117|15=>192|14=>191|28=>251|29=>252|20=>243|21=>244|22=>245|23=>246|24=>247|25=>248|26=>249|27=>250|46=>281|47=>282|48=>283|49=>284|50=>285|57=>305|n=>n,λ|22=>114|24=>117|25=>171|3=>3|39=>167|0=>0|53=>123|55=>112|4=>4|46=>289|45=>288|50=>97|5=>5|9=>9|66=>316|70=>320|76=>337|77=>338|n=>n,λ|n=>n⟩
theorem Tryz.laysRing:Go.Proofs.SlLaysF0.n6 Tryz.prog Tryz.laysRing_ren:= {
 mixed:=cA
 f6:=⟨Tryz.f117.name,cC,Tryz.func117.trans (bz some cA)⟩
 f14:=⟨Tryz.f191.name,cC,Tryz.func191.trans (bz some cA)⟩
 f15:=Tryz.func192.trans (bz some cA)
 f20:=⟨Tryz.f243.name,cC,Tryz.func243.trans (bz some cA)⟩
 f21:=⟨Tryz.f244.name,cC,Tryz.func244.trans (bz some cA)⟩
 f22:=⟨Tryz.f245.name,cC,Tryz.func245.trans (bz some cA)⟩
 f23:=⟨Tryz.f246.name,cC,Tryz.func246.trans (bz some cA)⟩
 f24:=⟨Tryz.f247.name,cC,Tryz.func247.trans (bz some cA)⟩
 f25:=⟨Tryz.f248.name,cC,Tryz.func248.trans (bz some cA)⟩
 f26:=⟨Tryz.f249.name,cC,Tryz.func249.trans (bz some cA)⟩
 f27:=⟨Tryz.f250.name,cC,Tryz.func250.trans (bz some cA)⟩
 f28:=Tryz.func251.trans (bz some cA)
 f29:=Tryz.func252.trans (bz some cA)
 f46:=⟨Tryz.f281.name,cC,Tryz.func281.trans (bz some cA)⟩
 f47:=Tryz.func282.trans (bz some cA)
 f48:=Tryz.func283.trans (bz some cA)
 f49:=⟨Tryz.f284.name,cC,Tryz.func284.trans (bz some cA)⟩
 f50:=⟨Tryz.f285.name,cC,Tryz.func285.trans (bz some cA)⟩
 f57:=⟨Tryz.f305.name,cC,Tryz.func305.trans (bz some cA)⟩
 t0:=Dc
 a0:=Jd
 z0:=Ic
 v0:=Ec
 t3:=Be
 a3:=Gc
 z3:=Ep
 v3:=Bt
 t4:=De
 a4:=Je
 z4:=Ie
 v4:=Ed
 t5:=Dg
 a5:=Jf
 z5:=Ig
 v5:=Ee
 t9:=Dh
 a9:=Jg
 z9:=Ih
 v9:=Ef
 t22:=Tryz.underlying114
 a22:=Tryz.isAgg114
 z22:=Tryz.sizeOf114
 v22:=Tryz.zeroValue114
 t25:=Tryz.underlying171
 a25:=Tryz.isAgg171
 z25:=Tryz.sizeOf171
 v25:=Tryz.zeroValue171
 t39:=zu
 a39:=Dj
 z39:=Cq
 v39:=Aj
 t45:=Fa
 a45:=Tryz.isAgg288
 z45:=Tryz.sizeOf288
 v45:=Gg
 t46:=Fb
 a46:=Tryz.isAgg289
 z46:=Tryz.sizeOf289
 v46:=Gh
 t50:=Gf
 a50:=Tryz.isAgg97
 z50:=Tryz.sizeOf97
 v50:=Hf
 t53:=Cb
 a53:=Gu
 z53:=Ez
 v53:=Cs
 t55:=Ca
 a55:=Gt
 z55:=Ey
 v55:=Cr
 t66:=Fe
 a66:=Tryz.isAgg316
 z66:=Tryz.sizeOf316
 v66:=Gi
 t70:=Ff
 a70:=Tryz.isAgg320
 z70:=Tryz.sizeOf320
 v70:=Gj
 t76:=Fg
 a76:=Tryz.isAgg337
 z76:=Tryz.sizeOf337
 v76:=Gl
 t77:=Fh
 a77:=Tryz.isAgg338
 z77:=Tryz.sizeOf338
 v77:=Gm}
end Go.Proofs
