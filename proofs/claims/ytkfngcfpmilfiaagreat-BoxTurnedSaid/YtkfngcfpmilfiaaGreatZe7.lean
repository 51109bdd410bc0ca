/- Own work. -/
import Derived.Test.YtkfngcfpmilfiaaGreatZe6
set_option linter.unusedVariables false
set_option linter.unusedSimpArgs false
set_option maxHeartbeats 8000000
namespace Go.Proofs.YtkfngcfpmilfiaaGreat
open Go Go.Eng Go.Pure
open Tryz
set_option maxRecDepth 100000
section
variable {B g ar an:Nat} {w0:World} {R:List Row} {a0 a1 a2:Int} {ao:AF} {u:AH}
theorem aPo (b:0<=a0/\a0<1000000):
  CT 157 #[PG g,I 1] B w0 ((rc 208 3 g [I a0,I a1,I a2])::R) (λv R'=>v=I (a0+1)/\R'=(rc 208 3 g [I (a0+1),I a1,I a2])::R):=by
 refine fn1 Jr Z Z Z<|aD Z<|aK 4 Z<|dD (aTj Z (λw a=>⟨_,Hm (P:=Tryz.prog) func211 cA cA cA .i64 cA (y:=1) (s:=a0+1) (a.cellAt 0 (r:=(rc 208 3 g [I a0,I a1,I a2])) (j:=0) Z Z Z) (a.openAt 0 (r:=(rc 208 3 g [I a0,I a1,I a2])) 0 Z Z Z) (by have:IntKind.i64.wrap (a0+1)=a0+1:=(by rw[Co];omega);simp[Op.intArith,this]),a.set1 0 (r:=(rc 208 3 g [I a0,I a1,I a2])) (j:=0) (v:=I (a0+1)) Z Z Z⟩)) ?_;exact aB Z<|aS<|⟨_,Z,Z,Z⟩
theorem aPn (b:0<=a1/\a1<1000000):
  CT 157 #[.pointer (some ⟨g,1,none⟩),I 1] B w0 ((rc 208 3 g [I a0,I a1,I a2])::R) (λv R'=>v=I (a1+1)/\R'=(rc 208 3 g [I a0,I (a1+1),I a2])::R):=by
 refine fn1 Jr Z Z Z<|aD Z<|aK 4 Z<|dD (aTj Z (λw a=>⟨_,Hm (P:=Tryz.prog) func211 cA cA cA .i64 cA (y:=1) (s:=a1+1) (a.cellAt 0 (r:=(rc 208 3 g [I a0,I a1,I a2])) (j:=1) Z Z Z) (a.openAt 0 (r:=(rc 208 3 g [I a0,I a1,I a2])) 1 Z Z Z) (by have:IntKind.i64.wrap (a1+1)=a1+1:=(by rw[Co];omega);simp[Op.intArith,this]),a.set1 0 (r:=(rc 208 3 g [I a0,I a1,I a2])) (j:=1) (v:=I (a1+1)) Z Z Z⟩)) ?_;exact aB Z<|aS<|⟨_,Z,Z,Z⟩
theorem aPm (b:0<=a2/\a2<1000000):
  CT 157 #[.pointer (some ⟨g,2,none⟩),I 1] B w0 ((rc 208 3 g [I a0,I a1,I a2])::R) (λv R'=>v=I (a2+1)/\R'=(rc 208 3 g [I a0,I a1,I (a2+1)])::R):=by
 refine fn1 Jr Z Z Z<|aD Z<|aK 4 Z<|dD (aTj Z (λw a=>⟨_,Hm (P:=Tryz.prog) func211 cA cA cA .i64 cA (y:=1) (s:=a2+1) (a.cellAt 0 (r:=(rc 208 3 g [I a0,I a1,I a2])) (j:=2) Z Z Z) (a.openAt 0 (r:=(rc 208 3 g [I a0,I a1,I a2])) 2 Z Z Z) (by have:IntKind.i64.wrap (a2+1)=a2+1:=(by rw[Co];omega);simp[Op.intArith,this]),a.set1 0 (r:=(rc 208 3 g [I a0,I a1,I a2])) (j:=2) (v:=I (a2+1)) Z Z Z⟩)) ?_;exact aB Z<|aS<|⟨_,Z,Z,Z⟩
theorem aJl {w:World}:
  CF 99 #[] w (λv R'=> ∃g,v=PG g/\R'=[(rc 208 3 g [I 0,I 0,I 0])]):=by
 exact fn1 func99 Z Z Z<|aD Z<|wq<|wy (bV (v:= .agg #[I 0,I 0,I 0]) Z (λw=>cA))<|aX (dC (sz:=3) rfl rfl) λa=>aB rfl<|aL [0] 99<|⟨_,Z,_,Z,Z⟩
theorem YD (am:R6 B w0 R ao ar an u) (ce:ar=u.length) (a:aI u) (h:u.length<=100000) (l:0<=a0/\a0<1000000):
  CT 100 #[PG g,I 0,sl ao ar an] B w0 ((rc 208 3 g [I a0,I a1,I a2])::R) (λv R'=> ∃(b:AH) (A:AF) (c:Nat),v= .tuple #[sl A u.length c,I 0]/\b.Perm (iota u.length)/\b.Pairwise (dA u)/\R'=(ri 3 A u.length c b)::(rc 208 3 g [I (a0+1),I a1,I a2])::R):=by
 subst ce;refine fn2 Gz Z Z Z<|aD Z<|aA<|aK 1 Z<|wy (kT Jh Z Z)<|bH 2 Z<|aN Z Z<|wy (Yl.f (fD Z Z) cC)<|bH 3 Z<|aN Z Z<|wy (Yl.f (pG Z Z) cC)<|aB Z<|aM Z<|aG<|wq<|wy (bV (v:= .agg #[.func (.func 154) #[] #[], .func (.func 155) #[] #[], .func (.func 156) #[] #[]]) Z (λw=>cA))<|wm rfl<|wy (bQv (v:= .func (.func 154) #[] #[]) rfl rfl (λw=>cA))<|aB rfl<|aK 2 rfl<|wa (HV bYi rfl rfl (Ct.fresh (λw i=>aUo ((RdC.right am [_]) w i) a h))) ?_;rintro _ _⟨_,rfl,d,k,j,rfl,e,es,rfl⟩;refine aB Z<|aA<|aK 1 Z<|wR Z Z<|aJ<|bA Z<|aT 4 Z<|wy (dW (q:=0) (rdr 1 Z) underlying206 bAc Z Z (ah Z) cC cC Z)<|dD (aH bGm Z (Ct.at 1 Z (aPo G)))<|aJ<|aD Z<|aS<|⟨_,_,Z,Z,?_⟩;exact⟨d,_,_,Z,e,es,Z⟩
theorem YC (am:R6 B w0 R ao ar an u) (ce:ar=u.length) (a:aI u) (h:u.length<=100000) (l:0<=a1/\a1<1000000):
  CT 100 #[PG g,I 1,sl ao ar an] B w0 ((rc 208 3 g [I a0,I a1,I a2])::R) (λv R'=> ∃(b:AH) (A:AF) (c:Nat),v= .tuple #[sl A u.length c,I 0]/\b.Perm (iota u.length)/\b.Pairwise (dA u)/\R'=(ri 3 A u.length c b)::(rc 208 3 g [I a0,I (a1+1),I a2])::R):=by
 subst ce;refine fn2 Gz Z Z Z<|aD Z<|aA<|aK 1 Z<|wy (kT Jh Z Z)<|bH 2 Z<|aN Z Z<|wy (Yl.f (fD Z Z) cC)<|bH 3 Z<|aN Z Z<|wy (Yl.f (pG Z Z) cC)<|aB Z<|aM Z<|aG<|wq<|wy (bV (v:= .agg #[.func (.func 154) #[] #[], .func (.func 155) #[] #[], .func (.func 156) #[] #[]]) Z (λw=>cA))<|wm rfl<|wy (bQv (v:= .func (.func 155) #[] #[]) rfl rfl (λw=>cA))<|aB rfl<|aK 2 rfl<|wa (HV bYh rfl rfl (Ct.fresh (λw i=>aWc ((RdC.right am [_]) w i) a h))) ?_;rintro _ _⟨_,rfl,d,k,j,rfl,e,es,rfl⟩;refine aB Z<|aA<|aK 1 Z<|wR Z Z<|aJ<|bA Z<|aT 4 Z<|wy (dW (q:=1) (rdr 1 Z) underlying206 bAc Z Z (ah Z) cC cC Z)<|dD (aH bGm Z (Ct.at 1 Z (aPn G)))<|aJ<|aD Z<|aS<|⟨_,_,Z,Z,?_⟩;exact⟨d,_,_,Z,e,es,Z⟩
theorem YB (am:R6 B w0 R ao ar an u) (ce:ar=u.length) (d:aI u) (e:u.length<=100000) (l:0<=a2/\a2<1000000):
  CT 100 #[PG g,I 2,sl ao ar an] B w0 ((rc 208 3 g [I a0,I a1,I a2])::R) (λv R'=> ∃(b:AH) (A:AF) (c:Nat),v= .tuple #[sl A u.length c,I 0]/\b.Perm (iota u.length)/\b.Pairwise (dA u)/\R'=(ri 3 A u.length c b)::(rc 208 3 g [I a0,I a1,I (a2+1)])::R):=by
 subst ce;refine fn2 Gz Z Z Z<|aD Z<|aA<|aK 1 Z<|wy (kT Jh Z Z)<|bH 2 Z<|aN Z Z<|wy (Yl.f (fD Z Z) cC)<|bH 3 Z<|aN Z Z<|wy (Yl.f (pG Z Z) cC)<|aB Z<|aM Z<|aG<|wq<|wy (bV (v:= .agg #[.func (.func 154) #[] #[], .func (.func 155) #[] #[], .func (.func 156) #[] #[]]) Z (λw=>cA))<|wm rfl<|wy (bQv (v:= .func (.func 156) #[] #[]) rfl rfl (λw=>cA))<|aB rfl<|aK 2 rfl<|wa (HV bYg rfl rfl (Ct.fresh (λw h=>aPa ((RdC.right am [_]) w h) d e))) ?_;rintro _ _⟨_,rfl,i,k,j,rfl,a,Os,rfl⟩;refine aB Z<|aA<|aK 1 Z<|wR Z Z<|aJ<|bA Z<|aT 4 Z<|wy (dW (q:=2) (rdr 1 Z) underlying206 bAc Z Z (ah Z) cC cC Z)<|dD (aH bGm Z (Ct.at 1 Z (aPm G)))<|aJ<|aD Z<|aS<|⟨_,_,Z,Z,?_⟩;obtain⟨b,hb,hs⟩:=sW u;obtain rfl:=places hb hs a Os;exact⟨i,_,_,Z,hb,hs,Z⟩
end
section
variable {B g ar an:Nat} {w0:World} {R:List Row} {a0 a1 a2 so:Int} {ao:AF} {u:AH}
theorem PR (am:R6 B w0 R ao ar an u) (ce:ar=u.length) (hb:so<0\/2<so):
  CT 100 #[PG g,I so,sl ao ar an] B w0 ((rc 208 3 g [I a0,I a1,I a2])::R) (λv R'=>v= .tuple #[sl none 0 0,I 1]/\R'=(rc 208 3 g [I a0,I a1,I a2])::R):=by
 subst ce;refine fn2 Gz Z Z Z<|aD Z<|aA<|aK 1 Z<|wy (kT Jh Z Z)<|bH 5 Z<|bD 3 [0,1,2] 20 (.bool (decide ((so<0)\/(3<=so)))) Z ?_ ?_
 ·refine bB 17 Z ?_ ?_<;>intro ap
  ·exact aB Z<|KP
  exact aB Z<|KP
 refine rO 20 Z G<|aJ<|bA Z<|aD Z<|aS<|⟨_,_,Z,Z,?_⟩;exact⟨Z,Z⟩
theorem PS (am:R6 B w0 R ao ar an u) (ce:ar=u.length) (i:aI u) (j:u.length<=100000) (k:(0<=a0/\a0<1000000)/\(0<=a1/\a1<1000000)/\(0<=a2/\a2<1000000)):
  CT 100 #[PG g,I so,sl ao ar an] B w0 ((rc 208 3 g [I a0,I a1,I a2])::R) (λv R'=> ∃(b:AH) (A:AF) (c:Nat) (e d0 d1 d2:Int),v= .tuple #[sl A b.length c,I e]/\
   (((so<0\/2<so)/\e=1/\b=[]/\d0=a0/\d1=a1/\d2=a2)\/(¬(so<0\/2<so)/\e=0/\b.Perm (iota u.length)/\b.Pairwise (dA u)/\[d0,d1,d2]=upd [a0,a1,a2] so (rd [a0,a1,a2] so+1)/\(d0<=a0+1/\0<=d0)/\(d1<=a1+1/\0<=d1)/\(d2<=a2+1/\0<=d2)))/\R'=(ri 3 A b.length c b)::(rc 208 3 g [I d0,I d1,I d2])::R):=by
 by_cases hb:so<0\/2<so
 ·intro w o;refine(PR (u:=u) am ce hb w o).mono ?_;rintro e w' ⟨v,R',l,m,d,a⟩;subst a;exact⟨v,_,l,m.nil 3 1,[],none,0,1,a0,a1,a2,d, .inl ⟨hb,Z,Z,Z,Z,Z⟩,Z⟩
 have hlen: ∀b:AH,b.Perm (iota u.length)->u.length=b.length:=λb h=>by rw[h.length_eq,bI]
 rcases(by omega:so=0\/so=1\/so=2) with rfl|rfl|rfl
 ·refine (YD am ce i j k.1).mono ?_;rintro v R' ⟨b,A,c,d,hp,hs,a⟩;rw[hlen b hp] at d a;exact⟨b,A,c,0,a0+1,a1,a2,d, .inr ⟨hb,Z,hp,hs,Z,G,G,G⟩,a⟩
 ·refine (YC am ce i j k.2.1).mono ?_;rintro v R' ⟨b,A,c,d,hp,hs,a⟩;rw[hlen b hp] at d a;exact⟨b,A,c,0,a0,a1+1,a2,d, .inr ⟨hb,Z,hp,hs,Z,G,G,G⟩,a⟩
 refine (YB am ce i j k.2.2).mono ?_;rintro v R' ⟨b,A,c,d,hp,hs,a⟩;rw[hlen b hp] at d a;exact⟨b,A,c,0,a0,a1,a2+1,d, .inr ⟨hb,Z,hp,hs,Z,G,G,G⟩,a⟩
end
section
variable {a V l s P acc u p:AH} {i j z:Int} {n i4 vi ar an n_p Sc:Nat} {w:World} {vd ao Sa:AF}
theorem aVn (b:a.Nodup) (i0:0<=i) (hi:i<a.length):rd a i∉a.take i.toNat:=λh=>by
 obtain⟨q,d,e⟩:=ib.1 h;rw[ax] at d;rw[uf] at e;have:=mJ b (i:=(q:Int)) (j:=i) G G i0 hi (by rw[fH (i:=(q:Int)) G G];simp only[bu];exact e);omega
theorem aUn {E:List Bool} (i0:0<=i) (hi:i<a.length) (hl:E.length=n) (b:0<=rd a i/\rd a i<n) (h: ∀x:Int,0<=x->x<n->(rdb E x=true↔x∈a.take i.toNat)): ∀x:Int,0<=x->x<n->(rdb (sV E (rd a i) true) x=true↔x∈a.take (i+1).toNat):=by
 intro x x0 d;rw[dP i0 hi,EB b.1 G x0,ek,gz];split
 ·rename_i e;exact⟨λ_=> .inr e,λ_=>rfl⟩
 rename_i e;rw[h x x0 d];exact⟨.inl,λh=>h.resolve_right e⟩
theorem bEr (i0:0<=i) (hi:i<a.length) (k:a.Nodup) (hl:V.length=n) (d: ∀q:Int,0<=q->q<a.length->0<=rd a q/\rd a q<n) (h: ∀q:Int,0<=q->q<i->rd V (rd a q)=q): ∀q:Int,0<=q->q<i+1->rd (upd V (rd a i) i) (rd a q)=q:=by
 intro q b l;have h1:=d i i0 hi;have j:=d q b G;rw[iQ h1.1 j.1 G];split
 ·rename_i e;exact mJ k i0 hi b G e.symm
 rename_i e;refine h q b ?_;rcases bz q i with g|g
 ·exact g
 obtain rfl:q=i:=G
 exact absurd Z e
def fsL (l:AH):AH:=(iota l.length).map (lfC l)
theorem oG (l:AH):(fsL l).length=l.length:=by unfold fsL;rw[bn,bI]
theorem TU (i0:0<=i) (hi:i<l.length):rd (fsL l) i=lfC l i:=by
 unfold fsL;rw[AY i0 (by rw[bI];exact hi),vN i0 hi]
theorem ML (hl:aI l):(dN (iota l.length) l (256:Int).toNat).length=l.length:=by
 have:=(mZ (l:=l) hl).1.length_eq;rwa[bI] at this
theorem aRd (hl:aI l):(dN (iota l.length) l (256:Int).toNat).Perm (iota (dN (iota l.length) l (256:Int).toNat).length):=by
 rw[ML hl];exact(mZ (l:=l) hl).1
theorem bPb (hl:aI l) (h1:V.length=(dN (iota l.length) l (256:Int).toNat).length) (a: ∀q:Int,0<=q->q<(dN (iota l.length) l (256:Int).toNat).length->rd V (rd (dN (iota l.length) l (256:Int).toNat) q)=q):V=fsL l:=by
 rw[ML hl] at h1 a;refine bP (by rw[h1,oG]) λj j0 g=> ?_;rw[TU j0 G];obtain⟨q,b,d,e,f⟩:=aHx (l:=l) hl j0 G;rw[f,<-e];exact a q b d
theorem aDb (i0:0<=i) (hi:i<a.length) (h:acc=P++ofT s (a.take i.toNat)) (b:rd a i=0):acc=P++ofT s (a.take (i+1).toNat):=by
 rw[aHj i0 hi,cz b,ik];exact h
theorem aNd (i0:0<=i) (hi:i<a.length) (h:acc=P++ofT s (a.take i.toNat)) (b: ¬rd a i=0):acc++[rd s (rd a i-1)]=P++ofT s (a.take (i+1).toNat):=by
 rw[aHj i0 hi,bq b,<-dx,h]
theorem aCa (d:a.Nodup) (i0:0<=i) (hi:i<a.length) (b:rd a i=0):i+1=zat (a.take (i+1).toNat):=by rw[aEx d i0 hi,cz b]
theorem aKu {m:Int} (d:a.Nodup) (i0:0<=i) (hi:i<a.length) (h:m=zat (a.take i.toNat)) (b: ¬rd a i=0):m=zat (a.take (i+1).toNat):=by rw[aEx d i0 hi,bq b];exact h
theorem aDc (s:AH) (l:AH):(ofT s l).length<=l.length:=by unfold ofT;rw[bn];exact yo _ _
theorem aCt (l:R5 w vd i4 vi a) (hp:a.Perm (iota a.length)) (D:a.length<=1000000):
  CF 212 #[sl vd i4 vi] w (λv R'=> ∃A c V,v= .tuple #[sl A a.length c,bt]/\V.length=a.length/\(∀q:Int,0<=q->q<a.length->rd V (rd a q)=q)/\R'=[(ri 3 A a.length c V)]):=by
 obtain rfl:=l.lenI;refine fn2 func212 Z Z Z ?_;have b:a.Nodup:=hp.symm.nodup (fV _);have p: ∀q:Int,0<=q->q<a.length->0<=rd a q/\rd a q<a.length:=λq u y=>aY.1 (hp.subset (bM u y));refine aD Z<|aK 2 Z<|aX (dU ak zb3 Z Z) λe=>bC (v:=sl (GG e) a.length a.length) Z<|aB Z<|aK 2 Z<|aX (QW oz zb4 Z Z G G G) λg=>bC (v:=sl (GG g) a.length a.length) Z<|aB Z<|aA<|aD Z<|aF<|gX (λ(i:Int) (V:AH) (E:List Bool)=>[(0,sl vd a.length vi),(4,sl (GG e) a.length a.length),(5,sl (GG g) a.length a.length),(14,sl vd a.length vi),(15,I (a.length:Int)),(16,I i)]) (λi V E=>[⟨4,1,(GG g),a.length,a.length,bools E,false⟩,(ri 3 (GG e) a.length a.length V)]) (λi V E=>(0<=i)/\(i<=a.length)/\(V.length=a.length)/\(E.length=a.length)/\(∀x:Int,0<=x->x<a.length->(rdb E x=true↔x∈a.take i.toNat))/\(∀q:Int,0<=q->q<i->rd V (rd a q)=q)) (λi V E=>(a.length-i).toNat) ?_ ?_
 ·exact⟨0,List.replicate a.length (0:Int),List.replicate a.length false,⟨G,G,(by rw[df]),(by rw[df]),(λx j h1=>by rw[QD];simp),(λq j h1=>G)⟩,KP⟩
 intro i V E ⟨d,C,m,o,hE,r⟩;refine aD Z<|aA<|aR Z ?_ ?_<;>intro ap
 ·have k:=p i d G;have B:=aVn b d G;exact aG<|aA<|aF<|aK 1 Z<|wy (aC ak sz3 Z Z (l.c _))<|wy (aQ av Z Z (l.c _))<|aB Z<|aA<|aK 1 Z<|wy (Yl.f (fD Z Z))<|bH 4 Z<|aN Z Z<|wy (Yl.f (pG Z Z))<|bH 4 Z<|aN Z Z<|wy (aC oz sz4 Z Z (rdr 0 Z))<|aN Z Z<|wy (Yl.f (IC Bc Z Z (rdr 0 Z)) (λh=>B ((hE _ k.1 k.2).1 h)))<|aB Z<|aM Z<|aG<|aT 5 Z<|wy (aC ak sz3 Z Z (rdr 1 Z))<|bN (bJ 1 Z sz3 Z Z)<|wy (aC oz sz4 Z Z (rdr 0 Z))<|bN (yB 0 Z sz4 Z Z)<|aJ<|bK<|wA Z Z<|aB Z<|⟨i+1,upd V (rd a i) i,sV E (rd a i) true,⟨G,G,(by rw[aW];exact m),(by rw[mW];exact o),(aUn d G o k hE),(bEr d G b m p r)⟩,G,KP⟩
 refine aP<|aD Z<|aL [1] 99<|⟨_,_,Z,Z,?_⟩;exact⟨_,_,V,Z,m,λq j h1=>r q j G,Z⟩
theorem bBi (b:R5 w vd i4 vi a) (hp:a.Perm (iota a.length)) (d:a.length<=1000000):
  CF 158 #[sl vd i4 vi] w (λv R'=>v=bt):=by
 obtain rfl:=b.lenI;refine fn1 func158 Z Z Z<|aD Z<|aK 1 Z<|wa (aH bGe Z (Ct.fresh (λw e=>aCt ((b.c _) w e) hp d))) ?_;rintro _ _⟨_,rfl,h,g,inv,rfl,i,j,rfl⟩;refine aB Z<|aD Z<|aL [] 99<|⟨_,Z,?_⟩;rfl
theorem aRp (am:R4 w ao ar an u) (a:aI u) (F:u.length<=1000000):
  CF 193 #[sl ao ar an] w (λv R'=> ∃A c,v=sl A (fsL u).length c/\R'=[(ri 3 A ((fsL u).length) c (fsL u))]):=by
 obtain rfl:=am.lenI;refine fn1 func193 Z Z Z<|aD Z<|aK 2 Z<|aX (dU ak zb3 Z Z) λe=>bC (v:=sl (GG e) u.length u.length) Z<|aB Z<|aK 2 Z<|aX (dU ak zb3 Z Z) λg=>bC (v:=sl (GG g) u.length u.length) Z<|aB Z<|aA<|aD Z<|aF<|gX (λ(i:Int) (V:AH) (K:AH)=>[(3,sl (GG e) u.length u.length),(4,sl (GG g) u.length u.length),(15,sl ao u.length an),(16,I (u.length:Int)),(17,I i)]) (λi V K=>[(ri 3 (GG g) u.length u.length K),(ri 3 (GG e) u.length u.length V)]) (λi V K=>(0<=i)/\(i<=u.length)/\(V.length=u.length)/\(K.length=u.length)/\(∀j:Int,0<=j->j<i->rd V j=j)/\(∀j:Int,0<=j->j<i->rd K j=rd u j)) (λi V K=>(u.length-i).toNat) ?_ ?_
 ·exact⟨0,List.replicate u.length (0:Int),List.replicate u.length (0:Int),⟨G,G,(by rw[df]),(by rw[df]),(λj h1 p=>G),(λj h1 p=>G)⟩,KP⟩
 intro i V K ⟨h,D,q,m,l,k⟩;refine aD Z<|aA<|aR Z ?_ ?_<;>intro ap
 ·have y:=a.rd i;exact aG<|aA<|aF<|aK 1 Z<|wy (aC ai sz5 Z Z (am.c _))<|wy (aQ ay Z Z (am.c _))<|aB Z<|aT 6 Z<|wy (gV ay av Z)<|wy (aC ak sz3 Z Z (rdr 1 Z))<|bN (bJ 1 Z sz3 Z Z)<|wy (aC ak sz3 Z Z (rdr 0 Z))<|bN (bJ 0 Z sz3 Z Z)<|aJ<|bK<|wA Z Z<|aB Z<|⟨i+1,upd V i i,upd K i (rd u i),⟨G,G,(by rw[aW];exact q),(by rw[aW];exact m),(gG (f:=λj=>j) h G l Z),(gG (f:=λj=>rd u j) h G k Z)⟩,G,KP⟩
 obtain rfl:V=iota u.length:=bP (by rw[bI];omega) λj b h1=>by rw[vN b G];exact l j b G
 obtain rfl:u=K:=(bP G λj b h1=>k j b G:K=u).symm;refine aP<|aK 2 Z<|bZ WF Z (λw d=>yR ((rdr 1 Z) w d) ((rdr 0 Z) w d) G a (λi hi=>aY.1 hi) (by rw[bI];omega)) λB C=> ?_;refine aB Z<|aK 1 Z<|wa (aH bGe Z (Ct.fresh (λw d=>aCt ((rdr 0 Z) w d) (aRd a) (by rw[ML a];omega)))) ?_;rintro _ _⟨_,rfl,H,J,inv,rfl,r,x,rfl⟩;refine aB Z<|aD Z<|aL [0] 99<|⟨_,Z,?_⟩;obtain rfl:inv=fsL u:=bPb a r x;have o:(dN (iota u.length) u (256:Int).toNat).length=(fsL u).length:=by rw[ML a,oG]
 rw[o];exact⟨_,_,Z,Z⟩
theorem bLm (h:u.length=0) (b:a.length=0):ofL u a=[]/\zat a=0:=by
 obtain rfl:u=[]:=di h;obtain rfl:a=[]:=di b;exact⟨Z,Z⟩
theorem pE (hu:aI u) (m:Int):aI (iW u m):=by
 intro x a;unfold iW at a;obtain⟨i,_,rfl⟩:=gq.1 a;exact hu.rd _
theorem aJt (j0:0<=j):((iota (j+1).toNat).countP λx=>decide (tl u x i))=((iota j.toNat).countP λx=>decide (tl u x i))+if tl u j i then 1 else 0:=by
 rw[xO j0,List.countP_append,List.countP_singleton];simp only[wo]
theorem KT (j0:0<=j) (a:z=1+(((iota j.toNat).countP λx=>decide (tl u x i):Nat):Int)) (h:rd u j<rd u i\/rd u j=rd u i/\j<i):z+1=1+(((iota (j+1).toNat).countP λx=>decide (tl u x i):Nat):Int):=by
 rw[aJt j0,cz (show tl u j i from h),a];omega
theorem WH (j0:0<=j) (a:z=1+(((iota j.toNat).countP λx=>decide (tl u x i):Nat):Int)) (h: ¬(rd u j<rd u i\/rd u j=rd u i/\j<i)):z=1+(((iota (j+1).toNat).countP λx=>decide (tl u x i):Nat):Int):=by
 rw[aJt j0,bq (show¬tl u j i from h),a];omega
theorem WI (u:AH) (i j:Int):(((iota j.toNat).countP λx=>decide (tl u x i):Nat):Int)<=j.toNat:=by
 have:=Bz (p:=λx=>decide (tl u x i)) (l:=iota j.toNat);rw[bI] at this;omega
theorem QR (b:z=1+(((iota j.toNat).countP λx=>decide (tl u x i):Nat):Int)) (a:j=u.length):z=lfC u i+1:=by
 unfold lfC;rw[b,a,bu];omega
theorem bHh (j0:0<=j) (a:z=(((iota j.toNat).countP λx=>decide (tl u x i):Nat):Int)) (h:rd u j<rd u i\/rd u j=rd u i/\j<i):z+1=(((iota (j+1).toNat).countP λx=>decide (tl u x i):Nat):Int):=by
 have:=KT (z:=1+z) j0 (by rw[a]) h;omega
theorem bNh (j0:0<=j) (a:z=(((iota j.toNat).countP λx=>decide (tl u x i):Nat):Int)) (h: ¬(rd u j<rd u i\/rd u j=rd u i/\j<i)):z=(((iota (j+1).toNat).countP λx=>decide (tl u x i):Nat):Int):=by
 have:=WH (z:=1+z) j0 (by rw[a]) h;omega
theorem bFf (i0:0<=i) (hi:i<u.length) (a:j=u.length) (b:z=(((iota j.toNat).countP λx=>decide (tl u x i):Nat):Int)) (h:acc=(iota i.toNat).map (lfC u)):acc++[z]=(iota (i+1).toNat).map (lfC u):=by
 rw[xO i0,jc,h,b,a,bu];rfl
theorem BR (hu:aI u):(fsL u).Perm (iota (fsL u).length):=by
 rw[oG];exact xZ (λx a h1=>OG (l:=u) hu a h1) λx y x0 b d g e=>bEa (l:=u) hu x0 b d g e
theorem aAm (am:R4 w ao ar an u) (q:aI u) (H:u.length<=1000000):
  CF 144 #[sl ao ar an] w (λv R'=> ∃A c,v=sl A (fsL u).length c/\R'=[(ri 3 A ((fsL u).length) c (fsL u))]):=by
 obtain rfl:=am.lenI;refine fn1 func144 Z Z Z<|aD Z<|wq<|dX (ri 3 none 0 0 ([]))<|aB Z<|aA<|aD Z<|aF<|eT (λ(A1:AF) (a:Nat) (c1:Nat) (acc:AH) (i:Int)=>[(0,sl ao u.length an),(3,sl A1 a c1),(4,I i)]) (λA1 a c1 acc i=>[(ri 3 A1 a c1 acc)]) (λA1 a c1 acc i=>(a=acc.length)/\(0<=i)/\(i<=u.length)/\(acc=(iota i.toNat).map (lfC u))) (λA1 a c1 acc i=>(u.length-i).toNat) ?_ ?_
 ·exact⟨none,0,0,[],0,⟨(Z),G,G,(Z)⟩,KP⟩
 intro A1 a c1 acc i ⟨e,m,F,b⟩;have p:=bi List.length b;rw[bn,bI] at p;refine aA<|aD Z<|aR Z ?_ ?_<;>intro ap
 ·refine aG<|aA<|aF<|aD Z<|aA<|aD Z<|aF<|dF (λ(j:Int) (z:Int)=>[(0,sl ao u.length an),(3,sl A1 a c1),(4,I i),(5,I z),(6,I j)]) (λj z=>[(ri 3 A1 a c1 acc)]) (λj z=>(0<=j)/\(j<=u.length)/\(z=(((iota j.toNat).countP λx=>decide (tl u x i):Nat):Int))) (λj z=>(u.length-j).toNat) ?_ ?_
  ·exact⟨0,0,⟨G,G,(Z)⟩,KP⟩
  intro j z ⟨l,v6,d⟩;have o:=WI u i j;refine aA<|aD Z<|aR Z ?_ ?_<;>intro r
  ·refine aG<|aA<|aF<|lS [(0,sl ao u.length an),(3,sl A1 a c1),(4,I i),(5,I z),(6,I j),(43, .bool (decide (((rd u j)<(rd u i))\/(((rd u j)=(rd u i))/\(j<i)))))] [(ri 3 A1 a c1 acc)] ?_ ?_
   ·refine bE mixed<|bF 0 2 Z<|wD 2 Z (aC ai sz5 Z Z (am.c _))<|wD 3 Z (aQ ay Z Z (am.c _))<|bF 4 2 Z<|wD 6 Z (aC ai sz5 Z Z (am.c _))<|wD 7 Z (aQ ay Z Z (am.c _))<|bF 8 2 Z<|gM 28 Z ?_ ?_<;>intro y
    ·exact bF 10 15 Z<|wN<|KP
    refine bF 10 2 Z<|wG 12 Z Z Z (aC ai sz5 Z Z (am.c _))<|wG 13 Z Z Z (aQ ay Z Z (am.c _))<|bF 14 2 Z<|wG 16 Z Z Z (aC ai sz5 Z Z (am.c _))<|wG 17 Z Z Z (aQ ay Z Z (am.c _))<|bF 18 2 Z<|gM 38 Z ?_ ?_<;>intro C
    ·exact bF 20 5 Z<|wN<|KP
    exact bF 20 5 Z<|wN<|KP
   refine aR Z ?_ ?_<;>intro D
   ·exact aT 1 Z<|wA Z Z<|aB Z<|aT 1 Z<|wA Z Z<|aB Z<|⟨j+1,z+1,⟨G,G,(bHh l d cF)⟩,G,KP⟩
   exact aG<|aT 1 Z<|wA Z Z<|aB Z<|⟨j+1,z,⟨G,G,(bNh l d cF)⟩,G,KP⟩
  exact aP<|aT 2 Z<|aX (bG .i64 [z] ak zs3 Z Z Z) λB=>dG (aO 1 Z ak zb3 Z Z Z (rdr 0 Z)) λg k=>bC (v:=sl g (a+1) k) Z<|aB Z<|aT 1 Z<|wA Z Z<|aB Z<|⟨g,a+1,k,acc++([z]),i+1,⟨(by rw[aa,e];try rfl),G,G,(bFf m G G d b)⟩,G,SA,λ_ h=>h.sel [1] cC Z⟩
 refine aP<|aD Z<|aL [0] 99<|⟨_,Z,?_⟩;obtain rfl:acc=fsL u:=by rw[b,show i.toNat=u.length by omega];rfl
 obtain rfl:=e;exact⟨_,_,Z,Z⟩
theorem aBf (l:R5 w Sa n_p Sc p) (hp:p.Perm (iota p.length)) (N:p.length<=1000000):
  CF 192 #[sl Sa n_p Sc] w (λv R'=> ∃(A:AF) (c:Nat) (vals:AG) (Rs:List Row),v= .tuple #[sl A vals.length c,bt]/\SlR .i64 Rs vals (bR p)/\R'=⟨73,1,A,vals.length,c,vals,false⟩::Rs):=by
 obtain rfl:=l.lenI;refine fn2 func192 Z Z Z<|aD Z<|aA<|aK 1 Z<|dZ bQc Z (λw g=>bBi ((l.c _) w g) hp N)<|aB Z<|aM Z<|aG<|aK 2 Z<|aX (QW oz zb4 Z Z G G G) λd=>bC (v:=sl (GG d) p.length p.length) Z<|aB Z<|wq<|aX (jD [] zl bQp Z Z Z Z) λP=>aB Z<|aA<|aD Z<|aF<|sS (λ(i:Int) (A1:AF) (a:Nat) (c1:Nat) (vals:AG) (ls:AD) (E:List Bool) (Rs:List Row)=>[(0,sl Sa p.length Sc),(4,sl (GG d) p.length p.length),(5,sl A1 a c1),(17,I (p.length:Int)),(18,I i)]) (λi A1 a c1 vals ls E Rs=>(⟨73,1,A1,a,c1,vals,false⟩::⟨4,1,(GG d),p.length,p.length,bools E,false⟩::Rs)) (λi A1 a c1 vals ls E Rs=>(0<=i)/\(i<=p.length)/\(a=vals.length)/\(SlR .i64 Rs vals ls)/\(kK p i.toNat=(E,ls))) (λi A1 a c1 vals ls E Rs=>(p.length-i).toNat) ?_ ?_
 ·exact⟨0,GG P,0,0,[],[],List.replicate p.length false,[],⟨G,G,(Z),(SlR.nil _),(Z)⟩,KP⟩
 intro i A1 a c1 vals ls E Rs ⟨u,Y,x,q,j⟩;have C:E.length=p.length:=by have h:=(nD hp i.toNat G).1;rw[j] at h;exact h
 have S:vals.length<=i.toNat:=by have h:=KN p i.toNat;rw[j] at h;rw[q.1];exact h
 refine aD Z<|aA<|aR Z ?_ ?_<;>intro ap
 ·refine aG<|aA<|aF<|aD Z<|wq<|dX (ri 3 none 0 0 ([]))<|aB Z<|aA<|aD Z<|aF<|IK (λ(k:Int) (A2:AF) (b:Nat) (c2:Nat) (acc:AH) (E2:List Bool) (f:Nat)=>[(0,sl Sa p.length Sc),(4,sl (GG d) p.length p.length),(5,sl A1 a c1),(7,sl A2 b c2),(8,I k),(17,I (p.length:Int)),(18,I i)]) (λk A2 b c2 acc E2 f=>((ri 3 A2 b c2 acc)::⟨73,1,A1,a,c1,vals,false⟩::⟨4,1,(GG d),p.length,p.length,bools E2,false⟩::Rs)) (λk A2 b c2 acc E2 f=>(0<=k)/\(k<p.length)/\(b=acc.length)/\(E2.length=p.length)/\(cntF E2<=f)/\((acc++(iH p f E2 k).1,(iH p f E2 k).2)=iH p p.length E i)) (λk A2 b c2 acc E2 f=>f) ?_ ?_
  ·exact⟨i,none,0,0,[],E,p.length,⟨G,G,(Z),(C),(by have:cntF E<=E.length:=Bz;omega),(Z)⟩,KP⟩
  intro k A2 b c2 acc E2 f ⟨o,Q,r,M,O,g⟩;have ph:=RJ hp C u G g;refine aA<|aK 2 Z<|wy (aC oz sz4 Z Z (rdr 2 Z))<|wy (IC Bc Z Z (rdr 2 Z))<|wy (pO Z)<|aJ<|aR Z ?_ ?_<;>intro m
  ·have y:=IJ (p:=p) o G O m;have n7:=CK o G m;have X:=KU o G m;have d6:=aY.1 (hp.subset (bM (L:=p) o Q));exact aG<|aA<|aF<|aK 2 Z<|wy (aC oz sz4 Z Z (rdr 2 Z))<|bN (yB 2 Z sz4 Z Z)<|aJ<|aT 2 Z<|aX (bG .i64 [k] ak zs3 Z Z Z) λsk=>dG (aO 1 Z ak zb3 Z Z Z (rdr 0 Z)) λK J=>bC (v:=sl K (b+1) J) Z<|aB Z<|aT 2 Z<|wy (aC ak sz3 Z Z (l.c _))<|wy (aQ av Z Z (l.c _))<|aB Z<|⟨rd p k,K,b+1,J,acc++([k]),sV E2 k true,(f-1),⟨G,G,(by rw[aa,r];rfl),(by rw[mW];exact M),G,(by rw[<-g,y];simp only[dx,ou])⟩,G,SA,λ_ h=>h.selR (F:=[_,_,_,_]) (F':=[_,_,_]) [1,2,3] cC Z⟩
  have B:iH p p.length E i=(acc,E2):=by rw[<-g,uG (pg.1 m),ik]
  refine aP<|aD Z<|aR Z ?_ ?_<;>intro T
  ·refine aT 2 Z<|aX (jD [Value.slice A2 b c2] zl bQp Z Z Z Z) λR=>dG (fO 2 Z Z zl bUl Z Z Z Z Z (rdr 0 Z) (by simp[Value.oneCell']) (by dsimp only;omega)) λH D=> ?_;exact bC (v:=sl H (a+1) D) Z<|aB Z<|bK<|wA Z Z<|aB Z<|⟨i+1,H,a+1,D,vals++([Value.slice A2 b c2]),(ls++[acc]),E2,((ri 3 A2 b c2 acc)::Rs),⟨G,G,(by rw[aa,x];rfl),(q.snoc r),(aSt u j B (λe=>by rw[e] at r;simp at r;omega))⟩,G,SA,λ_ h=>h.selR (F:=[_,_,_,_]) (F':=[_,_,_]) [2,3,1] cC rfl⟩
  exact aG<|bK<|wA Z Z<|aB Z<|⟨i+1,A1,a,c1,vals,ls,E2,Rs,⟨G,G,(x),(q),(bHb u j B (di G))⟩,G,SA,λ_ h=>h.selR (F:=[_,_,_]) (F':=[_,_]) [1,2] cC Z⟩
 refine aP<|aD Z<|aL [0] 2<|⟨_,_,Z,Z,?_⟩;obtain rfl:ls=bR p:=by unfold bR;rw[<-show i.toNat=p.length by omega,j]
 subst x;exact⟨_,_,vals,Rs,Z,q,Z⟩
theorem OS (l:R5 w Sa n_p Sc p) (hp:p.Perm (iota p.length)) (N:p.length<=1000000):
  CF 143 #[sl Sa n_p Sc] w (λv R'=> ∃(A:AF) (c:Nat) (vals:AG) (Rs:List Row),v= .tuple #[sl A vals.length c,bt]/\SlR .i64 Rs vals (bR p)/\R'=⟨73,1,A,vals.length,c,vals,false⟩::Rs):=by
 obtain rfl:=l.lenI;refine fn2 func143 Z Z Z<|aD Z<|aA<|aK 1 Z<|dZ bQl Z (λw g=>aRv ((l.c _) w g) hp N)<|aB Z<|aM Z<|aG<|aK 2 Z<|aX (QW oz zb4 Z Z G G G) λd=>bC (v:=sl (GG d) p.length p.length) Z<|aB Z<|wq<|dX ⟨73,1,none,0,0,[],false⟩<|aB Z<|aA<|aD Z<|aF<|sS (λ(i:Int) (A1:AF) (a:Nat) (c1:Nat) (vals:AG) (ls:AD) (E:List Bool) (Rs:List Row)=>[(0,sl Sa p.length Sc),(4,sl (GG d) p.length p.length),(5,sl A1 a c1),(6,I i)]) (λi A1 a c1 vals ls E Rs=>(⟨73,1,A1,a,c1,vals,false⟩::⟨4,1,(GG d),p.length,p.length,bools E,false⟩::Rs)) (λi A1 a c1 vals ls E Rs=>(0<=i)/\(i<=p.length)/\(a=vals.length)/\(SlR .i64 Rs vals ls)/\(kK p i.toNat=(E,ls))) (λi A1 a c1 vals ls E Rs=>(p.length-i).toNat) ?_ ?_
 ·exact⟨0,none,0,0,[],[],List.replicate p.length false,[],⟨G,G,(Z),(SlR.nil _),(Z)⟩,KP⟩
 intro i A1 a c1 vals ls E Rs ⟨u,T,x,q,j⟩;have C:E.length=p.length:=by have h:=(nD hp i.toNat G).1;rw[j] at h;exact h
 have Q:vals.length<=i.toNat:=by have h:=KN p i.toNat;rw[j] at h;rw[q.1];exact h
 refine aA<|aD Z<|aR Z ?_ ?_<;>intro ap
 ·refine aG<|aA<|aF<|wq<|dX (ri 3 none 0 0 ([]))<|aB Z<|aA<|aD Z<|aF<|IK (λ(k:Int) (A2:AF) (b:Nat) (c2:Nat) (acc:AH) (E2:List Bool) (f:Nat)=>[(0,sl Sa p.length Sc),(4,sl (GG d) p.length p.length),(5,sl A1 a c1),(6,I i),(7,sl A2 b c2),(8,I k)]) (λk A2 b c2 acc E2 f=>((ri 3 A2 b c2 acc)::⟨73,1,A1,a,c1,vals,false⟩::⟨4,1,(GG d),p.length,p.length,bools E2,false⟩::Rs)) (λk A2 b c2 acc E2 f=>(0<=k)/\(k<p.length)/\(b=acc.length)/\(E2.length=p.length)/\(cntF E2<=f)/\((acc++(iH p f E2 k).1,(iH p f E2 k).2)=iH p p.length E i)) (λk A2 b c2 acc E2 f=>f) ?_ ?_
  ·exact⟨i,none,0,0,[],E,p.length,⟨G,G,(Z),(C),(by have:cntF E<=E.length:=Bz;omega),(Z)⟩,KP⟩
  intro k A2 b c2 acc E2 f ⟨o,P,r,M,O,g⟩;have Y:=RJ hp C u G g;refine aA<|aK 2 Z<|wy (aC oz sz4 Z Z (rdr 2 Z))<|wy (IC Bc Z Z (rdr 2 Z))<|wy (pO Z)<|aJ<|aR Z ?_ ?_<;>intro m
  ·have y:=IJ (p:=p) o G O m;have n7:=CK o G m;have S:=KU o G m;have d6:=aY.1 (hp.subset (bM (L:=p) o P));exact aG<|aA<|aF<|aK 2 Z<|wy (aC oz sz4 Z Z (rdr 2 Z))<|bN (yB 2 Z sz4 Z Z)<|aJ<|aT 2 Z<|aX (bG .i64 [k] ak zs3 Z Z Z) λX=>dG (aO 1 Z ak zb3 Z Z Z (rdr 0 Z)) λD H=>bC (v:=sl D (b+1) H) Z<|aB Z<|aT 2 Z<|wy (aC ak sz3 Z Z (l.c _))<|wy (aQ av Z Z (l.c _))<|aB Z<|⟨rd p k,D,b+1,H,acc++([k]),sV E2 k true,(f-1),⟨G,G,(by rw[aa,r];rfl),(by rw[mW];exact M),G,(by rw[<-g,y];simp only[dx,ou])⟩,G,SA,λ_ h=>h.selR (F:=[_,_,_,_]) (F':=[_,_,_]) [1,2,3] cC Z⟩
  have B:iH p p.length E i=(acc,E2):=by rw[<-g,uG (pg.1 m),ik]
  refine aP<|aD Z<|aR Z ?_ ?_<;>intro R
  ·refine aT 2 Z<|aX (jD [Value.slice A2 b c2] zl bQp Z Z Z Z) λrv=>dG (fO 2 Z Z zl bUl Z Z Z Z Z (rdr 0 Z) (by simp[Value.oneCell']) (by dsimp only;omega)) λK J=> ?_;exact bC (v:=sl K (a+1) J) Z<|aB Z<|aT 1 Z<|wA Z Z<|aB Z<|⟨i+1,K,a+1,J,vals++([Value.slice A2 b c2]),(ls++[acc]),E2,((ri 3 A2 b c2 acc)::Rs),⟨G,G,(by rw[aa,x];rfl),(q.snoc r),(aSt u j B (λe=>by rw[e] at r;simp at r;omega))⟩,G,SA,λ_ h=>h.selR (F:=[_,_,_,_]) (F':=[_,_,_]) [2,3,1] cC rfl⟩
  exact aG<|aT 1 Z<|wA Z Z<|aB Z<|⟨i+1,A1,a,c1,vals,ls,E2,Rs,⟨G,G,(x),(q),(bHb u j B (di G))⟩,G,SA,λ_ h=>h.selR (F:=[_,_,_]) (F':=[_,_]) [1,2] cC Z⟩
 refine aP<|aD Z<|aL [0] 2<|⟨_,_,Z,Z,?_⟩;obtain rfl:ls=bR p:=by unfold bR;rw[<-show i.toNat=p.length by omega,j]
 subst x;exact⟨_,_,vals,Rs,Z,q,Z⟩
end
section
variable {w:World}
theorem aXv {li:AF} {va ml:Nat} {l:AE} (a:Rd w li va ml 2 (prs l)) (i:l.length<=1000000):
  CF 213 #[sl li va ml] w (λv R'=> ∃A c,v=sl A l.length c/\R'=[⟨175,2,A,l.length,c,prs l,false⟩]):=by
 obtain rfl:va=l.length:=by have:=a.len;rw[kN] at this;omega
 refine fn1 Tryz.func213 Z Z Z<|aD Z<|aA<|aK 1 Z<|wy (aPu lc Z Z)<|aJ<|RN Z ?_ ?_<;>intro ap
 ·refine aD Z<|gN (R1:=[⟨175,2,none,0,0,prs [],false⟩]) (λ_ h=>h.nilP 175)<|⟨_,Z,?_⟩;have e:li=none:=by simpa using ap
  subst e;obtain rfl:=bCm a;exact⟨none,0,Z,Z⟩
 refine aG<|wq<|aX (aEl lc QZ) λg=>wm Z<|dG (lH 0 Z lc zO Z Z Z Z (a.c _) G) λb d=>bC (v:=sl b (0+l.length) d) Z<|aB Z<|aS<|⟨_,Z,?_⟩;simp only[oh,ig];exact⟨_,_,Z,Z⟩
theorem aFi {bl:AF} {cg bm:Nat} {aq:AG} {ws:AD} (ba:Rd w bl cg bm 1 aq) (bo:SlW .u8 w aq ws) (hN:ws.flatten.length<=400000/\ws.length<=1000000):
  CF 160 #[sl bl cg bm] w (λv R'=> ∃(l:AE) (A:AF) (c:Nat),v=sl A l.length c/\l.Perm (iB ws ws.length)/\l.Pairwise (kP ws)/\R'=[⟨175,2,A,l.length,c,prs l,false⟩]):=by
 obtain rfl:cg=ws.length:=by have:=ba.len;have:=bo.1;omega
 refine fn1 Tryz.func160 Z Z Z ?_;have ua:=hN.1;refine aD Z<|aK 1 Z<|wy (bV (v:= .agg #[sl bl ws.length bm,sl none 0 0,sl none 0 0,sl none 0 0]) Z (λw=>cA))<|aX (dC (sz:=4) rfl rfl) λO=>gZ (R1:=[⟨175,2,none,0,0,prs ([]),false⟩,(ri 3 none 0 0 ([])),(ri 3 none 0 0 ([])),(rc 256 4 O [sl bl ws.length bm,sl none 0 0,sl none 0 0,sl none 0 0])]) (Sub.refl _) (λ_ h=>((h.nil 3 1).nil 3 1).nilP 175)<|aB rfl<|aD rfl<|aA<|aD rfl<|aF<|aZi (λ(k:Int) (d:Int) (A1:AF) (m:Nat) (c1:Nat) (T:AE) (A2:AF) (o:Nat) (c2:Nat) (Bs:AH) (F:AF) (C:Nat) (H:Nat) (Rs:AH)=>[(3,PG O),(4,I d),(16,sl bl ws.length bm),(17,I (ws.length:Int)),(18,I k)]) (λk d A1 m c1 T A2 o c2 Bs F C H Rs=>[⟨175,2,A1,m,c1,prs T,false⟩,(ri 3 A2 o c2 Bs),(ri 3 F C H Rs),(rc 256 4 O [sl bl ws.length bm,sl A1 m c1,sl A2 o c2,sl F C H])]) (λk d A1 m c1 T A2 o c2 Bs F C H Rs=>(0<=k)/\(k<=ws.length)/\(0<=d/\d<=400000)/\(∀w:Int,0<=w->w<k->((rdl ws w).length:Int)<=d)/\(d=0/\qZ ws k.toNat=0\/0<d/\0<qZ ws k.toNat)/\(T=iB ws k.toNat)/\(m=qZ ws k.toNat)/\(Bs=vY ws k.toNat)/\(o=k.toNat)/\(Rs=(ws.take k.toNat).flatten)/\(C=qZ ws k.toNat)) (λk d A1 m c1 T A2 o c2 Bs F C H Rs=>(ws.length-k).toNat) ?_ ?_
 ·exact⟨0,0,none,0,0,[],none,0,0,[],none,0,0,[],⟨G,G,G,(λw h0 h1=>G),(.inl ⟨rfl,rfl⟩),(rfl),(rfl),(rfl),(rfl),(rfl),(rfl)⟩,KP⟩
 intro k d A1 m c1 T A2 o c2 Bs F C H Rs ⟨P,mu,hg0,Q,Li,p,R,Y,hnB,M,hnR⟩;refine aD Z<|aA<|aR Z ?_ ?_<;>intro ap
 ·have hofs:=mG P (show k<ws.length by omega);have hole:=QK ws (k+1).toNat;refine aG<|aA<|aF<|aK 1 Z<|wy (aC dm iZ Z Z (ba.c _)) ?_;obtain⟨Mu,Mv,hv_4,w7,hb_6,mhr_5⟩:=bo.at (i:=k) G G;refine wy (kS ai Z Z Z (ba.c _) hv_4)<|aB Z<|aA<|bE mixed<|fU [3,3] 0 10 Z<|wC 10 Z (bG .i64 [(m:Int)] ak zs3 Z Z Z) ?_;rintro _ _⟨Se,rfl,rfl⟩;refine⟨.inr hrZ,?_⟩;refine wC 11 Z (aO 2 Z ak zb3 Z Z Z (rdr 0 Z)) ?_;rintro _ _⟨jn,cm,rfl,rfl⟩;refine⟨.inl cA,?_⟩;refine iA (v:=sl jn (o+1) cm) Z<|bF 12 2 Z<|qN 14 Z cA (aV 4 Z Z Z XM Z Z Z Z (ah Z)) ?_;rintro _ _ rfl;refine⟨.inl cA,?_⟩;refine wN<|aK 3 Z<|wy (aYw Z Z)<|aB Z<|aD Z<|aF<|PV (λ(j:Int) (J:AF) (m1:Nat) (d1:Nat) (U:AE) (K:AF) (m3:Nat) (d3:Nat) (V:AH)=>[(3,PG O),(4,I (max d (((rdl ws k).length:Nat):Int))),(5,I k),(16,sl bl ws.length bm),(17,I (ws.length:Int)),(18,I k),(41,sl Mu ((rdl ws k).length) Mv),(42,I (((rdl ws k).length:Nat):Int)),(43,I j)]) (λj J m1 d1 U K m3 d3 V=>[(ri 3 (GG Se) 1 1 ([(m:Int)])),⟨175,2,J,m1,d1,prs U,false⟩,(ri 3 jn (o+1) cm (Bs++([(m:Int)]))),(ri 3 K m3 d3 V),(rc 256 4 O [sl bl ws.length bm,sl J m1 d1,sl jn (o+1) cm,sl K m3 d3])]) (λj J m1 d1 U K m3 d3 V=>(0<=j)/\(j<=(rdl ws k).length)/\(U=iB ws k.toNat++turnsOf k j.toNat)/\(m1=qZ ws k.toNat+j.toNat)/\(V=(ws.take k.toNat).flatten++(rdl ws k).take j.toNat)/\(m3=qZ ws k.toNat+j.toNat)) (λj J m1 d1 U K m3 d3 V=>((rdl ws k).length-j).toNat) ?_ ?_
  ·exact⟨0,A1,m,c1,T,F,C,H,Rs,⟨G,G,(by rw[p];exact(ik _).symm),(R),(by rw[M];exact(ik _).symm),(hnR)⟩,KP⟩
  intro j J m1 d1 U K m3 d3 V ⟨pr,v6,hU,kj,hV,hm3⟩;refine aD Z<|aA<|aR Z ?_ ?_<;>intro bp
  ·refine aG<|aA<|aF<|aK 1 Z<|wy (aC ai sz5 Z Z (w7.c _))<|wy (aQ ay Z Z (w7.c _))<|aB Z<|cB [4] 7 Z<|wy (bV (v:= .agg #[I k,I j]) Z (λw=>cA))<|aX (aEm lc QZ rfl) λuc=>dG (lH 2 rfl lc zO rfl rfl rfl rfl (rdr 0 rfl) G) λdy ef=>bC (v:=sl dy (m1+1) ef) rfl<|bH 2 rfl<|bN (aV 5 rfl rfl rfl bUz rfl rfl rfl rfl (ah rfl))<|aJ<|nQ [5] 6 Z<|wy (gV ay av Z (by have Kf:=(byteL_wf (by assumption: ∀x∈rdl ws k,(Lit.int .u8 x).wf=true)).rd j;omega)) ?_;exact aX (bG .i64 [rd (rdl ws k) j] ak zs3 Z Z Z) λzr=>dG (aO 5 Z ak zb3 Z Z Z (rdr 0 Z)) λee eh=>bC (v:=sl ee (m3+1) eh) Z<|bH 2 Z<|bN (aV 6 Z Z Z XM Z Z Z Z (ah Z))<|aJ<|bK<|wA Z Z<|aB Z<|⟨j+1,dy,(m1+1),ef,U++([(k,j)]),ee,(m3+1),eh,V++([rd (rdl ws k) j]),⟨G,G,(by rw[hU,IQ k pr,dx]),G,(by rw[hV,dx,dP pr G]),G⟩,G,SA,λ_ h=>h.sel [2,3,4,5,6] cC Z⟩
  refine aP<|bK<|wA Z Z<|aB Z ?_
  exact⟨k+1,max d (((rdl ws k).length:Nat):Int),J,m1,d1,U,jn,(o+1),cm,Bs++([(m:Int)]),K,m3,d3,V,⟨G,G,G,(λw h0 h1=>by
     by_cases hw:w=k
     ·rw[hw];omega
     have:=Q w h0 G;omega),(by have hofs:=mG P (show k<ws.length by omega);omega),(by have hj:j.toNat=(rdl ws k).length:=G;rw[hU,hj,SC P]),(by rw[kj,mG P G];omega),(by rw[Y,aPd P,R]),G,(by have hj:j.toNat=(rdl ws k).length:=G;rw[hV,hj,qa,gJ P G]),(by rw[hm3,mG P G];omega)⟩,G,SA,λ_ h=>h.sel [1,2,3,4] cC rfl⟩
 have hke:k=ws.length:=G
 have Zn:k.toNat=ws.length:=G
 rw[Zn] at p Y M R hnB hnR Li;rw[qa] at M;have hoT:=DF ws ws.length (dn _);have hoB:=aBt ws ws.length;have hoR:qZ ws ws.length=ws.flatten.length:=by unfold qZ;rw[qa]
 obtain rfl:m=T.length:=by rw[p];omega
 obtain rfl:o=Bs.length:=by rw[Y];omega
 obtain rfl:C=Rs.length:=by rw[M];omega
 have Uc:T.length<=1000000:=by rw[p];omega
 refine aP<|cB [3] 4 Z<|bZ bXe Z (λw hw=>aXv ((rdr 0 Z) w hw) Uc) λi6 qe=>aB Z<|aD Z<|aA<|aD Z<|aF<|nX (λ(h:Int) (N:Int) (l:AE) (X:AF) (c4:Nat) (rs:AH)=>[(3,PG O),(4,I d),(9,sl i6 T.length qe),(10,I N),(11,I h)]) (λh N l X c4 rs=>[⟨175,2,i6,T.length,qe,prs l,false⟩,⟨175,2,A1,T.length,c1,prs T,false⟩,(ri 3 A2 Bs.length c2 Bs),(ri 3 X Rs.length c4 rs),(rc 256 4 O [sl bl ws.length bm,sl A1 T.length c1,sl A2 Bs.length c2,sl X Rs.length c4])]) (λh N l X c4 rs=>(0<=h)/\(l.Perm T)/\(rs.length=Rs.length)/\(RK ws Bs (qH h) rs)/\(0<h->Sorted ws (qH h) l/\Go.Pure.Steps Bs rs l N)) (λh N l X c4 rs=>(2*d-h).toNat) ?_ ?_
 ·exact⟨0,-1,T,F,H,Rs,⟨G,(.refl _),(Z),(by rw[M,Y];exact bBd ws),(λh=>absurd h G)⟩,KP⟩
 intro h N l X c4 rs ⟨B,L,Sy,r,fz⟩;have Wx: ∀t∈l,TV ws t:=λt g=>vR.1 (by rw[<-p];exact L.mem_iff.1 g);have hvv: ∀t∈l,TOk ws Bs rs.length t:=λt g=>by rw[Sy,M,Y];exact bNz G (Wx t g)
 have ud: ∀t∈l,∀u∈l,jV Bs t=jV Bs u->t=u:=λt g u hu e=>bCo (Wx t g) (Wx u hu) (by rw[<-Y];exact e);have hnd:l.Nodup:=L.nodup_iff.2 (by rw[p];exact zX ws _);have hrs:Rs.length=ws.flatten.length:=by rw[M]
 have ya:=L.length_eq;have hTo:T.length=qZ ws ws.length:=by rw[p];exact hoT
 refine aA<|aK 2 Z<|wy (jG Z Z)<|aB Z<|aR Z ?_ ?_<;>intro db
 ·have cj:l≠[]:=λe=>by rw[e] at ya;simp only[iw] at ya;omega
  refine aG<|aA<|aF<|aK 3 Z<|NN [4,0,2,3,1] 99 ?_;refine wa (aH bXd Z (aOm (bs:=Bs) (rs:=rs) (ts:=l) ya.symm Z Sy.symm (ba.c _) (λw hw=>bo.c hw) hvv ud hnd cj ⟨G,G⟩ ⟨B,G⟩)) ?_;rintro _ _⟨q,S,sd,sf,rfl,D,Rm,Zq,Hn,rfl⟩;have Mr:Sorted ws (jB h) q:=⟨λt g=>Wx t (D.mem_iff.1 g),D.nodup_iff.2 hnd,Rm.imp_of_mem λ{x y} hx hy hn ho=>hn ((aZx B r (Wx y (D.mem_iff.1 hy)) (Wx x (D.mem_iff.1 hx))).2 ho)⟩;have Si: ∀t,TV ws t->t∈q:=λt g=>D.mem_iff.2 (L.mem_iff.2 (by rw[p];exact vR.2 g));have hRK2:=bKk B r Mr Si Hn;have hst2:=aLp B r Mr Hn;have mt:=D.length_eq;refine aB Z<|aA<|aK 4 Z<|bD 3 [3,4,9,11,12] 95 (.bool (decide (((kE ws Bs rs h q (q.length-1))=N)/\(0<h)))) Z ?_ ?_
  ·refine bB 92 Z ?_ ?_<;>intro dj
   ·exact aB Z<|KP
   exact aB Z<|KP
  refine aJ<|aR Z ?_ ?_<;>intro ff
  ·refine aP<|aD Z<|aL [1] 99<|⟨_,Z,?_⟩;have pe:T.length=q.length:=G
   rw[pe];refine⟨q,_,_,Z,?_,?_,Z⟩
   ·rw[<-p];exact D.trans L
   exact stay ff.2 r Mr Si D (fz ff.2).2 ff.1
  refine aG<|sQ Z<|aT 1 Z<|wy (jG Z Z)<|wy (aYw Z Z)<|aB Z ?_;exact⟨max 1 (2*h),kE ws Bs rs h q (q.length-1),q,sd,sf,S,⟨G,(D.trans L),G,(by have e:qH (max 1 (2*h))=jB h:=(by unfold qH jB;split<;>omega);rw[e];exact hRK2),(λ_=>by have e:qH (max 1 (2*h))=jB h:=(by unfold qH jB;split<;>omega);rw[e];exact⟨Mr,hst2⟩)⟩,G,SA,λ_ h=>h.sel [1,4,2,3,0] cC rfl⟩
 refine aP<|aD Z<|aL [0] 99<|⟨_,Z,?_⟩;have pe:T.length=l.length:=G
 rw[pe];refine⟨l,_,_,Z,?_,?_,Z⟩
 ·rw[<-p];exact L
 by_cases h0:0<h
 ·refine (fz h0).1.toO λt u g hu e=>aIw g hu ?_ e;have a:=Q t.1 g.1 (by rw[hke];exact g.2.1);have b:=Q u.1 hu.1 (by rw[hke];exact hu.2.1);unfold qH;omega
 have zc:l=[]:=di G;rw[zc];exact .nil
end
section
variable {ws:AD}
theorem aDt {k:Int} (d:0<=k) (h:k<ws.length):(rdl ws k).length<=ws.flatten.length:=by
 have a:=mG d h;have b:=QK ws (k+1).toNat;omega
theorem aPz (u:AH) (i:Nat):(u.drop i++u.take i).length<=u.length:=by
 rw[aa,az,ax];omega
theorem aTs {w:World} {bl:AF} {cg bm:Nat} {aq:AG} (m:Rd w bl cg bm 1 aq) (D:SlW .u8 w aq ws) (hN:ws.flatten.length<=400000/\ws.length<=1000000):
  CF 118 #[sl bl cg bm] w (λv R'=> ∃(l:AE) (A:AF) (c:Nat),v=sl A l.length c/\l.Perm (iB ws ws.length)/\l.Pairwise (kP ws)/\R'=[⟨175,2,A,l.length,c,prs l,false⟩]):=by
 obtain rfl:cg=ws.length:=by have:=m.len;have:=D.1;omega
 refine fn1 Tryz.func118 Z Z Z<|aD Z<|wq<|gZ (R1:=[⟨175,2,none,0,0,prs ([]),false⟩]) (Sub.refl _) (λ_ h=>h.nilP 175)<|aB Z<|aA<|aD Z<|aF<|eT (λ(q:Int) (A1:AF) (g:Nat) (c1:Nat) (T:AE)=>[(0,sl bl ws.length bm),(3,sl A1 g c1),(4,I q)]) (λq A1 g c1 T=>[⟨175,2,A1,g,c1,prs T,false⟩]) (λq A1 g c1 T=>(0<=q)/\(q<=ws.length)/\(g=T.length)/\(T.Perm (iB ws q.toNat))/\(T.Pairwise (kP ws))) (λq A1 g c1 T=>(ws.length-q).toNat) ?_ ?_
 ·exact⟨0,none,0,0,[],⟨G,G,(Z),(.refl _),(.nil)⟩,KP⟩
 intro q A1 g c1 T ⟨i9,hw1,P,hp,hs⟩;refine aA<|aD Z<|aR Z ?_ ?_<;>intro ap
 ·refine aG<|aA<|aF<|aD Z<|aF<|eT (λ(k:Int) (d:AF) (m1:Nat) (d1:Nat) (U:AE)=>[(0,sl bl ws.length bm),(3,sl d m1 d1),(4,I q),(5,I k)]) (λk d m1 d1 U=>[⟨175,2,d,m1,d1,prs U,false⟩]) (λk d m1 d1 U=>(0<=k)/\(k<=(rdl ws q).length)/\(m1=U.length)/\(U.Perm (iB ws q.toNat++turnsOf q k.toNat))/\(U.Pairwise (kP ws))) (λk d m1 d1 U=>((rdl ws q).length-k).toNat) ?_ ?_
  ·exact⟨0,A1,g,c1,T,⟨G,G,(P),(by rw[show turnsOf q (0:Int).toNat=[] from rfl,ik];exact hp),(hs)⟩,KP⟩
  intro k d m1 d1 U ⟨R,mu,kj,C,j5⟩;refine aA<|aK 3 Z<|wy (aC dm iZ Z Z (m.c _))<|D.elim (i:=q) G G (λcv cr sr yq l3 yy=> ?_);refine wy (kS ai Z Z Z (m.c _) sr)<|aB Z<|aR Z ?_ ?_<;>intro bp
  ·refine aG<|aA<|aF<|aK 2 Z<|wy (aC dm iZ Z Z (m.c _))<|D.elim (i:=q) G G (λjp mj Ky sq Lf Pg=> ?_);refine wy (kS ai Z Z Z (m.c _) Ky)<|wm Z<|bZ aJd Z (λw o=>zW ((sq.c _) w o) G (by have:=aDt (ws:=ws) (k:=q) i9 G;omega)) λH F=> ?_;refine aB Z<|aD Z<|aA<|aF<|iK (λ(j:Int)=>[(0,sl bl ws.length bm),(3,sl d m1 d1),(4,I q),(5,I k),(6,sl H (((rdl ws q).drop (k).toNat++(rdl ws q).take (k).toNat).length) F),(7,I j)]) (λj=>[(ru 5 H (((rdl ws q).drop (k).toNat++(rdl ws q).take (k).toNat).length) F ((rdl ws q).drop (k).toNat++(rdl ws q).take (k).toNat)),⟨175,2,d,m1,d1,prs U,false⟩]) (λj=>(0<=j)/\(j<=U.length)/\(∀i:Int,j<=i->i<U.length->kP ws (q,k) (rdp U i))) (λj=>j.toNat) ?_ ?_
   ·exact⟨(m1:Int),⟨G,G,(λi h1 J=>G)⟩,KP⟩
   intro j ⟨pr,v6,m7⟩;have Ns:U.length<=400000:=by rw[C.length_eq,aa,DF ws _ G,NR];have a:=mG i9 (show q<ws.length by omega);have b:=QK ws (q+1).toNat;omega
   have gs:=TN (ws:=ws) i9 G G C;have K: ∀i:Int,0<=i->i<U.length->(rdl ws (rdp U i).1).length<=1000000:=λi h1 J=>by have:=aDt (ws:=ws) (gs i h1 J).1.1 (gs i h1 J).1.2.1;omega
   refine aA<|lS [(0,sl bl ws.length bm),(3,sl d m1 d1),(4,I q),(5,I k),(6,sl H (((rdl ws q).drop (k).toNat++(rdl ws q).take (k).toNat).length) F),(7,I j),(53, .bool (decide ((0<j)/\((WN ((rdl ws q).drop (k).toNat++(rdl ws q).take (k).toNat) ((rdl ws ((rdp U (j-1)).1)).drop (((rdp U (j-1)).2)).toNat++(rdl ws ((rdp U (j-1)).1)).take (((rdp U (j-1)).2)).toNat))<0))))] [(ru 5 H (((rdl ws q).drop (k).toNat++(rdl ws q).take (k).toNat).length) F ((rdl ws q).drop (k).toNat++(rdl ws q).take (k).toNat)),⟨175,2,d,m1,d1,prs U,false⟩] ?_ ?_
   ·refine bE mixed<|bF 0 3 Z<|gM 33 Z ?_ ?_<;>intro db
    ·refine bF 3 4 Z<|wG 7 Z Z Z (oH Z Z)<|wG 8 Z Z Z (pR lc kV Z Z (rdr 1 Z) Z)<|wG 9 Z Z Z (IB (q:=0) jm sz3 Z Z (rdr 1 Z) G G Z cC cC)<|wG 10 Z Z Z (aYy av Z Z (rdr 1 Z))<|wG 11 Z Z Z (aC dm iZ Z Z (m.c _) (by first|exact(gs (j-1) G G).1.1|exact(gs (j-1) G G).1.2.1) (by first|exact(gs (j-1) G G).1.1|exact(gs (j-1) G G).1.2.1)) ?_;refine D.elim (i:=(rdp U (j-1)).1) (by first|exact(gs (j-1) G G).1.1|exact(gs (j-1) G G).1.2.1) (by first|exact(gs (j-1) G G).1.1|exact(gs (j-1) G G).1.2.1) (λgg gi Pf Lm Yu Vw=> ?_);refine wG 12 Z Z Z (kS ai Z Z Z (m.c _) Pf)<|bF 13 2 Z<|wG 15 Z Z Z (oH Z Z)<|wG 16 Z Z Z (pR lc kV Z Z (rdr 1 Z) Z)<|wG 17 Z Z Z (IB (q:=1) jm sz3 Z Z (rdr 1 Z) G G Z cC cC)<|wG 18 Z Z Z (aYx av Z Z (rdr 1 Z) G G)<|aFd 19 Z cA Z Z Z (aH aJd Z (Ct.fresh (λw o=>zW ((Lm.c _) w o) ⟨(gs (j-1) G G).1.2.2.1,Be (gs (j-1) G G).1.2.2.2⟩ (K (j-1) G G)))) ?_;rintro _ _⟨_,rfl,i6,qe,rfl,rfl⟩;refine⟨.inr hrZ,?_⟩;refine aFd 20 Z cA Z Z Z (aH bXw Z (Ct.quiet (λw o=>aDy ((rdr 1 Z) w o) ((rdr 0 Z) w o) (pq (aPz _ _) (pq (aDt (ws:=ws) (k:=q) i9 G) G)) (pq (aPz _ _) (K (j-1) G G))))) ?_;rintro _ _⟨rfl,rfl⟩;refine⟨.inr hiZ,?_⟩;exact bF 21 2 Z<|wN<|⟨SA,λ_ h=>h.sel [1,2] cC Z⟩
    exact bF 3 20 Z<|wN<|KP
   refine aR Z ?_ ?_<;>intro Q
   ·have Ze:=bEu (ws:=ws) i9 G R G C pr v6 m7 Q;exact aG<|aF<|aT 1 Z<|wS Z Z<|aB Z<|⟨j-1,⟨G,G,(Ze)⟩,G,KP⟩
   have d4:=bMg (ws:=ws) i9 G R G C j5 pr v6 m7 Q;refine aP<|bE mixed<|bF 1 2 Z<|wD 3 Z (dV lc kV Z Z (rdr 1 Z))<|bF 5 2 Z<|wD 7 Z (bV (v:= .agg #[I q,I k]) Z (λw=>cA))<|bF 10 2 rfl<|wD 12 rfl (dE lc kV rfl rfl)<|LZ 0 8 cA ?_ ?_
   ·refine PD 0 Z Z (aEl lc QZ) ?_;rintro _ _⟨Fl,rfl,rfl⟩;refine⟨.inr hrZ,?_⟩;refine LZ 4 8 cA ?_ ?_
    ·refine PD 4 Z Z (lH 0 Z lc zO Z Z Z Z (RdC.toP (h:=(j).toNat) (rdr 2 Z) cG) G) ?_;rintro _ _⟨nd,nh,rfl,rfl⟩;refine⟨.inl cA,?_⟩;refine iA (v:=sl nd (0+((j).toNat)) nh) Z<|wC 8 Z (aEm lc QZ Z) ?_;rintro _ _⟨Qj,rfl,rfl⟩;refine⟨.inr hrZ,?_⟩;refine wC 9 Z (lH 1 Z lc zO Z Z Z Z (rdr 0 Z) G) ?_;rintro _ _⟨vt,wb,rfl,rfl⟩;refine⟨.inl cA,?_⟩;refine iA (v:=sl vt ((0+((j).toNat))+1) wb) Z<|wC 13 Z (lH 1 Z lc zO Z Z Z Z (RdC.fromP (rdr 3 Z) cG) G) ?_;rintro _ _⟨yb,zj,rfl,rfl⟩;refine⟨.inl cA,?_⟩;exact iA (v:=sl yb (((0+((j).toNat))+1)+(m1-(j).toNat)) zj) Z<|wD 14 Z (bY Z)<|wN<|aT 1 Z<|wA Z Z<|aB Z<|⟨k+1,yb,((0+((j).toNat))+1)+(m1-(j).toNat),zj,((([])++((U).take (j).toNat))++([(q,k)]))++((U).drop (j).toNat),⟨G,G,(by simp only[aa,ax,az,dh,iw];omega),(d4.1),(d4.2)⟩,G,SA,λ_ h=>h.sel [1] cC Z⟩
    refine PD 8 Z Z (aEm lc QZ Z) ?_;rintro _ _⟨S,rfl,rfl⟩;refine⟨.inr hrZ,?_⟩;refine wC 4 Z (lH 1 Z lc zO Z Z Z Z (RdC.toP (h:=(j).toNat) (rdr 3 Z) cG) G) ?_;rintro _ _⟨Cp,Fd,rfl,rfl⟩;refine⟨.inl cA,?_⟩;refine iA (v:=sl Cp (0+((j).toNat)) Fd) Z<|wC 9 Z (lH 1 Z lc zO Z Z Z Z (rdr 0 Z) G) ?_;rintro _ _⟨p,x,rfl,rfl⟩;refine⟨.inl cA,?_⟩;refine iA (v:=sl p ((0+((j).toNat))+1) x) Z<|wC 13 Z (lH 1 Z lc zO Z Z Z Z (RdC.fromP (rdr 3 Z) cG) G) ?_;rintro _ _⟨L,N,rfl,rfl⟩;refine⟨.inl cA,?_⟩;exact iA (v:=sl L (((0+((j).toNat))+1)+(m1-(j).toNat)) N) Z<|wD 14 Z (bY Z)<|wN<|aT 1 Z<|wA Z Z<|aB Z<|⟨k+1,L,((0+((j).toNat))+1)+(m1-(j).toNat),N,((([])++((U).take (j).toNat))++([(q,k)]))++((U).drop (j).toNat),⟨G,G,(by simp only[aa,ax,az,dh,iw];omega),(d4.1),(d4.2)⟩,G,SA,λ_ h=>h.sel [1] cC Z⟩
   refine PD 8 Z Z (aEm lc QZ Z) ?_;rintro _ _⟨X,rfl,rfl⟩;refine⟨.inr hrZ,?_⟩;refine wC 0 Z (aEl lc QZ) ?_;rintro _ _⟨Y,rfl,rfl⟩;refine⟨.inr hrZ,?_⟩;refine wC 4 Z (lH 0 Z lc zO Z Z Z Z (RdC.toP (h:=(j).toNat) (rdr 3 Z) cG) G) ?_;rintro _ _⟨r,y,rfl,rfl⟩;refine⟨.inl cA,?_⟩;refine iA (v:=sl r (0+((j).toNat)) y) Z<|wC 9 Z (lH 0 Z lc zO Z Z Z Z (rdr 1 Z) G) ?_;rintro _ _⟨u,B,rfl,rfl⟩;refine⟨.inl cA,?_⟩;refine iA (v:=sl u ((0+((j).toNat))+1) B) Z<|wC 13 Z (lH 0 Z lc zO Z Z Z Z (RdC.fromP (rdr 3 Z) cG) G) ?_;rintro _ _⟨M,O,rfl,rfl⟩;refine⟨.inl cA,?_⟩;exact iA (v:=sl M (((0+((j).toNat))+1)+(m1-(j).toNat)) O) Z<|wD 14 Z (bY Z)<|wN<|aT 1 Z<|wA Z Z<|aB Z<|⟨k+1,M,((0+((j).toNat))+1)+(m1-(j).toNat),O,((([])++((U).take (j).toNat))++([(q,k)]))++((U).drop (j).toNat),⟨G,G,(by simp only[aa,ax,az,dh,iw];omega),(d4.1),(d4.2)⟩,G,SA,λ_ h=>h.sel [0] cC Z⟩
  exact aP<|aT 1 Z<|wA Z Z<|aB Z<|⟨q+1,d,m1,d1,U,⟨G,G,(kj),(by have e:k.toNat=(rdl ws q).length:=G;rw[SC i9,<-e];exact C),(j5)⟩,G,KP⟩
 refine aP<|aD Z<|aL [0] 99<|⟨_,Z,?_⟩;obtain rfl:=P;exact⟨T,_,_,Z,by have e:q.toNat=ws.length:=G;rw[<-e];exact hp,hs,rfl⟩
end
section
variable {w:World} {ao:AF} {ar an:Nat} {u:AH}
theorem RI {s:AH} {k:Int} (h:k=(eO s).length):jH s (eO s) k=bws s:=by rw[h];rfl
theorem aPf (am:R4 w ao ar an u) (ac:aI u) (hN:u.length<=100000):
  CF 102 #[sl ao ar an] w (λv R'=> ∃(lt:AE) (A:AF) (c:Nat),v= .tuple #[sl A lt.length c,I 0]/\lt.Perm (iB (bws u) (bws u).length)/\lt.Pairwise (kP (bws u))/\R'=[(ru 5 A lt.length c (lt.map (lastB (bws u))))]):=by
 obtain rfl:=am.lenI;refine fn2 func102 Z Z Z ?_;have ua:=KL u;refine aD Z<|aA<|aK 2 Z<|wy (Yl.f (iL Z Z))<|aJ<|aM Z<|aG<|wq<|dX ⟨22,1,none,0,0,[],false⟩<|aB Z<|aD Z<|aA<|aK 1 Z<|bZ bYf Z (λw p=>aOb ((am.c _) w p) G) λB y=>aB Z<|aF<|nX (λ(k:Int) (A1:AF) (b:Nat) (c1:Nat) (vals:AG) (a:Int)=>[(0,sl ao u.length an),(4,sl A1 b c1),(5,I a),(16,sl B ((eO (u)).length) y),(17,I (((eO (u)).length:Nat):Int)),(18,I k)]) (λk A1 b c1 vals a=>[(ri 3 B ((eO (u)).length) y (eO (u))),⟨22,1,A1,b,c1,vals,false⟩]) (λk A1 b c1 vals a=>(0<=k)/\(k<=(eO u).length)/\(b=k.toNat)/\(SlW .u8 w vals (jH u (eO u) k))/\(a=ps (eO u) k)) (λk A1 b c1 vals a=>((eO u).length-k).toNat) ?_ ?_
 ·exact⟨0,none,0,0,[],0,⟨G,G,(Z),(gI _ _),(Z)⟩,KP⟩
 intro k A1 b c1 vals a ⟨C,mu,bx,F,M⟩;refine aD Z<|aA<|aR Z ?_ ?_<;>intro ap
 ·have T:=nY (L:=eO u) C G;have yp:=bOw u (k+1);have Kt:=MK (uW u) k;have Vh:=uW u _ (bM (L:=eO u) C G)
  have X:SlW .u8 w (vals++[sl (lL ao a.toNat an 1) ((a+rd (eO u) k).toNat-a.toNat) (an-a.toNat)]) (jH u (eO u) (k+1)):=by
   rw[zR C,<-M,show(rd (eO u) k).toNat=(a+rd (eO u) k).toNat-a.toNat by omega];exact F.snoc (am.cutI G G) (λx hx=>eQ (ac x (lu (ku hx)))) (by rw[ax,az];omega)
  refine aG<|aA<|aF<|wq<|wy (aC ak sz3 Z Z (rdr 0 Z))<|wy (aQ av Z Z (rdr 0 Z))<|aB Z<|aK 5 Z<|wA Z Z<|wy (aPt ai sz5 Z Z Z (am.c _) G G G)<|aX (jD [Value.slice (lL ao (a).toNat an 1) ((a+(rd (eO (u)) k)).toNat-(a).toNat) (an-(a).toNat)] dm pF Z Z Z Z) λf8=>dG (fO 2 Z Z dm yG Z Z Z Z Z (rdr 0 Z) (by simp[Value.oneCell']) (by dsimp only;omega)) λjp P=> ?_;exact bC (v:=sl jp (b+1) P) Z<|aB Z<|aT 2 Z<|wA Z Z<|aB Z<|bK<|wA Z Z<|aB Z<|⟨k+1,jp,b+1,P,vals++([Value.slice (lL ao (a).toNat an 1) ((a+(rd (eO (u)) k)).toNat-(a).toNat) (an-(a).toNat)]),a+(rd (eO (u)) k),⟨G,G,G,(X),(by rw[T,M])⟩,G,SA,λ_ h=>h.sel [1,2] cC Z⟩
 refine aP<|wq<|aX (bG .u8 [] ai zs5 Z Z Z) λqk=>aB Z<|aA<|aK 1 Z<|wa (aH bQb Z (Ct.fresh (λw p=>aFi ((rdr 2 Z) w p) (F.c p) (by rw[RI (show k=(eO u).length by omega),vC,aTc];have:=KL u;omega)))) ?_;rintro _ _⟨_,rfl,lt,J,H,rfl,m,K,rfl⟩;refine aB Z<|aF<|eT (λ(q:Int) (j:AF) (m1:Nat) (d1:Nat) (acc:AH)=>[(4,sl A1 b c1),(8,sl j m1 d1),(37,sl J lt.length H),(38,I (lt.length:Int)),(39,I q)]) (λq j m1 d1 acc=>[⟨175,2,J,lt.length,H,prs lt,false⟩,(ru 5 j m1 d1 acc),(ri 3 B ((eO (u)).length) y (eO (u))),⟨22,1,A1,b,c1,vals,false⟩]) (λq j m1 d1 acc=>(0<=q)/\(q<=lt.length)/\(m1=acc.length)/\(acc.length=q.toNat)/\(acc=(lt.take q.toNat).map (lastB (jH u (eO u) k)))) (λq j m1 d1 acc=>(lt.length-q).toNat) ?_ ?_
 ·exact⟨0,GG qk,0,0,[],⟨G,G,(Z),(Z),(Z)⟩,KP⟩
 intro q j m1 d1 acc ⟨O,o6,N,Y,o⟩;have ya:lt.length=u.length:=by rw[RI (show k=(eO u).length by omega)] at m;exact LC m
 refine aD Z<|aA<|aR Z ?_ ?_<;>intro bp
 ·have d:=vR.1 (m.subset (lV (l:=lt) O G));have w9:=d.2.2;have he0:=jk ((rdp lt q).2+(rdl (jH u (eO u) k) (rdp lt q).1).length-1) (show((rdl (jH u (eO u) k) (rdp lt q).1).length:Int)≠0 by omega);have he1:=ja ((rdp lt q).2+(rdl (jH u (eO u) k) (rdp lt q).1).length-1) (show(0:Int)<(rdl (jH u (eO u) k) (rdp lt q).1).length by omega);refine aG<|aA<|aF<|wq<|wy (pR lc kV Z Z (rdr 0 Z) Z)<|wy (aPv jm Z kV Z (rdr 0 Z))<|aX (eH (sz:=2) aPs Z) λzp=>bN (aZ (vs:=[I ((rdp lt q).1),I ((rdp lt q).2)]) 0 Z kV Z Z Z cH Z)<|aJ<|aK 1 Z<|wy (dW (q:=0) (rdr 0 Z) jm sz3 Z Z (ah Z) cC cC Z)<|iC [0] 1 Z<|wy (aC dm iZ Z Z (rdr 4 Z) (by first|exact d.1|(have:=d.2.1;rw[yI] at this;omega)) (by first|exact d.1|(have:=d.2.1;rw[yI] at this;omega))) ?_;refine F.elim (i:=(rdp lt q).1) (by first|exact d.1|exact d.2.1) (by first|exact d.1|exact d.2.1) (λkl pj g S D r=> ?_);exact wy (kS ai Z Z Z (rdr 4 Z) g)<|aB Z<|aT 2 Z<|wy (dW (q:=1) (rdr 0 Z) jm sz3 Z Z (ah Z) cC cC Z)<|iC [0] 3 Z<|wA Z Z<|wS Z Z<|bH 2 Z<|wy (uF Z Z)<|wy (aC ai sz5 Z Z (S.c _))<|wy (aQ ay Z Z (S.c _))<|aX (bG .u8 [rd (rdl (jH u (eO u) k) ((rdp lt q).1)) (((((rdp lt q).2)+(((rdl (jH u (eO u) k) ((rdp lt q).1)).length:Nat):Int))-1)%(((rdl (jH u (eO u) k) ((rdp lt q).1)).length:Nat):Int))] ai zs5 Z Z Z) λKa=>dG (aO 3 Z ai zb5 Z Z Z (rdr 0 Z)) λQ R=>bC (v:=sl Q (m1+1) R) Z<|aB Z<|bK<|wA Z Z<|aB Z<|⟨q+1,Q,m1+1,R,acc++([rd (rdl (jH u (eO u) k) ((rdp lt q).1)) (((((rdp lt q).2)+(((rdl (jH u (eO u) k) ((rdp lt q).1)).length:Nat):Int))-1)%(((rdl (jH u (eO u) k) ((rdp lt q).1)).length:Nat):Int))]),⟨G,G,(by rw[aa,N];rfl),(by rw[aa,Y,dw];omega),(by rw[SH O G,jc,o];rfl)⟩,G,SA,λ_ h=>h.sel [2,3,4,5] cC Z⟩
 refine aP<|aD Z<|aL [1] 99<|⟨_,_,Z,Z,?_⟩;have e:k=(eO u).length:=G
 rw[RI e] at m K o;rw[bg G] at o;subst o;obtain rfl:m1=lt.length:=by rw[N,bn]
 exact⟨lt,_,_,Z,m,K,Z⟩
theorem aAn {bl:AF} {cg bm:Nat} {aq:AG} {ws:AD} (j:Rd w bl cg bm 1 aq) (m:SlW .u8 w aq ws) (N:ws.flatten.length<=400000/\ws.length<=1000000):
  CF 60 #[sl bl cg bm] w (λv R'=> ∃(lt:AE) (A:AF) (c:Nat),v=sl A lt.length c/\lt.Perm (iB ws ws.length)/\lt.Pairwise (kP ws)/\R'=[(ru 5 A lt.length c (lt.map (lastB ws)))]):=by
 obtain rfl:cg=ws.length:=by have:=j.len;have:=m.1;omega
 refine fn1 func60 Z Z Z<|aD Z<|aK 1 Z<|wa (aH bYw Z (Ct.fresh (λw D=>aTs ((j.c _) w D) (m.c D) cE))) ?_;rintro _ _⟨_,rfl,a,x,u,rfl,d,o,rfl⟩;refine aB Z<|wq<|dX (ru 5 none 0 0 ([]))<|aB Z<|aA<|aD Z<|aF<|eT (λ(q:Int) (e:AF) (m1:Nat) (d1:Nat) (acc:AH)=>[(0,sl bl ws.length bm),(3,sl x a.length u),(4,sl e m1 d1),(5,I q)]) (λq e m1 d1 acc=>[(ru 5 e m1 d1 acc),⟨175,2,x,a.length,u,prs a,false⟩]) (λq e m1 d1 acc=>(0<=q)/\(q<=a.length)/\(m1=acc.length)/\(acc.length=q.toNat)/\(acc=(a.take q.toNat).map (lastB ws))) (λq e m1 d1 acc=>(a.length-q).toNat) ?_ ?_
 ·exact⟨0,none,0,0,[],⟨G,G,(Z),(Z),(Z)⟩,KP⟩
 intro q e m1 d1 acc ⟨H,Q,F,J,k⟩;have S:=LM d;refine aA<|aD Z<|aR Z ?_ ?_<;>intro ap
 ·have b:=vR.1 (d.subset (lV (l:=a) H G));have R:=b.2.2;have K:=jk ((rdp a q).2+(rdl ws (rdp a q).1).length-1) (show((rdl ws (rdp a q).1).length:Int)≠0 by omega);have L:=ja ((rdp a q).2+(rdl ws (rdp a q).1).length-1) (show(0:Int)<(rdl ws (rdp a q).1).length by omega);refine aG<|aA<|aF<|aK 3 Z<|wy (pR lc kV Z Z (rdr 1 Z) Z)<|wy (IB (q:=0) jm sz3 Z Z (rdr 1 Z) G G Z cC cC)<|wy (aYy av Z Z (rdr 1 Z))<|wy (aC dm iZ Z Z (j.c _) (by first|exact b.1|exact b.2.1) (by first|exact b.1|exact b.2.1)) ?_;refine m.elim (i:=(rdp a q).1) (by first|exact b.1|exact b.2.1) (by first|exact b.1|exact b.2.1) (λO P g r C p=> ?_);exact wy (kS ai Z Z Z (j.c _) g)<|aB Z<|aT 4 Z<|wy (pR lc kV Z Z (rdr 1 Z) Z)<|wy (IB (q:=1) jm sz3 Z Z (rdr 1 Z) G G Z cC cC)<|wy (aYx av Z Z (rdr 1 Z) G G)<|bH 2 Z<|wA Z Z<|wS Z Z<|bH 2 Z<|wy (uF Z Z)<|wy (aC ai sz5 Z Z (r.c _))<|wy (aQ ay Z Z (r.c _))<|aX (bG .u8 [rd (rdl ws ((rdp a q).1)) (((((rdp a q).2)+(((rdl ws ((rdp a q).1)).length:Nat):Int))-1)%(((rdl ws ((rdp a q).1)).length:Nat):Int))] ai zs5 Z Z Z) λM=>dG (aO 1 Z ai zb5 Z Z Z (rdr 0 Z)) λB y=>bC (v:=sl B (m1+1) y) Z<|aB Z<|aT 1 Z<|wA Z Z<|aB Z<|⟨q+1,B,m1+1,y,acc++([rd (rdl ws ((rdp a q).1)) (((((rdp a q).2)+(((rdl ws ((rdp a q).1)).length:Nat):Int))-1)%(((rdl ws ((rdp a q).1)).length:Nat):Int))]),⟨G,G,(by rw[aa,F];rfl),(by rw[aa,J,dw];omega),(by rw[SH H G,jc,k];rfl)⟩,G,SA,λ_ h=>h.sel [1,2] cC Z⟩
 refine aP<|aD Z<|aL [0] 99<|⟨_,Z,?_⟩;rw[bg G] at k;subst k;obtain rfl:m1=a.length:=by rw[F,bn]
 exact⟨a,_,_,Z,d,o,Z⟩
theorem aTv (am:R4 w ao ar an u) (y:aI u) (H:u.length<=100000):
  CF 34 #[sl ao ar an] w (λv R'=> ∃(lt:AE) (A:AF) (c:Nat),v=sl A lt.length c/\lt.Perm (iB (bws u) (bws u).length)/\lt.Pairwise (kP (bws u))/\R'=[(ru 5 A lt.length c (lt.map (lastB (bws u))))]):=by
 obtain rfl:=am.lenI;refine fn1 func34 Z Z Z ?_;have K:=KL u;refine aD Z<|aK 1 Z<|bZ cAn Z (λw b=>aIp ((am.c _) w b) G) λi g=>aB Z<|wq<|dX ⟨22,1,none,0,0,[],false⟩<|aB Z<|aA<|aD Z<|aF<|sS (λ(k:Int) (A1:AF) (a:Nat) (c1:Nat) (vals:AG) (A0:AF) (n0:Nat) (c0:Nat)=>[(0,sl A0 n0 c0),(3,sl i ((eO (u)).length) g),(4,sl A1 a c1),(5,I k)]) (λk A1 a c1 vals A0 n0 c0=>[⟨22,1,A1,a,c1,vals,false⟩,(ri 3 i ((eO (u)).length) g (eO (u)))]) (λk A1 a c1 vals A0 n0 c0=>(0<=k)/\(k<=(eO u).length)/\(a=k.toNat)/\(SlW .u8 w vals (jH u (eO u) k))/\(Rd w A0 n0 c0 1 (ints .u8 (u.drop (ps (eO u) k).toNat)))) (λk A1 a c1 vals A0 n0 c0=>((eO u).length-k).toNat) ?_ ?_
 ·exact⟨0,none,0,0,[],ao,u.length,an,⟨G,G,(Z),(gI _ _),(am)⟩,KP⟩
 intro k A1 a c1 vals A0 n0 c0 ⟨d,J,F,j,io⟩;have q:=io.lenI;rw[az] at q;refine aA<|aD Z<|aR Z ?_ ?_<;>intro ap
 ·have p:=nY (L:=eO u) d G;have N:=bOw u (k+1);have C:=MK (uW u) k;have D:=uW u _ (bM (L:=eO u) d G)
  have r:SlW .u8 w (vals++[sl A0 (rd (eO u) k).toNat c0]) (jH u (eO u) (k+1)):=by
   rw[zR d];exact j.snoc (io.toI G) (λx B=>eQ (y x (lu (ku B)))) (by rw[ax,az];omega)
  refine aG<|aA<|aF<|aK 4 Z<|wy (aC ak sz3 Z Z (rdr 1 Z))<|wy (aQ av Z Z (rdr 1 Z))<|wy (dV ai sz5 Z Z (io.c _))<|aX (jD [Value.slice A0 ((rd (eO (u)) k).toNat) c0] dm pF Z Z Z Z) λf8=>dG (fO 1 Z Z dm yG Z Z Z Z Z (rdr 0 Z) (by simp[Value.oneCell']) (by dsimp only;omega)) λjp m=> ?_;refine bC (v:=sl jp (a+1) m) Z<|aB Z<|aT 3 Z<|wy (aC ak sz3 Z Z (rdr 2 Z))<|wy (aQ av Z Z (rdr 2 Z))<|wy (dE ai sz5 Z Z)<|aB Z<|aT 1 Z<|wA Z Z<|aB Z ?_
  exact⟨k+1,jp,a+1,m,vals++([Value.slice A0 ((rd (eO (u)) k).toNat) c0]),lL A0 (rd (eO (u)) k).toNat c0 1,n0-(rd (eO (u)) k).toNat,c0-(rd (eO (u)) k).toNat,⟨G,G,G,(r),(by
    have h:=io.fromI (l:=(rd (eO u) k).toNat) G;rw[xu] at h;rw[p,show(ps (eO u) k+rd (eO u) k).toNat=(ps (eO u) k).toNat+(rd (eO u) k).toNat by omega]
    exact h)⟩,G,SA,λ_ h=>h.sel [1,2] cC Z⟩
 refine aP<|aK 1 Z<|wa (aH bVv Z (Ct.fresh (λw b=>aAn ((rdr 0 Z) w b) (j.c b) (by rw[RI (show k=(eO u).length by omega),vC,aTc];omega)))) ?_;rintro _ _⟨_,rfl,l2,O,M,rfl,o,d8,rfl⟩;refine aB Z<|aL [0] 99<|⟨_,Z,?_⟩;have e:k=(eO u).length:=G
 rw[RI e] at o d8 ⊢;exact⟨l2,_,_,Z,o,d8,Z⟩
end
section
variable {B ju dq ar an:Nat} {w0 w:World} {R:List Row} {dt ao:AF} {u:AH}
theorem aKk:
  CT 194 #[sl dt ju dq] B w0 R (λv R'=> ∃g,v= .func (.func 226) #[] #[PG g]/\R'=(rc 193 1 g [sl dt ju dq])::R):=by
 exact fn1 func194 Z Z Z<|wq<|aX (dC (sz:=1) Z Z) λg=>aB Z<|wq<|wy (oI Z Z)<|aB Z<|aS<|⟨_,Z,g,Z,Z⟩
theorem OY:
  CT 195 #[sl dt ju dq] B w0 R (λv R'=> ∃g,v= .func (.func 227) #[] #[PG g]/\R'=(rc 73 1 g [sl dt ju dq])::R):=by
 exact fn1 func195 Z Z Z<|wq<|aX (dC (sz:=1) Z Z) λg=>aB Z<|wq<|wy (oI Z Z)<|aB Z<|aS<|⟨_,Z,g,Z,Z⟩
theorem YN {li:AF} {va ml:Nat} {l:AH} {i:AF} {d j:Nat} {a:AH} (m:R4 w li va ml l) (g:R5 w i d j a) (B: ∀x∈a,0<=x/\x<l.length) (H:a.length<=1000000):
  CF 145 #[sl li va ml,sl i d j] w (λv R'=> ∃A c,v=sl A (bS l a).length c/\R'=[(ru 5 A ((bS l a).length) c (bS l a))]):=by
 obtain rfl:=m.lenI;obtain rfl:=g.lenI;refine fn1 func145 Z Z Z<|aD Z<|wq<|dX (ru 5 none 0 0 ([]))<|aB Z<|aA<|aK 2 Z<|wS Z Z<|aB Z<|aF<|eT (λ(A1:AF) (b:Nat) (c1:Nat) (acc:AH) (k:Int)=>[(0,sl li l.length ml),(1,sl i a.length j),(5,sl A1 b c1),(6,I k)]) (λA1 b c1 acc k=>[(ru 5 A1 b c1 acc)]) (λA1 b c1 acc k=>(b=acc.length)/\(-1<=k)/\(k<a.length)/\(acc=((a.reverse).take (a.length-1-k).toNat).map (rd l))) (λA1 b c1 acc k=>(k+1).toNat) ?_ ?_
 ·exact⟨none,0,0,[],(a.length:Int)-1,⟨(Z),G,G,(by rw[show((a.length:Int)-1-((a.length:Int)-1)).toNat=0 by omega];rfl)⟩,KP⟩
 intro A1 b c1 acc k ⟨p,F,y,e⟩;have C:=bi List.length e;rw[bn,ax,kz] at C;have o:0<=k->0<=rd a k/\rd a k<l.length:=λh=>B _ (bM h y);refine aA<|aD Z<|aR Z ?_ ?_<;>intro ap
 ·have u:=o G;exact aG<|aA<|aF<|aT 4 Z<|wy (aC ak sz3 Z Z (g.c _))<|wy (aQ av Z Z (g.c _))<|wy (aC ai sz5 Z Z (m.c _))<|wy (aQ ay Z Z (m.c _))<|aX (bG .u8 [rd l (rd a k)] ai zs5 Z Z Z) λD=>dG (aO 1 Z ai zb5 Z Z Z (rdr 0 Z)) λq r=>bC (v:=sl q (b+1) r) Z<|aB Z<|aT 1 Z<|wS Z Z<|aB Z<|⟨q,b+1,r,acc++([rd l (rd a k)]),k-1,⟨(by rw[aa,p];try rfl),G,G,(aKz G y e)⟩,G,SA,λ_ h=>h.sel [1] cC Z⟩
 refine aP<|aD Z<|aL [0] 99<|⟨_,Z,?_⟩;rw[show((a.length:Int)-1-k).toNat=a.length by omega,bg (by rw[kz];exact dn _)] at e;obtain rfl:acc=bS l a:=e;obtain rfl:=p;exact⟨_,_,Z,Z⟩
theorem aYn (am:R4 w ao ar an u) (r:aI u) (J:u.length<=1000000):
  CF 87 #[sl ao ar an] w (λv R'=> ∃A c,v=sl A (backL u (bR (fsL u))).length c/\R'=[(ru 5 A ((backL u (bR (fsL u))).length) c (backL u (bR (fsL u))))]):=by
 obtain rfl:=am.lenI;refine fn1 func87 Z Z Z ?_;have l:=BR r;have ua:=oG u;have mt:=CB l;have K:=xS (p:=fsL u);refine aD Z<|aK 1 Z<|bZ bQf Z (λw e=>aAm ((am.c _) w e) r J) λC B=>wa (aH bQg Z (Ct.fresh (λw e=>OS ((rdr 0 Z) w e) l G))) ?_;rintro _ _⟨_,rfl,m,o,b,q,rfl,j,rfl⟩;have P:=j.1;refine gZ (R1:=(⟨73,1,m,b.length,o,b,false⟩::(ri 3 C ((fsL u).length) B (fsL u))::q)) (Sub.refl _) (λ_ h=>Hp.toTail0 (X:=[_]) (Y:=[_]) h)<|aB Z<|wq<|dX (ru 5 none 0 0 ([]))<|aB Z<|aA<|aK 2 Z<|wS Z Z<|aB Z<|aF<|eT (λ(A1:AF) (a:Nat) (c1:Nat) (acc:AH) (k:Int)=>[(0,sl ao u.length an),(3,sl m b.length o),(5,sl A1 a c1),(6,I k)]) (λA1 a c1 acc k=>((ru 5 A1 a c1 acc)::⟨73,1,m,b.length,o,b,false⟩::(ri 3 C ((fsL u).length) B (fsL u))::q)) (λA1 a c1 acc k=>(a=acc.length)/\(-1<=k)/\(k<b.length)/\(acc=(((bR (fsL u)).reverse.take ((bR (fsL u)).length-1-k).toNat).map (bS u)).flatten)) (λA1 a c1 acc k=>(k+1).toNat) ?_ ?_
 ·exact⟨none,0,0,[],(b.length:Int)-1,⟨(Z),G,G,(by rw[<-j.1,show((b.length:Int)-1-((b.length:Int)-1)).toNat=0 by omega];rfl)⟩,KP⟩
 intro A1 a c1 acc k ⟨y,S,mu,g⟩;have L:=j.1;have ph:acc.length<=u.length:=by rw[g];exact pq OM G
 have O:0<=k->(rdl (bR (fsL u)) k).length<=u.length:=λh=>by
  have:=ng (jo (QP h (by omega:k<(bR (fsL u)).length)));omega
 refine aA<|aD Z<|aR Z ?_ ?_<;>intro ap
 ·have Q:=O G;refine aG<|aA<|aF<|aT 4 Z<|wy (aC zl XM Z Z (rdr 1 Z)) ?_;obtain⟨T,R,d,N⟩:=j.at (i:=k) G G;refine wy (kS ak Z Z Z (rdr 1 Z) d)<|bZ bQe Z (λw e=>YN ((am.c _) w e) ((λ_ h=>N _ _ _ (h.right (R':=[_,_,_]))) w e) (λx M=>by have:=KM l _ (QP G G) x M;omega) G) λgg gi=> ?_;refine dG (aO 1 Z ai zb5 Z Z Z (rdr 0 Z) (by rw[kG];omega)) λD H=> ?_;exact bC (v:=sl D (a+((bS u (rdl (bR (fsL u)) k)).length)) H) Z<|aB Z<|aT 1 Z<|wS Z Z<|aB Z<|⟨D,a+((bS u (rdl (bR (fsL u)) k)).length),H,acc++(bS u (rdl (bR (fsL u)) k)),k-1,⟨(by rw[aa,y];try rfl),G,G,(aPi G G g)⟩,G,SA,λ_ h=>h.selR (F:=[_,_,_,_]) (F':=[_,_,_]) [1,2,3] cC Z⟩
 refine aP<|aD Z<|gN (R1:=[(ru 5 A1 a c1 acc)]) (λ_ h=>(h.selR (F:=[_,_,_]) (F':=[_]) [0] cC Z).left (X:=[_]))<|⟨_,Z,?_⟩;rw[show(((bR (fsL u)).length:Int)-1-k).toNat=(bR (fsL u)).length by omega,bg (by rw[kz];exact dn _)] at g;obtain rfl:acc=backL u (bR (fsL u)):=g;obtain rfl:=y;exact⟨_,_,Z,Z⟩
theorem aPg (am:R4 w ao ar an u) (T:aI u) (hN:u.length<=100000):
  CF 135 #[sl ao ar an] w (λv R'=> ∃A c,v= .tuple #[sl A (backL u (bR (fsL u))).length c,I 0]/\R'=[(ru 5 A ((backL u (bR (fsL u))).length) c (backL u (bR (fsL u))))]):=by
 obtain rfl:=am.lenI;refine fnV func135 Z Z ?_;have H:=BR T;have ua:=oG u;have mt:=CB H;have hcf:=xS (p:=fsL u);refine eZ<|bK<|aX (dC (sz:=1) Z Z) λK=>aB Z<|eZ<|cB [0] 2 Z<|wy (Yl.f (iL Z Z))<|aJ<|aM Z<|aG<|eZ<|nQ [0] 1 Z<|bZ bPt Z (λw j=>aRp ((am.c _) w j) T G) λM N=>wa (aH bPu Z (Ct.fresh (λw j=>aBf ((rdr 0 Z) w j) H G))) ?_;rintro _ _⟨_,rfl,jp,r,a,J,rfl,o,rfl⟩;have Mn:=o.1;refine gZ (R1:=(⟨73,1,jp,a.length,r,a,false⟩::(ri 3 M ((fsL u).length) N (fsL u))::(rc 22 1 K [sl ao u.length an])::J)) (Sub.refl _) (λ_ h=>Hp.toTail0 (X:=[_]) (Y:=[_,_]) h)<|aB Z<|eZ<|bK<|aX (bG .u8 [] ai zs5 Z Z Z) λxf=>aX (eH (sz:=1) bIx Z) λxi=>bN (aV 0 Z Z Z iZ Z Z Z Z (ah Z))<|aJ<|NQ<|eZ<|aT 1 Z<|aX (aH bXk Z (aKk)) λzp=>aJ<|vH<|aTq Z bXb (bIg (A:=jp) (c:=r) (xs:=a) (by have:=o.1;omega)) Z (λ_=>Z) Gd.refl (λ(b:Nat) (A1:AF) (l:Nat) (c1:Nat) (acc:AH)=>((rc 193 1 zp [sl jp a.length r])::(rc 22 1 xi [sl A1 l c1])::(ru 5 A1 l c1 acc)::⟨73,1,jp,a.length,r,a,false⟩::(ri 3 M ((fsL u).length) N (fsL u))::(rc 22 1 K [sl ao u.length an])::J)) (λb A1 l c1 acc=>(l=acc.length)/\(acc=(((bR (fsL u)).reverse.take b).map (bS u)).flatten)) ?_ ?_ ?_ ?_
 ·exact⟨GG xf,0,0,[],⟨(Z),(Z)⟩,λ_ h=>h⟩
 ·intro b A1 l c1 acc w ⟨y,q⟩ j;exact⟨(rdr 0 Z) w j,(rdr 3 Z) w j⟩
 ·intro lr b A1 l c1 acc WW1 Og ⟨y,q⟩ Kd;have ph:acc.length<=u.length:=by rw[q];exact pq OM G
  obtain⟨B,C,R,Su⟩:=o.at (i:=((a.length-1-b:Nat):Int)) G (by have:=o.1;omega)
  have Zg:a[a.length-1-b]?.getD undef=sl B (rdl (bR (fsL u)) ((a.length-1-b:Nat):Int)).length C:=by
   rw[bu] at R;rw[R];rfl
  refine bZw (d:=24) (v:=sl B (rdl (bR (fsL u)) ((a.length-1-b:Nat):Int)).length C) (bi some Zg) ?_;have wi:rdl (bR (fsL u)) ((a.length-1-b:Nat):Int)∈bR (fsL u):=QP G (by have:=o.1;omega);have Zb:(rdl (bR (fsL u)) ((a.length-1-b:Nat):Int)).length<=u.length:=by have:=ng (jo wi);omega
  refine sQ Z ?_;intro Tq j9 Zp;refine aF<|aK 1 Z<|aX (aH bGf Z (OY)) λKa=>aJ<|aF<|aZg Z bGd (GZ (A:=B) (c:=C) (zs:=rdl (bR (fsL u)) ((a.length-1-b:Nat):Int)) G) Z (λ_=>Z) ⟨_,Zp.choose_spec⟩ (λ(m:Nat) (A2:AF) (e:Nat) (c2:Nat) (g:AH)=>((rc 73 1 Ka [sl B ((rdl (bR (fsL u)) ((a.length-1-b:Nat):Int)).length) C])::(rc 193 1 zp [sl jp a.length r])::(rc 22 1 xi [sl A2 e c2])::(ru 5 A2 e c2 g)::⟨73,1,jp,a.length,r,a,false⟩::(ri 3 M ((fsL u).length) N (fsL u))::(rc 22 1 K [sl ao u.length an])::J)) (λm A2 e c2 g=>(e=g.length)/\(g=acc++((rdl (bR (fsL u)) ((a.length-1-b:Nat):Int)).reverse.take m).map (rd u))) ?_ ?_ ?_ ?_
  ·exact⟨A1,l,c1,acc,⟨(y),(by rw[yf];simp)⟩,λ_ h=>h⟩
  ·intro m A2 e c2 g w ⟨D,x⟩ j;exact⟨(rdr 0 Z) w j,(λ_ h=>Su _ _ _ (h.right (R':=[_,_,_,_,_,_,_]))) w j⟩
  ·intro lr m A2 e c2 g WW2 O ⟨D,x⟩ hbW2;have i7:=KM H _ wi _ (bM (L:=rdl (bR (fsL u)) ((a.length-1-b:Nat):Int)) (k:=(((rdl (bR (fsL u)) ((a.length-1-b:Nat):Int)).length-1-m:Nat):Int)) G G);have Qr:g.length<=acc.length+(rdl (bR (fsL u)) ((a.length-1-b:Nat):Int)).length:=by rw[x,aa,bn,ax,kz];omega
   refine sQ Z ?_;intro S Q P;refine aF<|bE mixed<|fU [2,6] 0 3 Z<|wD 3 Z (aC ai sz5 Z Z (am.cb (j9.trans Q) _))<|wD 4 Z (aQ ay Z Z (am.cb (j9.trans Q) _))<|wC 5 Z (bG .u8 [rd u (rd (rdl (bR (fsL u)) ((a.length-1-b:Nat):Int)) (((rdl (bR (fsL u)) ((a.length-1-b:Nat):Int)).length-1-m:Nat):Int))] ai zs5 Z Z Z) ?_;rintro _ _⟨o0,rfl,rfl⟩;refine⟨.inr hrZ,?_⟩;refine wC 6 Z (aO 4 Z ai zb5 Z Z Z (rdr 0 Z)) ?_;rintro _ _⟨tc,tg,rfl,rfl⟩;refine⟨.inl cA,?_⟩;refine iA (v:=sl tc (e+1) tg) Z<|qN 7 Z cA (aV 3 Z Z Z iZ Z Z Z Z (ah Z)) ?_;rintro _ _ rfl;refine⟨.inl cA,?_⟩;exact wN<|⟨tc,e+1,tg,g++([rd u (rd (rdl (bR (fsL u)) ((a.length-1-b:Nat):Int)) (((rdl (bR (fsL u)) ((a.length-1-b:Nat):Int)).length-1-m:Nat):Int))]),⟨(by rw[aa,D];rfl),(RF O x)⟩,λ_=>λ_ h=>h.selR (F:=[_,_,_,_,_,_,_,_]) (F':=[_,_,_,_,_,_,_]) [1,2,3,4,5,6,7] cC Z⟩
  intro A2 e c2 g ⟨D,x⟩;exact⟨A2,e,c2,g,⟨(D),(aPj o.1 Og q x)⟩,λ_=>λ_ h=>h.selR (F:=[_,_,_,_,_,_,_]) (F':=[_,_,_,_,_,_]) [1,2,3,4,5,6] cC Z⟩
 intro Tr DW1 A1 l c1 acc ⟨y,q⟩ Nv j8;have hvl:=o.1;refine RQ<|aFh<|v_w<|lK [1] Z<|gN (R1:=[(ru 5 A1 l c1 acc)]) (λ_ h=>(h.selR (F:=[_,_,_,_,_,_]) (F':=[_]) [2] cC Z).left (X:=[_]))<|bFk Z j8 ⟨_,_,Z,Z,?_⟩;rw[bg (by rw[kz];omega)] at q;obtain rfl:acc=backL u (bR (fsL u)):=q;obtain rfl:=y;exact⟨_,_,Z,Z⟩
end
section
variable {w:World} {ao:AF} {ar an:Nat} {u S:AH} {m k r:Int}
theorem bTv {vd:AF} {i4 vi:Nat} {a:AH} (am:R4 w ao ar an u) (o:R5 w vd i4 vi a) (hp:a.Perm (iota u.length)) (Q:u.length<=1000000):
  CF 101 #[sl ao ar an,sl vd i4 vi] w (λv R'=> ∃A c,v= .tuple #[sl A (ofL u a).length c,I (zat a),bt]/\R'=[(ru 5 A ((ofL u a).length) c (ofL u a))]):=by
 obtain rfl:=am.lenI;obtain rfl:=o.lenI;refine fn3 func101 Z Z Z ?_;have D:a.length=u.length:=by rw[hp.length_eq,bI]
 have g:a.Nodup:=hp.symm.nodup (fV _);have C:a.Perm (iota a.length):=by rw[D];exact hp
 refine aD Z<|aA<|aK 4 Z<|wy (Yl.f (gD Z Z))<|bH 2 Z<|aN Z Z<|dZ bQc Z (λw K=>bBi ((o.c _) w K) C G)<|aB Z<|aM Z<|aG<|wq<|aX (bG .u8 [] ai zs5 Z Z Z) λH=>aB Z<|aA<|aD Z<|aR Z ?_ ?_<;>intro ap
 ·refine aT 4 Z<|wS Z Z<|wy (aC ai sz5 Z Z (am.c _))<|wy (aQ ay Z Z (am.c _))<|aX (bG .u8 [rd u ((u.length:Int)-1)] ai zs5 Z Z Z) λf8=>dG (aO 1 Z ai zb5 Z Z Z (rdr 0 Z)) λjp B=>bC (v:=sl jp (0+1) B) Z<|aB Z<|aA<|aD Z<|aF<|nX (λ(i:Int) (A1:AF) (b:Nat) (c1:Nat) (acc:AH) (m:Int)=>[(0,sl ao u.length an),(4,sl A1 b c1),(5,I m),(32,sl vd a.length vi),(33,I (a.length:Int)),(34,I i)]) (λi A1 b c1 acc m=>[(ru 5 (GG f8) 1 1 ([rd u ((u.length:Int)-1)])),(ru 5 A1 b c1 acc)]) (λi A1 b c1 acc m=>(0<=i)/\(i<=a.length)/\(b=acc.length)/\(acc=(if 0<u.length then [rd u (u.length-1)] else [])++ofT u (a.take i.toNat))/\(m=zat (a.take i.toNat))) (λi A1 b c1 acc m=>(a.length-i).toNat) ?_ ?_
  ·exact⟨0,jp,0+1,B,([])++([rd u ((u.length:Int)-1)]),0,⟨G,G,(by first|rfl|simp),(by first|(rw[cz G];rfl)|(rw[bq G];rfl)),(Z)⟩,KP⟩
  intro i A1 b c1 acc m ⟨e,J,j,d,k⟩
  have L:acc.length<=i.toNat+1:=by
   have h1:=aDc u (a.take i.toNat);rw[ax] at h1;rw[d,aa];split<;>simp only[dh,iw]<;>omega
  have p:i<a.length->0<=rd a i/\rd a i<u.length:=λh=>aY.1 (hp.subset (bM e h));refine aD Z<|aA<|aR Z ?_ ?_<;>intro M
  ·have F:=p G;refine aG<|aA<|aF<|aK 1 Z<|wy (aC ak sz3 Z Z (o.c _))<|wy (aQ av Z Z (o.c _))<|aB Z<|aA<|aD Z<|aR Z ?_ ?_<;>intro N
   ·exact aK 1 Z<|wA Z Z<|aB Z<|aP<|bK<|wA Z Z<|aB Z<|⟨i+1,A1,b,c1,acc,i+1,⟨G,G,(j),(aDb e G d cF),(aCa g e G cF)⟩,G,KP⟩
   exact aG<|aT 3 Z<|wS Z Z<|wy (aC ai sz5 Z Z (am.c _))<|wy (aQ ay Z Z (am.c _))<|aX (bG .u8 [rd u ((rd a i)-1)] ai zs5 Z Z Z) λR=>dG (aO 2 Z ai zb5 Z Z Z (rdr 0 Z)) λr q=>bC (v:=sl r (b+1) q) Z<|aB Z<|bK<|wA Z Z<|aB Z<|⟨i+1,r,b+1,q,acc++([rd u ((rd a i)-1)]),m,⟨G,G,(by rw[aa,j];rfl),(aNd e G d cF),(aKu g e G k cF)⟩,G,SA,λ_ h=>h.sel [1,2] cC Z⟩
  refine aP<|aD Z<|aL [1] 99<|⟨_,_,_,Z,Z,Z,?_⟩;have l:a.take i.toNat=a:=bg G;rw[l] at d k;obtain rfl:acc=ofL u a:=d;obtain rfl:=j;subst k;exact⟨_,_,Z,Z⟩
 refine aG<|aA<|aD Z<|aF<|nX (λ(i:Int) (A1:AF) (b:Nat) (c1:Nat) (acc:AH) (m:Int)=>[(0,sl ao u.length an),(4,sl A1 b c1),(5,I m),(32,sl vd a.length vi),(33,I (a.length:Int)),(34,I i)]) (λi A1 b c1 acc m=>[(ru 5 A1 b c1 acc)]) (λi A1 b c1 acc m=>(0<=i)/\(i<=a.length)/\(b=acc.length)/\(acc=(if 0<u.length then [rd u (u.length-1)] else [])++ofT u (a.take i.toNat))/\(m=zat (a.take i.toNat))) (λi A1 b c1 acc m=>(a.length-i).toNat) ?_ ?_
 ·exact⟨0,GG H,0,0,[],0,⟨G,G,(by first|rfl|simp),(by first|(rw[cz G];rfl)|(rw[bq G];rfl)),(Z)⟩,KP⟩
 intro i A1 b c1 acc m ⟨e,J,j,d,k⟩
 have L:acc.length<=i.toNat+1:=by
  have h1:=aDc u (a.take i.toNat);rw[ax] at h1;rw[d,aa];split<;>simp only[dh,iw]<;>omega
 have p:i<a.length->0<=rd a i/\rd a i<u.length:=λh=>aY.1 (hp.subset (bM e h));refine aD Z<|aA<|aR Z ?_ ?_<;>intro O
 ·have F:=p G;refine aG<|aA<|aF<|aK 1 Z<|wy (aC ak sz3 Z Z (o.c _))<|wy (aQ av Z Z (o.c _))<|aB Z<|aA<|aD Z<|aR Z ?_ ?_<;>intro P
  ·exact aK 1 Z<|wA Z Z<|aB Z<|aP<|bK<|wA Z Z<|aB Z<|⟨i+1,A1,b,c1,acc,i+1,⟨G,G,(j),(aDb e G d cF),(aCa g e G cF)⟩,G,KP⟩
  exact aG<|aT 3 Z<|wS Z Z<|wy (aC ai sz5 Z Z (am.c _))<|wy (aQ ay Z Z (am.c _))<|aX (bG .u8 [rd u ((rd a i)-1)] ai zs5 Z Z Z) λS=>dG (aO 1 Z ai zb5 Z Z Z (rdr 0 Z)) λx y=>bC (v:=sl x (b+1) y) Z<|aB Z<|bK<|wA Z Z<|aB Z<|⟨i+1,x,b+1,y,acc++([rd u ((rd a i)-1)]),m,⟨G,G,(by rw[aa,j];rfl),(aNd e G d cF),(aKu g e G k cF)⟩,G,SA,λ_ h=>h.sel [1] cC Z⟩
 refine aP<|aD Z<|aL [0] 99<|⟨_,_,_,Z,Z,Z,?_⟩;have l:a.take i.toNat=a:=bg G;rw[l] at d k;obtain rfl:acc=ofL u a:=d;obtain rfl:=j;subst k;exact⟨_,_,Z,Z⟩
theorem aAy (am:R4 w ao ar an u) (a:aI u) (F:u.length<=1000000):
  CF 191 #[sl ao ar an] w (λv R'=> ∃A c,v=sl A (fsL u).length c/\R'=[(ri 3 A ((fsL u).length) c (fsL u))]):=by
 obtain rfl:=am.lenI;refine fn1 func191 Z Z Z<|aD Z<|aK 2 Z<|aX (dU ak zb3 Z Z) λe=>bC (v:=sl (GG e) u.length u.length) Z<|aB Z<|aK 2 Z<|aX (dU ak zb3 Z Z) λg=>bC (v:=sl (GG g) u.length u.length) Z<|aB Z<|aA<|aD Z<|aF<|gX (λ(i:Int) (V:AH) (K:AH)=>[(3,sl (GG e) u.length u.length),(4,sl (GG g) u.length u.length),(15,sl ao u.length an),(16,I (u.length:Int)),(17,I i)]) (λi V K=>[(ri 3 (GG g) u.length u.length K),(ri 3 (GG e) u.length u.length V)]) (λi V K=>(0<=i)/\(i<=u.length)/\(V.length=u.length)/\(K.length=u.length)/\(∀j:Int,0<=j->j<i->rd V j=j)/\(∀j:Int,0<=j->j<i->rd K j=rd u j)) (λi V K=>(u.length-i).toNat) ?_ ?_
 ·exact⟨0,List.replicate u.length (0:Int),List.replicate u.length (0:Int),⟨G,G,(by rw[df]),(by rw[df]),(λj h1 p=>G),(λj h1 p=>G)⟩,KP⟩
 intro i V K ⟨h,D,q,m,l,k⟩;refine aD Z<|aA<|aR Z ?_ ?_<;>intro ap
 ·have y:=a.rd i;exact aG<|aA<|aF<|aK 1 Z<|wy (aC ai sz5 Z Z (am.c _))<|wy (aQ ay Z Z (am.c _))<|aB Z<|aT 6 Z<|wy (gV ay av Z)<|wy (aC ak sz3 Z Z (rdr 1 Z))<|bN (bJ 1 Z sz3 Z Z)<|wy (aC ak sz3 Z Z (rdr 0 Z))<|bN (bJ 0 Z sz3 Z Z)<|aJ<|bK<|wA Z Z<|aB Z<|⟨i+1,upd V i i,upd K i (rd u i),⟨G,G,(by rw[aW];exact q),(by rw[aW];exact m),(gG (f:=λj=>j) h G l Z),(gG (f:=λj=>rd u j) h G k Z)⟩,G,KP⟩
 obtain rfl:V=iota u.length:=bP (by rw[bI];omega) λj b h1=>by rw[vN b G];exact l j b G
 obtain rfl:u=K:=(bP G λj b h1=>k j b G:K=u).symm;refine aP<|aK 2 Z<|bZ WF Z (λw d=>yR ((rdr 1 Z) w d) ((rdr 0 Z) w d) G a (λi hi=>aY.1 hi) (by rw[bI];omega)) λB C=> ?_;refine aB Z<|aK 1 Z<|wa (aH bGe Z (Ct.fresh (λw d=>aCt ((rdr 0 Z) w d) (aRd a) (by rw[ML a];omega)))) ?_;rintro _ _⟨_,rfl,H,J,inv,rfl,r,x,rfl⟩;refine aB Z<|aD Z<|aL [0] 99<|⟨_,Z,?_⟩;obtain rfl:inv=fsL u:=bPb a r x;have o:(dN (iota u.length) u (256:Int).toNat).length=(fsL u).length:=by rw[ML a,oG]
 rw[o];exact⟨_,_,Z,Z⟩
theorem vZ (k0:0<=k) (hk:k<u.length) (hl:S.length=u.length) (h: ∀j:Int,k<j->j<u.length->rd S j=rd (iW u m) j) {x:Int} (b:x=rd u (ixr m (dQ u m (u.length-1-k).toNat))): ∀j:Int,k-1<j->j<u.length->rd (upd S k x) j=rd (iW u m) j:=by
 intro j h1 a;rw[iQ k0 G G];split
 ·rename_i e;rw[e,TY k0 hk,b]
 exact h j G a
theorem wB {i:Int} (k0:0<=k) (hk:k<u.length) (a:r=dQ u m (u.length-1-k).toNat) (hi:i=ixr m r):lfC u i+1=dQ u m (u.length-1-(k-1)).toNat:=by
 rw[show((u.length:Int)-1-(k-1)).toNat=(u.length-1-k).toNat+1 by omega,dQ,hi,a]
theorem aEe (hl:S.length=u.length) (h: ∀j:Int,-1<j->j<u.length->rd S j=rd (iW u m) j):S=iW u m:=bP (by rw[hl,oZ]) λj a h1=>h j G G
theorem vP (k0:0<=k) (hk:k<u.length) (h: ∀t:Nat,(t:Int)<u.length-1-k->dQ u m t≠m) (b:r=dQ u m (u.length-1-k).toNat) (a:r≠m): ∀t:Nat,(t:Int)<u.length-1-(k-1)->dQ u m t≠m:=by
 intro t d;rcases bz t (u.length-1-k) with g|g
 ·exact h t g
 rw[show t=(u.length-1-k).toNat by omega,<-b];exact a
theorem bIe (am:R4 w ao ar an u) (q:aI u) (i:XK u m) (X:u.length<=100000):
  CF 134 #[sl ao ar an,I m] w (λv R'=> ∃A c,v= .tuple #[sl A u.length c,I 0]/\R'=[(ru 5 A u.length c (iW u m))]):=by
 obtain rfl:=am.lenI;refine fn2 func134 Z Z Z ?_;have ua:=oG u;have D:=i.1;have ti:=i.1.1;have pn:=i.1.2;have P:=i.2.1;refine aD Z<|aD Z<|aA<|aK 1 Z<|wy (Yl.f (iL Z Z))<|bH 3 Z<|aN Z Z<|wy (pQ Z Z)<|aN Z Z<|wy (Yl.f (fD Z Z))<|bH 4 Z<|aN Z Z<|wy (Yl.f (iL Z Z))<|aB Z<|aM Z<|aG<|aK 1 Z<|bZ bPv Z (λw Q=>aAy ((am.c _) w Q) q G) λK J=>aB Z<|aK 1 Z<|aX (dU ai zb5 Z Z) λB=>bC (v:=sl (GG B) u.length u.length) Z<|aB Z<|aD Z<|aA<|aK 1 Z<|wS Z Z<|aB Z<|aF<|gX (λ(k:Int) (r:Int) (S:AH)=>[(0,sl ao u.length an),(1,I m),(7,sl K ((fsL u).length) J),(8,sl (GG B) u.length u.length),(9,I r),(10,I k)]) (λk r S=>[(ru 5 (GG B) u.length u.length S),(ri 3 K ((fsL u).length) J (fsL u))]) (λk r S=>(-1<=k)/\(k<u.length)/\(S.length=u.length)/\(r=dQ u m (u.length-1-k).toNat)/\(∀t:Nat,(t:Int)<u.length-1-k->dQ u m t≠m)/\(∀j:Int,k<j->j<u.length->rd S j=rd (iW u m) j)) (λk r S=>(k+1).toNat) ?_ ?_
 ·exact⟨(u.length:Int)-1,0,List.replicate u.length (0:Int),⟨G,G,(by rw[df]),(by rw[show((u.length:Int)-1-((u.length:Int)-1)).toNat=0 by omega];rfl),(λt h=>G),(λj h1 L=>G)⟩,KP⟩
 intro k r S ⟨T,g,f9,b,H,y⟩;refine aA<|aD Z<|aR Z ?_ ?_<;>intro ap
 ·have d:0<=k:=G
  have p:=xY (l:=u) q D (u.length-1-k).toNat (λt Y=>H t G) G;rw[<-b] at p;have N:0<=m:=by have:=D.1;omega
  have M:=D.2;have o:r≠m:=by rw[b];exact P _ G
  refine aG<|aA<|aF<|aD Z<|aA<|aF<|aK 2 Z<|wy (Yl.f (pU Z Z) (o))<|aB Z<|aM Z<|aD Z<|aR Z ?_ ?_<;>intro R
  ·have rx:r-1=ixr m r:=by unfold ixr;split<;>omega
   have F:rd u (r-1)=rd u (ixr m (dQ u m (u.length-1-k).toNat)):=by rw[rx,<-b]
   have a:=uT (n:=u.length) p.1 p.2 o N M G;rw[<-rx] at a;have x:=TU (l:=u) a.1 a.2;have O:=OG (l:=u) q a.1 a.2;have C:rd (fsL u) (r-1)+1=dQ u m (u.length-1-(k-1)).toNat:=by rw[x];exact wB d g b rx
   exact aT 1 Z<|wS Z Z<|aB Z<|aK 4 Z<|wy (aC ai sz5 Z Z (am.c _))<|wy (aQ ay Z Z (am.c _))<|wy (aC ai sz5 Z Z (rdr 0 Z))<|bN (bJ 0 Z sz5 Z Z)<|aJ<|aT 2 Z<|wy (aC ak sz3 Z Z (rdr 1 Z))<|wy (aQ av Z Z (rdr 1 Z))<|wA Z Z<|aB Z<|aT 1 Z<|wS Z Z<|aB Z<|⟨k-1,(rd (fsL u) (r-1))+1,upd S k (rd u (r-1)),⟨G,G,(by rw[aW];exact f9),(C),(vP d g H b o),(vZ d g f9 y F)⟩,G,KP⟩
  have rx:r=ixr m r:=by unfold ixr;split<;>omega
  have F:rd u (r)=rd u (ixr m (dQ u m (u.length-1-k).toNat)):=by rw[rx,<-b]
  have a:=uT (n:=u.length) p.1 p.2 o N M G;rw[<-rx] at a;have x:=TU (l:=u) a.1 a.2;have O:=OG (l:=u) q a.1 a.2;have C:rd (fsL u) (r)+1=dQ u m (u.length-1-(k-1)).toNat:=by rw[x];exact wB d g b rx
  exact aG<|aK 4 Z<|wy (aC ai sz5 Z Z (am.c _))<|wy (aQ ay Z Z (am.c _))<|wy (aC ai sz5 Z Z (rdr 0 Z))<|bN (bJ 0 Z sz5 Z Z)<|aJ<|aT 2 Z<|wy (aC ak sz3 Z Z (rdr 1 Z))<|wy (aQ av Z Z (rdr 1 Z))<|wA Z Z<|aB Z<|aT 1 Z<|wS Z Z<|aB Z<|⟨k-1,(rd (fsL u) r)+1,upd S k (rd u r),⟨G,G,(by rw[aW];exact f9),(C),(vP d g H b o),(vZ d g f9 y F)⟩,G,KP⟩
 refine aP<|aA<|aK 2 Z<|wy (Yl.f (gD Z Z) (by
    have e:((u.length:Int)-1-k).toNat=u.length:=G
    rw[b,e,i.2.2]
    exact λh=>h Z)) ?_
 refine aJ<|aM Z<|aG<|aD Z<|aL [0] 99<|⟨_,_,Z,Z,?_⟩;obtain rfl:S=iW u m:=aEe f9 λj h1 L=>y j G L;exact⟨_,_,Z,Z⟩
theorem aPh (am:R4 w ao ar an u) (o:aI u) (P: ¬XK u m) (hN:u.length<=100000):
  CF 134 #[sl ao ar an,I m] w (λv R'=>v= .tuple #[sl none 0 0,I 5]):=by
 obtain rfl:=am.lenI;refine fn2 func134 Z Z Z ?_;have ua:=oG u;refine aD Z<|aD Z<|aA<|aK 3 Z<|bD 5 [0,1,6] 21 (.bool (decide ((100000<(u.length:Int))\/(m<(min (u.length:Int) 1))))) Z ?_ ?_
 ·refine bB 16 Z ?_ ?_<;>intro ap
  ·exact aB Z<|KP
  exact bH 2 Z<|aN Z Z<|wy (pQ Z Z)<|aB Z<|KP
 refine wm Z<|bD 4 [0,1,6] 26 (.bool (decide (((100000<(u.length:Int))\/(m<(min (u.length:Int) 1)))\/((u.length:Int)<m)))) Z ?_ ?_
 ·refine bB 22 Z ?_ ?_<;>intro R
  ·exact aB Z<|KP
  exact aB Z<|KP
 refine aJ<|aR Z ?_ ?_<;>intro T
 ·refine aD Z<|aS<|⟨_,_,Z,Z,?_⟩;rfl
 have q:XJ u m:=by unfold XJ;omega
 refine aG<|aK 1 Z<|bZ bPv Z (λw O=>aAy ((am.c _) w O) o G) λF D=>aB Z<|aK 1 Z<|aX (dU ai zb5 Z Z) λA=>bC (v:=sl (GG A) u.length u.length) Z<|aB Z<|aD Z<|aA<|aK 1 Z<|wS Z Z<|aB Z<|aF<|gX (λ(k:Int) (r:Int) (S:AH)=>[(0,sl ao u.length an),(1,I m),(7,sl F ((fsL u).length) D),(8,sl (GG A) u.length u.length),(9,I r),(10,I k)]) (λk r S=>[(ru 5 (GG A) u.length u.length S),(ri 3 F ((fsL u).length) D (fsL u))]) (λk r S=>(-1<=k)/\(k<u.length)/\(S.length=u.length)/\(r=dQ u m (u.length-1-k).toNat)/\(∀t:Nat,(t:Int)<u.length-1-k->dQ u m t≠m)/\(∀j:Int,k<j->j<u.length->rd S j=rd (iW u m) j)) (λk r S=>(k+1).toNat) ?_ ?_
 ·exact⟨(u.length:Int)-1,0,List.replicate u.length (0:Int),⟨G,G,(by rw[df]),(by rw[show((u.length:Int)-1-((u.length:Int)-1)).toNat=0 by omega];rfl),(λt h=>G),(λj h1 h2=>G)⟩,KP⟩
 intro k r S ⟨Y,g,f9,b,x,H⟩;refine aA<|aD Z<|aR Z ?_ ?_<;>intro X
 ·have d:0<=k:=G
  have i:=xY (l:=u) o q (u.length-1-k).toNat (λt N=>x t G) G;rw[<-b] at i;have K:0<=m:=by have:=q.1;omega
  have J:=q.2;refine aG<|aA<|aF<|aD Z<|aA<|aF<|aD Z<|aR Z ?_ ?_<;>intro M
  ·refine aD Z<|aL [] 99<|⟨_,_,Z,Z,?_⟩;rfl
  have p:r≠m:=M;refine aD Z<|aR Z ?_ ?_<;>intro pi
  ·have rx:r-1=ixr m r:=by unfold ixr;split<;>omega
   have C:rd u (r-1)=rd u (ixr m (dQ u m (u.length-1-k).toNat)):=by rw[rx,<-b]
   have a:=uT (n:=u.length) i.1 i.2 p K J G;rw[<-rx] at a;have y:=TU (l:=u) a.1 a.2;have L:=OG (l:=u) o a.1 a.2;have B:rd (fsL u) (r-1)+1=dQ u m (u.length-1-(k-1)).toNat:=by rw[y];exact wB d g b rx
   exact aT 1 Z<|wS Z Z<|aB Z<|aK 4 Z<|wy (aC ai sz5 Z Z (am.c _))<|wy (aQ ay Z Z (am.c _))<|wy (aC ai sz5 Z Z (rdr 0 Z))<|bN (bJ 0 Z sz5 Z Z)<|aJ<|aT 2 Z<|wy (aC ak sz3 Z Z (rdr 1 Z))<|wy (aQ av Z Z (rdr 1 Z))<|wA Z Z<|aB Z<|aT 1 Z<|wS Z Z<|aB Z<|⟨k-1,(rd (fsL u) (r-1))+1,upd S k (rd u (r-1)),⟨G,G,(by rw[aW];exact f9),(B),(vP d g x b p),(vZ d g f9 H C)⟩,G,KP⟩
  have rx:r=ixr m r:=by unfold ixr;split<;>omega
  have C:rd u (r)=rd u (ixr m (dQ u m (u.length-1-k).toNat)):=by rw[rx,<-b]
  have a:=uT (n:=u.length) i.1 i.2 p K J G;rw[<-rx] at a;have y:=TU (l:=u) a.1 a.2;have L:=OG (l:=u) o a.1 a.2;have B:rd (fsL u) (r)+1=dQ u m (u.length-1-(k-1)).toNat:=by rw[y];exact wB d g b rx
  exact aG<|aK 4 Z<|wy (aC ai sz5 Z Z (am.c _))<|wy (aQ ay Z Z (am.c _))<|wy (aC ai sz5 Z Z (rdr 0 Z))<|bN (bJ 0 Z sz5 Z Z)<|aJ<|aT 2 Z<|wy (aC ak sz3 Z Z (rdr 1 Z))<|wy (aQ av Z Z (rdr 1 Z))<|wA Z Z<|aB Z<|aT 1 Z<|wS Z Z<|aB Z<|⟨k-1,(rd (fsL u) r)+1,upd S k (rd u r),⟨G,G,(by rw[aW];exact f9),(B),(vP d g x b p),(vZ d g f9 H C)⟩,G,KP⟩
 refine aP<|aA<|aD Z<|aR Z ?_ ?_<;>intro Q
 ·refine aD Z<|aL [] 99<|⟨_,_,Z,Z,?_⟩;rfl
 refine aG<|aD Z<|aL [] 99<|⟨_,_,Z,Z,?_⟩
 exact absurd ⟨q,λt N=>x t G,by
    have e:((u.length:Int)-1-k).toNat=u.length:=G
    rw[e] at b
    omega⟩ P
end
section
variable {ws ls:AD} {w:AH}
theorem bEm {a b:RT}:lF a b<0↔cmpL a.1 b.1<0\/cmpL a.1 b.1=0/\a.2<b.2:=by
 unfold lF;have d:jO a.2 b.2<0↔a.2<b.2:=by unfold jO;split<;>(try split)<;>omega
 split
 ·omega
 rw[d];omega
def kw (c:AH):RT:=(jX c,gP c)
theorem bVg (u:AH):kw (lw u)=lT u:=rfl
structure CI (ws:AD) (ls:AD):Prop where
 perm:(ls.map kw).Perm (dL ws)
 sorted:ls.Pairwise λa b=>lF (kw a) (kw b)<=0
theorem CI.nil:CI [] []:=⟨.refl _, .nil⟩
theorem CI.skip (h:CI ws ls) (a:w.length=0):CI (ws++[w]) ls:=⟨by
 have e:dL [w]=[]:=by unfold dL;simp[a]
 rw[kY,e,ik]
 exact h.perm,h.sorted⟩
theorem CI.put {j:Int} (h:CI ws ls) (r:0<w.length) (y:0<=j) (h1:j<=ls.length) (n7: ∀q:Int,j<=q->q<ls.length->lF (kw (lw w)) (kw (rdl ls q))<0) (d5: ¬(0<j/\lF (kw (lw w)) (kw (rdl ls (j-1)))<0)):CI (ws++[w]) (ls.take j.toNat++[lw w]++ls.drop j.toNat):=by
 refine⟨?_,?_⟩
 ·rw [kY];have e:dL [w]=[lT w]:=by unfold dL;simp[r]
  rw[e,jc,jc];refine List.Perm.trans ?_ (Bf [lT w] h.perm);rw[dx];refine(ym _ ul).trans ?_;rw[<-dx,<-jc,ed];exact .refl _
 have hs:=h.sorted;have l:=hs;rw[<-ed j.toNat ls,kv] at l;obtain⟨u,v,x⟩:=l
 have o: ∀b∈ls.drop j.toNat,lF (kw (lw w)) (kw b)<0:=λb hb=>by
  obtain⟨k,hk,e⟩:=ib.1 hb;rw[az] at hk;have:=n7 (j+k) G G
  have d:rdl ls (j+k)=b:=by
   rw[<-e,xz];unfold rdl;rw[show(j+(k:Int)).toNat=j.toNat+k by omega,af,au G];rfl
  rwa[d] at this
 have m: ∀a∈ls.take j.toNat,lF (kw a) (kw (lw w))<=0:=λa i=>by
  obtain⟨k,hk,e⟩:=ib.1 i;rw[ax] at hk;have p:0<j:=G
  have hl:lF (kw (rdl ls (j-1))) (kw (lw w))<=0:=by
   rw[tV (kw (lw w))];have:=λc=>d5 ⟨p,c⟩;omega
  have d:rdl ls (j-1)=ls[(j-1).toNat]' G:=by
   unfold rdl;rw[af,au G];rfl
  rw[uf] at e;rcases gm k (j-1).toNat with g|g
  ·have:=dz.1 hs k (j-1).toNat G G g;rw[e,<-d] at this;exact JZ _ _ _ this hl
  obtain rfl:k=(j-1).toNat:=G
  rw[<-e,<-d];exact hl
 rw[dx,kv];refine⟨u,?_,?_⟩
 ·rw [ou,jb];exact⟨λb hb=>by have:=o b hb;omega,v⟩
 intro a i b hb;rw[ou,il] at hb;rcases hb with rfl|hb
 ·exact m a i
 exact x a i b hb
theorem CI.done {ls:AD} (h:CI ws ls) (hp: ∀c∈ls,0<c.length):ls=canon ws:=by
 have:ls.map kw=fQ ws:=EA h.perm (iv.2 h.sorted);unfold canon;rw[<-this,qp]
 conv=>lhs;rw[<-Ki ls]
 refine vg λc hc=> ?_;exact(vI (hp c hc)).symm
theorem aGk (ws:AD):(canon ws).map jX=(fQ ws).map Prod.fst/\(canon ws).map gP=(fQ ws).map Prod.snd:=by
 have:(canon ws).map kw=fQ ws:=by
  unfold canon;rw[qp]
  conv=>rhs;rw[<-Ki (fQ ws)]
  refine vg λr a=> ?_;obtain⟨w,_,b,rfl⟩:=rD a;show kw (kL (lT w))=lT w;rw[MC b,bVg]
 rw[<-this,qp,qp];exact⟨Z,Z⟩
theorem bEc {w:World} {ao:AF} {ar an:Nat} {u:AH} {tk:AF} {wk tz:Nat} {t:AH} (am:R4 w ao ar an u) (e:R4 w tk wk tz t) (j:aI u) (i:aI t) (hu:0<u.length/\u.length<=1000000) (g:0<t.length/\t.length<=1000000):
  CF 65 #[sl ao ar an,sl tk wk tz] w (λv R'=>v= .bool (decide (lF (kw u) (kw t)<0))):=by
 obtain rfl:=am.lenI;obtain rfl:=e.lenI;refine fn1 Tryz.func65 Z Z Z<|aD Z<|aK 1 Z<|dZ bGs Z (λw d=>TE ((am.c _) w d) cE hu.1 hu.2) ?_;have h:=nT (u:=u) G;refine aB Z<|aK 1 Z<|dZ bGs Z (λw d=>TE ((e.c _) w d) i g.1 g.2) ?_;have h:=nT (u:=t) G;refine aB Z<|aK 2 Z<|dZ aSr Z (λw d=>DC ((RdC.toI (am.c _) G) w d) ((RdC.toI (e.c _) G) w d))<|aB Z<|aK 3 Z<|wJ 8 [(33, .bool (decide (((cmpL ((u).take (rl u).toNat) ((t).take (rl t).toNat))<0)\/(((cmpL ((u).take (rl u).toNat) ((t).take (rl t).toNat))=0)/\((((u).length:Int)/rl u)<(((t).length:Int)/rl t))))))] [] ?_ ?_
 ·refine bB 25 Z ?_ ?_<;>intro ap
  ·exact aB Z<|KP
  refine bH 3 Z<|bD 4 [25] 32 (.bool (decide (((cmpL ((u).take (rl u).toNat) ((t).take (rl t).toNat))=0)/\((((u).length:Int)/rl u)<(((t).length:Int)/rl t))))) Z ?_ ?_
  ·refine bB 28 Z ?_ ?_<;>intro k
   ·exact aB Z<|KP
   exact aB Z<|KP
  exact aB Z<|KP
 refine aB Z<|aS<|⟨_,Z,?_⟩;exact bi Value.bool (sw.2 (bEm (a:=kw u) (b:=kw t)).symm)
theorem aNs {ls:AD} {w:AH} {j:Nat} (h: ∀c∈ls,aI c/\0<c.length/\c.length<=8000) (hb:aI w) (a:0<w.length/\w.length<=8000): ∀c∈ls.take j++[w]++ls.drop j,aI c/\0<c.length/\c.length<=8000:=λc hc=>by
 rcases ek.1 hc with hc|hc
 ·rcases ek.1 hc with hc|hc
  ·exact h c (ku hc)
  obtain rfl:=gz.1 hc;exact⟨hb,a⟩
 exact h c (lu hc)
theorem aBp {w:World} {bl:AF} {cg bm:Nat} {aq:AG} {ws:AD} (r:Rd w bl cg bm 1 aq) (B:SlW .u8 w aq ws) (hN:(∀w∈ws,w.length<=8000)/\ws.length<=100000):
  CF 32 #[sl bl cg bm] w (λv R'=> ∃(A:AF) (c:Nat) (vals:AG) (Rs:List Row),v=sl A vals.length c/\SlR .u8 Rs vals (canon ws)/\R'=⟨22,1,A,vals.length,c,vals,false⟩::Rs):=by
 obtain rfl:cg=ws.length:=by have:=r.len;have:=B.1;omega
 refine fn1 Tryz.func32 Z Z Z ?_;have In:=B.okB;refine aD Z<|wq<|dX ⟨22,1,none,0,0,[],false⟩<|aB Z<|aA<|aD Z<|aF<|IK (λ(i:Int) (A1:AF) (a:Nat) (c1:Nat) (vals:AG) (ls:AD) (Rs:List Row)=>[(0,sl bl ws.length bm),(3,sl A1 a c1),(4,I i)]) (λi A1 a c1 vals ls Rs=>(⟨22,1,A1,a,c1,vals,false⟩::Rs)) (λi A1 a c1 vals ls Rs=>(0<=i)/\(i<=ws.length)/\(a=vals.length)/\(SlR .u8 Rs vals ls)/\(∀c∈ls,aI c/\0<c.length/\c.length<=8000)/\(CI (ws.take i.toNat) ls)) (λi A1 a c1 vals ls Rs=>(ws.length-i).toNat) ?_ ?_
 ·exact⟨0,none,0,0,[],[],[],⟨G,G,(Z),(SlR.nilR _ _),(λc hc=>by cases hc),(CI.nil)⟩,KP⟩
 intro i A1 a c1 vals ls Rs ⟨k,gn,O,b,m,l⟩;have Oy:=b.1;have Od:ls.length<=i.toNat:=by have h1:=l.perm.length_eq;rw[bn] at h1;have C:=rW (ws.take i.toNat);rw[ax] at C;omega
 have s8:0<=i->i<ws.length->(rdl ws i).length<=8000:=λh h'=>hN.1 _ (iO h h');refine aA<|aD Z<|aR Z ?_ ?_<;>intro ap
 ·have Rr:=s8 k G;refine aG<|aA<|aF<|aA<|aK 2 Z<|wy (aC dm iZ Z Z (r.c _))<|B.elim (i:=i) G G (λcv cr sr yq l3 yy=> ?_);refine wy (kS ai Z Z Z (r.c _) sr)<|aB Z<|aR Z ?_ ?_<;>intro bp
  ·exact aP<|aT 1 Z<|wA Z Z<|aB Z<|⟨i+1,A1,a,c1,vals,ls,Rs,⟨G,G,(O),(b),(m),(by rw[gH k G];exact l.skip G)⟩,G,KP⟩
  refine aG<|aK 2 Z<|wy (aC dm iZ Z Z (r.c _))<|B.elim (i:=i) G G (λjp mj Y sq Lf Pg=> ?_);refine wy (kS ai Z Z Z (r.c _) Y)<|bZ cAr Z (λw D=>bSp ((sq.c _) w D) G) λe d=>aB Z<|aD Z<|aA<|aF<|iK (λ(j:Int)=>[(0,sl bl ws.length bm),(3,sl A1 a c1),(4,I i),(5,sl e ((lw (rdl ws i)).length) d),(6,I j)]) (λj=>((ru 5 e ((lw (rdl ws i)).length) d (lw (rdl ws i)))::⟨22,1,A1,a,c1,vals,false⟩::Rs)) (λj=>(0<=j)/\(j<=a)/\(∀q:Int,j<=q->q<ls.length->lF (kw (lw (rdl ws i))) (kw (rdl ls q))<0)) (λj=>j.toNat) ?_ ?_
  ·exact⟨(a:Int),⟨G,G,(λq h1 C=>G)⟩,KP⟩
  intro j ⟨J,v6,n7⟩;have H:0<j->aI (rdl ls (j-1))/\0<(rdl ls (j-1)).length/\(rdl ls (j-1)).length<=8000:=λh=>m _ (iO G G);refine aA<|aK 3 Z<|bD 8 [0,3,4,5,6] 36 (.bool (decide ((0<j)/\(lF (kw (lw (rdl ws i))) (kw (rdl ls (j-1)))<0)))) Z ?_ ?_
  ·refine bB 28 Z ?_ ?_<;>intro db
   ·refine bH 3 Z<|aN Z Z<|wS Z Z<|aN Z Z<|wy (aC dm iZ Z Z (rdr 1 Z))<|aN Z Z ?_;obtain⟨dy,ef,Pe,g9⟩:=b.at (i:=j-1) G G;refine wy (kS ai Z Z Z (rdr 1 Z) Pe)<|aN Z Z<|dZ cAq Z (λw D=>bEc ((rdr 0 Z) w D) ((λ_ h=>g9 _ _ _ (h.right (R':=[_,_]))) w D) (BK (In _ (iO k G)).1) (H G).1 (by rw[lD];omega) ⟨(H G).2.1,by have:=(H G).2.2;omega⟩) ?_;exact aB Z<|KP
   exact aB Z<|KP
  refine aJ<|aR Z ?_ ?_<;>intro P
  ·have y:=P;refine aG<|aF<|aT 1 Z<|wS Z Z<|aB Z ?_
   exact⟨j-1,⟨G,G,(λq h1 C=>by
     rcases bz q j with g|g
     ·obtain rfl:q=j-1:=G
      exact y.2
     exact n7 q g C)⟩,G,KP⟩
  have y:=P;refine aP<|bE mixed<|bF 1 2 Z<|wD 3 Z (dV dm iZ Z Z (rdr 1 Z))<|wD 5 Z (dI Z)<|bF 8 2 Z<|wD 10 Z (dE dm iZ Z Z)<|LZ 0 6 cA ?_ ?_
  ·refine PD 0 Z Z (jD [] dm pF Z Z Z Z) ?_;rintro _ _⟨Tx,rfl,rfl⟩;refine⟨.inr hrZ,?_⟩;refine LZ 4 6 cA ?_ ?_
   ·refine PD 4 Z Z (fO 0 Z Z dm yG Z Z Z Z Z (RdC.toV (h:=(j).toNat) (rdr 2 Z) cG) (b.take _).one (by dsimp only;omega)) ?_;rintro _ _⟨i6,qe,rfl,rfl⟩;refine⟨.inl cA,?_⟩;refine iA (v:=sl i6 (0+((j).toNat)) qe) Z<|wC 6 Z (jD [Value.slice e ((lw (rdl ws i)).length) d] dm pF Z Z Z Z) ?_;rintro _ _⟨Ka,rfl,rfl⟩;refine⟨.inr hrZ,?_⟩;refine wC 7 Z (fO 1 Z Z dm yG Z Z Z Z Z (rdr 0 Z) (by simp[Value.oneCell']) (by dsimp only;omega)) ?_;rintro _ _⟨qu,qv,rfl,rfl⟩;refine⟨.inl cA,?_⟩;refine iA (v:=sl qu ((0+((j).toNat))+1) qv) Z<|wC 11 Z (fO 1 Z Z dm yG Z Z Z Z Z (RdC.fromV (rdr 3 Z) cG) (b.drop _).one (by dsimp only;omega)) ?_;rintro _ _⟨T,X,rfl,rfl⟩;refine⟨.inl cA,?_⟩;exact iA (v:=sl T (((0+((j).toNat))+1)+(a-(j).toNat)) X) Z<|wD 12 Z (bY Z)<|wN<|aT 1 Z<|wA Z Z<|aB Z<|⟨i+1,T,((0+((j).toNat))+1)+(a-(j).toNat),X,((([])++((vals).take (j).toNat))++([Value.slice e ((lw (rdl ws i)).length) d]))++((vals).drop (j).toNat),([]++ls.take j.toNat++[lw (rdl ws i)]++ls.drop j.toNat),((ru 5 e ((lw (rdl ws i)).length) d (lw (rdl ws i)))::Rs),⟨G,G,(by simp only[aa,ax,az,dh,iw];omega),(((((SlR.nilR _ _).app (b.take _)).right [_]).push Z (λ_ _ _ h=>rdr 0 Z _ h)).app ((b.drop _).right [_])),(aNs m (BK (In _ (iO k G)).1) (by rw[lD];omega)),(by rw[gH k G];exact l.put G J G n7 y)⟩,G,SA,λ_ h=>h.selR (F:=[_,_,_,_]) (F':=[_,_]) [1,2] cC Z⟩
   refine PD 6 Z Z (jD [Value.slice e ((lw (rdl ws i)).length) d] dm pF Z Z Z Z) ?_;rintro _ _⟨Q,rfl,rfl⟩;refine⟨.inr hrZ,?_⟩;refine wC 4 Z (fO 1 Z Z dm yG Z Z Z Z Z (RdC.toV (h:=(j).toNat) (rdr 3 Z) cG) (b.take _).one (by dsimp only;omega)) ?_;rintro _ _⟨yb,zj,rfl,rfl⟩;refine⟨.inl cA,?_⟩;refine iA (v:=sl yb (0+((j).toNat)) zj) Z<|wC 7 Z (fO 1 Z Z dm yG Z Z Z Z Z (rdr 0 Z) (by simp[Value.oneCell']) (by dsimp only;omega)) ?_;rintro _ _⟨Tl,Ts,rfl,rfl⟩;refine⟨.inl cA,?_⟩;refine iA (v:=sl Tl ((0+((j).toNat))+1) Ts) Z<|wC 11 Z (fO 1 Z Z dm yG Z Z Z Z Z (RdC.fromV (rdr 3 Z) cG) (b.drop _).one (by dsimp only;omega)) ?_;rintro _ _⟨K,M,rfl,rfl⟩;refine⟨.inl cA,?_⟩;exact iA (v:=sl K (((0+((j).toNat))+1)+(a-(j).toNat)) M) Z<|wD 12 Z (bY Z)<|wN<|aT 1 Z<|wA Z Z<|aB Z<|⟨i+1,K,((0+((j).toNat))+1)+(a-(j).toNat),M,((([])++((vals).take (j).toNat))++([Value.slice e ((lw (rdl ws i)).length) d]))++((vals).drop (j).toNat),([]++ls.take j.toNat++[lw (rdl ws i)]++ls.drop j.toNat),((ru 5 e ((lw (rdl ws i)).length) d (lw (rdl ws i)))::Rs),⟨G,G,(by simp only[aa,ax,az,dh,iw];omega),(((((SlR.nilR _ _).app (b.take _)).right [_]).push Z (λ_ _ _ h=>rdr 0 Z _ h)).app ((b.drop _).right [_])),(aNs m (BK (In _ (iO k G)).1) (by rw[lD];omega)),(by rw[gH k G];exact l.put G J G n7 y)⟩,G,SA,λ_ h=>h.selR (F:=[_,_,_,_]) (F':=[_,_]) [1,2] cC Z⟩
  refine PD 6 Z Z (jD [Value.slice e ((lw (rdl ws i)).length) d] dm pF Z Z Z Z) ?_;rintro _ _⟨R,rfl,rfl⟩;refine⟨.inr hrZ,?_⟩;refine wC 0 Z (jD [] dm pF Z Z Z Z) ?_;rintro _ _⟨S,rfl,rfl⟩;refine⟨.inr hrZ,?_⟩;refine wC 4 Z (fO 0 Z Z dm yG Z Z Z Z Z (RdC.toV (h:=(j).toNat) (rdr 3 Z) cG) (b.take _).one (by dsimp only;omega)) ?_;rintro _ _⟨o,u,rfl,rfl⟩;refine⟨.inl cA,?_⟩;refine iA (v:=sl o (0+((j).toNat)) u) Z<|wC 7 Z (fO 0 Z Z dm yG Z Z Z Z Z (rdr 1 Z) (by simp[Value.oneCell']) (by dsimp only;omega)) ?_;rintro _ _⟨p,x,rfl,rfl⟩;refine⟨.inl cA,?_⟩;refine iA (v:=sl p ((0+((j).toNat))+1) x) Z<|wC 11 Z (fO 0 Z Z dm yG Z Z Z Z Z (RdC.fromV (rdr 3 Z) cG) (b.drop _).one (by dsimp only;omega)) ?_;rintro _ _⟨L,N,rfl,rfl⟩;refine⟨.inl cA,?_⟩;exact iA (v:=sl L (((0+((j).toNat))+1)+(a-(j).toNat)) N) Z<|wD 12 Z (bY Z)<|wN<|aT 1 Z<|wA Z Z<|aB Z<|⟨i+1,L,((0+((j).toNat))+1)+(a-(j).toNat),N,((([])++((vals).take (j).toNat))++([Value.slice e ((lw (rdl ws i)).length) d]))++((vals).drop (j).toNat),([]++ls.take j.toNat++[lw (rdl ws i)]++ls.drop j.toNat),((ru 5 e ((lw (rdl ws i)).length) d (lw (rdl ws i)))::Rs),⟨G,G,(by simp only[aa,ax,az,dh,iw];omega),(((((SlR.nilR _ _).app (b.take _)).right [_]).push Z (λ_ _ _ h=>rdr 0 Z _ h)).app ((b.drop _).right [_])),(aNs m (BK (In _ (iO k G)).1) (by rw[lD];omega)),(by rw[gH k G];exact l.put G J G n7 y)⟩,G,SA,λ_ h=>h.selR (F:=[_,_,_,_]) (F':=[_,_]) [0,2] cC Z⟩
 refine aP<|aD Z<|aS<|⟨_,Z,?_⟩;obtain rfl:i=ws.length:=G
 rw[bu,qa] at l;obtain rfl:ls=canon ws:=l.done λc hc=>(m c hc).2.1;subst O;exact⟨_,_,vals,Rs,Z,b,Z⟩
end
section
variable {ws:AD}
theorem QQ {β:Type} (f:AH->β) {ls:AD} {i:Int} (a:0<=i) (h1:i<ls.length):(ls.take (i+1).toNat).map f=(ls.take i.toNat).map f++[f (rdl ls i)]:=by
 rw[gH a h1,jc];rfl
theorem bNn {ws:AD} {M:Nat} (hb:OkB ws) (h: ∀w∈ws,w.length<=M) {c:AH} (hc:c∈canon ws):aI c/\0<c.length/\c.length<=M:=by
 have h1:=CO hb c hc;obtain⟨w,a,b,rfl⟩:=aAj hc;rw[lD] at*;exact⟨h1.1,b,h w a⟩
theorem aUv {w:World} {bl:AF} {cg bm:Nat} {aq:AG} {ws:AD} (D:Rd w bl cg bm 1 aq) (m:SlW .u8 w aq ws) (T:(∀w∈ws,w.length<=8000)/\ws.length<=100000):
  CF 59 #[sl bl cg bm] w (λv R'=> ∃(A:AF) (c:Nat) (A2:AF) (c2:Nat) (vals:AG) (Rs:List Row),v= .tuple #[sl A vals.length c,sl A2 ((fQ ws).map Prod.snd).length c2]/\SlR .u8 Rs vals ((fQ ws).map Prod.fst)/\R'=⟨22,1,A,vals.length,c,vals,false⟩::(ri 3 A2 (((fQ ws).map Prod.snd).length) c2 ((fQ ws).map Prod.snd))::Rs):=by
 obtain rfl:cg=ws.length:=by have:=D.len;have:=m.1;omega
 refine fn2 Tryz.func59 Z Z Z ?_;have In:=m.okB;refine aD Z<|aK 1 Z<|wa (aH bWa Z (Ct.fresh (λw j=>aBp ((D.c _) w j) (m.c j) cE))) ?_;rintro _ _⟨_,rfl,p,o,e,x,rfl,y,rfl⟩;have Ok:=y.1;refine gZ (R1:=(⟨22,1,p,e.length,o,e,false⟩::x)) (Sub.refl _) (λ_ h=>Hp.toTail0 (X:=[_]) (Y:=[]) h)<|aB Z<|wq<|dX ⟨22,1,none,0,0,[],false⟩<|aB Z<|wq<|dX (ri 3 none 0 0 ([]))<|aB Z<|aA<|aD Z<|aF<|zU (λ(i:Int) (A1:AF) (a:Nat) (c1:Nat) (vals:AG) (ls:AD) (A2:AF) (b:Nat) (c2:Nat) (ts:AH)=>[(4,sl p e.length o),(5,sl A1 a c1),(6,sl A2 b c2),(7,I i)]) (λi A1 a c1 vals ls A2 b c2 ts=>((ri 3 A2 b c2 ts)::⟨22,1,A1,a,c1,vals,false⟩::⟨22,1,p,e.length,o,e,false⟩::x)) (λi A1 a c1 vals ls A2 b c2 ts=>(0<=i)/\(i<=(canon ws).length)/\(a=vals.length)/\(b=ts.length)/\(SlR .u8 x vals ls)/\(ls=((canon ws).take i.toNat).map jX)/\(ts=((canon ws).take i.toNat).map gP)) (λi A1 a c1 vals ls A2 b c2 ts=>((canon ws).length-i).toNat) ?_ ?_
 ·exact⟨0,none,0,0,[],[],none,0,0,[],⟨G,G,(Z),(Z),(SlR.nilR _ _),(Z),(Z)⟩,KP⟩
 intro i A1 a c1 vals ls A2 b c2 ts ⟨l,gn,H,Q,r,k,g⟩;have ya:=bi List.length k;rw[bn,ax] at ya;have ci:=bi List.length g;rw[bn,ax] at ci;have Oy:=r.1;have Od:=aBn ws;have q:0<=i->i<(canon ws).length->aI (rdl (canon ws) i)/\0<(rdl (canon ws) i).length/\(rdl (canon ws) i).length<=8000:=λh S=>bNn In T.1 (iO h S);refine aA<|aD Z<|aR Z ?_ ?_<;>intro ap
 ·have C:=q l G;refine aG<|aA<|aF<|aK 2 Z<|wy (aC dm iZ Z Z (rdr 2 Z)) ?_;obtain⟨P,N,d,R⟩:=y.at (i:=i) G G;refine wy (kS ai Z Z Z (rdr 2 Z) d)<|dZ bGs Z (λw j=>TE ((λ_ h=>R _ _ _ (h.right (R':=[_,_,_]))) w j) C.1 C.2.1 G) ?_;have O:=nT (u:=(rdl (canon ws) i)) G;refine aB Z<|aT 2 Z<|aX (jD [Value.slice P ((rl (rdl (canon ws) i)).toNat) N] dm pF Z Z Z Z) λuc=>dG (fO 2 Z Z dm yG Z Z Z Z Z (rdr 0 Z) (by simp[Value.oneCell']) (by dsimp only;omega)) λJ L=> ?_;exact bC (v:=sl J (a+1) L) Z<|bH 2 Z<|aX (bG .i64 [(((rdl (canon ws) i)).length:Int)/rl (rdl (canon ws) i)] ak zs3 Z Z Z) λzr=>dG (aO 2 Z ak zb3 Z Z Z (rdr 0 Z)) λK M=>bC (v:=sl K (b+1) M) Z<|aB Z<|aT 1 Z<|wA Z Z<|aB Z<|⟨i+1,J,a+1,L,vals++([Value.slice P ((rl (rdl (canon ws) i)).toNat) N]),(ls++[(rdl (canon ws) i).take (rl (rdl (canon ws) i)).toNat]),K,b+1,M,ts++([(((rdl (canon ws) i)).length:Int)/rl (rdl (canon ws) i)]),⟨G,G,(by rw[aa,H];rfl),(by rw[aa,Q];rfl),(r.push (by rw[ax];omega) (λB w0=>RdC.toI (R B w0) G)),(by rw[QQ jX l G,<-k];rfl),(by rw[QQ gP l G,<-g];rfl)⟩,G,SA,λ_ h=>h.selR (F:=[_,_,_,_,_]) (F':=[_,_,_]) [2,3,4] cC Z⟩
 refine aP<|aD Z<|aL [1,0] 3<|⟨_,_,Z,Z,?_⟩;have io:=aGk ws;rw[bg G] at k g;obtain rfl:ls=(fQ ws).map Prod.fst:=k.trans io.1;obtain rfl:ts=(fQ ws).map Prod.snd:=g.trans io.2;subst H;subst Q;exact⟨_,_,_,_,vals,_,Z,r,Z⟩
theorem bLl:OkB []:=λl hl=>by cases hl
end
section
variable {B ar an cq:Nat} {w0:World} {R:List Row} {so od sz:Int} {ao Aq:AF} {u:AH}
theorem LD {a:Int} (d:0<=a/\a<=3) (hp:(0<=so/\so<=2)/\(od=0\/od=1)/\(1<=sz/\sz<=16777216)):
  CT 47 #[.agg #[I a,I so,I od,I sz]] B w0 (R) (λv R'=>v=bt/\R'=R):=by
 refine fn1 Tryz.func47 Z Z Z<|wq<|aX (dC (sz:=4) Z Z) λb=>aB Z<|cB [0] 2 Z<|wy (Yl.t (pG Z Z) G)<|iC [0] 3 Z<|aN Z Z<|wy (Yl.t (PC Z Z) G)<|iC [0] 4 Z<|aN Z Z<|wy (Yl.t (pG Z Z) G)<|iC [0] 4 Z<|aN Z Z<|wy (Yl.t (fD Z Z) G)<|iC [0] 6 Z<|bD 4 [1,21] 29 (.bool (decide ((od=0)\/(od=1)))) Z ?_ ?_
 ·refine bB 25 Z ?_ ?_<;>intro ap
  ·exact aB Z<|KP
  exact sJ [0] Z<|KP
 exact rO 29 Z (hp.2.1)<|iC [0] 4 Z<|aN Z Z<|wy (Yl.t (pG Z Z) G)<|iC [0] 4 Z<|aN Z Z<|wy (Yl.t (PC Z Z) G)<|aB Z<|aL [] 1<|⟨_,Z,Z,Z⟩
theorem wV {A:AF} {c sz:Nat}:RdC B w0 R A 0 c sz []:=λ_ _=>⟨cD,G,G,λj v a=>by simp at a⟩
theorem aLh (am:R6 B w0 R ao ar an u) (ce:ar=u.length) (a:aI u) (d:u.length<=100000) (hp:(0<=so/\so<=2)/\(od=0\/od=1)/\(1<=sz/\sz<=16777216)):
  CT 54 #[sl ao ar an,sl Aq 0 cq, .agg #[I 0,I so,I od,I sz]] B w0 (R) (λv R'=>v= .tuple #[sl none 0 0,sl ao ar an]/\R'=R):=by
 subst ce;refine fn2 Io Z Z Z<|wq<|aX (dC (sz:=4) Z Z) λb=>aB Z<|aA<|lK [0] Z<|aF<|wq<|wQ Z Z<|aB Z<|aM Z<|wq<|wQ Z Z<|aB Z<|aM Z<|wq<|wQ Z Z<|aB Z<|aM Z<|aG<|aD Z<|aL [] 1<|⟨_,_,Z,Z,?_⟩;exact⟨Z,Z⟩
theorem aLg (am:R6 B w0 R ao ar an u) (ce:ar=u.length) (g:aI u) (j:u.length<=100000) (hp:(0<=so/\so<=2)/\(od=0\/od=1)/\(1<=sz/\sz<=16777216)):
  CT 54 #[sl ao ar an,sl Aq 0 cq, .agg #[I 1,I so,I od,I sz]] B w0 (R) (λv R'=> ∃(a:AH) (A1:AF) (c1:Nat) (A2:AF) (c2:Nat),v= .tuple #[sl A1 (aU (zat a)).length c1,sl A2 (ofL u a).length c2]/\a.Perm (iota u.length)/\a.Pairwise (dA u)/\R'=(ru 5 A1 ((aU (zat a)).length) c1 (aU (zat a)))::(ru 5 A2 ((ofL u a).length) c2 (ofL u a))::R):=by
 subst ce;refine fn2 Io Z Z Z<|wq<|aX (dC (sz:=4) Z Z) λl=>aB Z<|aA<|lK [0] Z<|aF<|wq<|wR Z Z<|aB Z<|bA Z<|aA<|bE mixed<|fU [0] 1 3 Z<|wC 0 Z (aH cAb Z (Ct.fresh (λw d=>aJl))) ?_;rintro _ _⟨_,rfl,r,rfl,rfl⟩;refine⟨.inr hrZ,?_⟩;refine wC 4 Z (aH bZf Z ((PS (RdC.right am [_]) (by first|rfl|(simp;done)|omega) g j cC))) ?_;rintro _ _⟨a,y,A,i,d0,d1,d2,rfl,e,rfl⟩;obtain⟨_,b⟩:=e.resolve_left (λh=>absurd h.1 G);refine⟨.inl cA,?_⟩;refine bF 5 5 Z<|wN<|aK 2 Z<|bZ bZe Z (λw d=>bTv ((RdC.right am [_,_,_]) w d) ((rdr 0 Z) w d) b.2.1 G) λx q=>aB Z<|aK 1 Z<|bZ BX Z (λw d=>jA (by have i:=pK b.2.1 b.2.2.1;have m:=MG (s:=u) (k:=0) G;omega)) λp o=> ?_;refine aB Z<|aL [0,1] 5<|⟨_,_,Z,Z,?_⟩;exact⟨a,_,_,_,_,Z,b.2.1,b.2.2.1,Z⟩
theorem aLf (am:R6 B w0 R ao ar an u) (ce:ar=u.length) (b:aI u) (d:u.length<=100000) (hp:(0<=so/\so<=2)/\(od=0\/od=1)/\(1<=sz/\sz<=16777216)):
  CT 54 #[sl ao ar an,sl Aq 0 cq, .agg #[I 2,I so,I od,I sz]] B w0 (R) (λv R'=> ∃(l1:AE) (A1:AF) (c1:Nat),v= .tuple #[sl none 0 0,sl A1 l1.length c1]/\l1.Perm (iB (bws u) (bws u).length)/\l1.Pairwise (kP (bws u))/\R'=(ru 5 A1 l1.length c1 (l1.map (lastB (bws u))))::R):=by
 subst ce;refine fn2 Io Z Z Z<|wq<|aX (dC (sz:=4) Z Z) λg=>aB Z<|aA<|lK [0] Z<|aF<|wq<|wQ Z Z<|aB Z<|aM Z<|wq<|wR Z Z<|aB Z<|bA Z<|aK 1 Z<|wa (aH bZd Z (Ct.fresh (λw e=>aPf ((RdC.right am [_]) w e) b d))) ?_;rintro _ _⟨_,rfl,l1,h,i,rfl,d7,a,rfl⟩;refine aB Z<|aD Z<|aL [0] 2<|⟨_,_,Z,Z,?_⟩;exact⟨l1,_,_,Z,d7,a,Z⟩
theorem aYd (am:R6 B w0 R ao ar an u) (ce:ar=u.length) (g:aI u) (k:u.length<=100000) (hp:(0<=so/\so<=2)/\(od=0\/od=1)/\(1<=sz/\sz<=16777216)):
  CT 27 #[sl ao ar an,sl Aq 0 cq, .agg #[I 0,I so,I od,I sz]] B w0 (R) (λv R'=> ∃(A1:AF) (c1:Nat),v=sl A1 (cZ 0 od u).length c1/\R'=(ru 5 A1 ((cZ 0 od u).length) c1 (cZ 0 od u))::R):=by
 subst ce;refine fn1 Im Z Z Z<|wq<|aX (dC (sz:=4) Z Z) λA=>aB Z<|aK 2 Z<|wy (bO (vs:=[I 0,I so,I od,I sz]) (rdr 0 Z) jd Z fC Z Z (ah Z) Z)<|dD (aH bMy Z (aLh (RdC.right am [_]) (by first|rfl|(simp;done)|omega) g k hp)) ?_;have H:(u).length=u.length:=rfl;have d6:=qX (b:=u) (o:=od) g;have J:=cK 2 (u.length:Int) G;have y:=cK 2 ((bT u od).length:Int) G;refine aB Z<|cB [0] 3 Z<|bZ bGb Z (λw a=>xK ((RdC.right am [_]) w a) g hp.2.1 G) λi j=>aB Z<|aK 2 Z<|bZ BX Z (λw a=>jA G) λjp p=>bH 3 Z<|bZ BX Z (λw a=>jA G) λm h=>wa (aH aXe Z (Ct.fresh (λw a=>uB))) ?_;rintro _ _⟨_,rfl,L,rfl,rfl⟩;refine wm Z<|aX (jD [Value.slice ao u.length an] dm pF Z Z Z Z) λM=>dD (aH aXd Z (Ct.at 1 Z (uA (ls:=[u]) (.inl ⟨Z,Z,df ..,G⟩) (rdr 0 rfl) rfl (HZ.one (l:=u) (RdC.right am [_,_,_,_,_]) g (by first|rfl|simp|(simp[upd];done))) (Big.one (by first|omega|decide|simp))))) ?_;refine bZ bMx Z (λw a=>KG ⟨by unfold bv;omega,by unfold bv;have:=(lG ([u]).flatten).isLt;omega⟩) λq r=> ?_;refine wm Z<|aX (jD [Value.slice jp ((aU (u.length:Int)).length) p,Value.slice none 0 0,Value.slice m ((aU (((bT u od).length:Nat):Int)).length) h,Value.slice q 4 r,Value.slice i ((bT u od).length) j] dm pF Z Z Z Z) λK=>bZ FH Z (λw a=>jJ ((rdr 0 Z) w a) ((((((gI _ _).snoc ((rdr 5 Z) w a) (λx d=>eQ ((dM G) x d)) G).snoc ((TT _) w a) (λx d=>by cases d) cC).snoc ((rdr 4 rfl) w a) (λx d=>eQ ((dM G) x d)) G).snoc ((rdr 1 rfl) w a) (λx d=>eQ ((jQ _) x d)) (by show(4:Nat)<=_;decide)).snoc ((rdr 6 rfl) w a) (λx d=>eQ ((lQ _ _) x d)) G) ⟨by simp only[qo,ig,je,ou,jg,ug,uy,Gx,iw];have C:(fT (bv (lG ([u]).flatten))).length=4:=rfl;omega,cD⟩) λD F=> ?_;refine aB Z<|aL [0] 9<|⟨_,Z,?_⟩
 have e:([aU (u.length:Int),[],aU (((bT (u) od).length:Nat):Int),fT (bv (lG ([u]).flatten)),bT (u) od]).flatten=cZ 0 od u:=by
  unfold cZ;rw[RX (t:=0) (u:=u) cC cC];simp
 rw[<-e];exact⟨_,_,Z,Z⟩
theorem aYc (am:R6 B w0 R ao ar an u) (ce:ar=u.length) (i:aI u) (q:u.length<=100000) (hp:(0<=so/\so<=2)/\(od=0\/od=1)/\(1<=sz/\sz<=16777216)):
  CT 27 #[sl ao ar an,sl Aq 0 cq, .agg #[I 1,I so,I od,I sz]] B w0 (R) (λv R'=> ∃(A1:AF) (c1:Nat),v=sl A1 (cZ 1 od u).length c1/\R'=(ru 5 A1 ((cZ 1 od u).length) c1 (cZ 1 od u))::R):=by
 subst ce;refine fn1 Im Z Z Z<|wq<|aX (dC (sz:=4) Z Z) λN=>aB Z<|aK 2 Z<|wy (bO (vs:=[I 1,I so,I od,I sz]) (rdr 0 Z) jd Z fC Z Z (ah Z) Z)<|wa (aH bMy Z (aLg (RdC.right am [_]) (by first|rfl|(simp;done)|omega) i q hp)) ?_;rintro _ _⟨a,m,p,jp,S,rfl,h,es,rfl⟩;have X:(ofL u a).length=u.length:=(by rw[(UT h es).length_eq]);have d6:=qX (b:=ofL u a) (o:=od) (EH i h);have Y:=cK 2 (u.length:Int) G;have K:=cK 2 ((bT (ofL u a) od).length:Int) G;have r:0<=zat a/\zat a<=100000:=by have O:=pK h es;have P:=MG (s:=u) (k:=0) G;omega
 have yk:=cK 2 (zat a) G;refine aB Z<|cB [2] 3 Z<|bZ bGb Z (λw d=>xK ((rdr 1 Z) w d) (EH i h) hp.2.1 G) λy j=>aB Z<|aK 2 Z<|bZ BX Z (λw d=>jA G) λH C=>bH 3 Z<|bZ BX Z (λw d=>jA G) λA J=>wa (aH aXe Z (Ct.fresh (λw d=>uB))) ?_;rintro _ _⟨_,rfl,M,rfl,rfl⟩;refine wm Z<|aX (jD [Value.slice ao u.length an] dm pF Z Z Z Z) λL=>dD (aH aXd Z (Ct.at 1 Z (uA (ls:=[u]) (.inl ⟨Z,Z,df ..,G⟩) (rdr 0 rfl) rfl (HZ.one (l:=u) (RdC.right am [_,_,_,_,_,_,_]) i (by first|rfl|simp|(simp[upd];done))) (Big.one (by first|omega|decide|simp))))) ?_;refine bZ bMx Z (λw d=>KG ⟨by unfold bv;omega,by unfold bv;have:=(lG ([u]).flatten).isLt;omega⟩) λD F=> ?_;refine wm Z<|aX (jD [Value.slice H ((aU (u.length:Int)).length) C,Value.slice m ((aU (zat a)).length) p,Value.slice A ((aU (((bT (ofL u a) od).length:Nat):Int)).length) J,Value.slice D 4 F,Value.slice y ((bT (ofL u a) od).length) j] dm pF Z Z Z Z) λT=>bZ FH Z (λw d=>jJ ((rdr 0 Z) w d) ((((((gI _ _).snoc ((rdr 5 Z) w d) (λx g=>eQ ((dM G) x g)) G).snoc ((rdr 7 Z) w d) (λx g=>eQ ((dM r.1) x g)) G).snoc ((rdr 4 Z) w d) (λx g=>eQ ((dM G) x g)) G).snoc ((rdr 1 Z) w d) (λx g=>eQ ((jQ _) x g)) (by show(4:Nat)<=_;decide)).snoc ((rdr 6 Z) w d) (λx g=>eQ ((lQ _ _) x g)) G) ⟨by simp only[qo,ig,je,ou,jg,ug,uy,Gx,iw];have Q:(fT (bv (lG ([u]).flatten))).length=4:=rfl;omega,cD⟩) λtc tg=> ?_;refine aB Z<|aL [0] 11<|⟨_,Z,?_⟩
 have e:([aU (u.length:Int),aU (zat a),aU (((bT (ofL u a) od).length:Nat):Int),fT (bv (lG ([u]).flatten)),bT (ofL u a) od]).flatten=cZ 1 od u:=by
  unfold cZ;rw[RY h es];simp
 rw[<-e];exact⟨_,_,Z,Z⟩
theorem aYb (am:R6 B w0 R ao ar an u) (ce:ar=u.length) (g:aI u) (j:u.length<=100000) (hp:(0<=so/\so<=2)/\(od=0\/od=1)/\(1<=sz/\sz<=16777216)):
  CT 27 #[sl ao ar an,sl Aq 0 cq, .agg #[I 2,I so,I od,I sz]] B w0 (R) (λv R'=> ∃(A1:AF) (c1:Nat),v=sl A1 (cZ 2 od u).length c1/\R'=(ru 5 A1 ((cZ 2 od u).length) c1 (cZ 2 od u))::R):=by
 subst ce;refine fn1 Im Z Z Z<|wq<|aX (dC (sz:=4) Z Z) λD=>aB Z<|aK 2 Z<|wy (bO (vs:=[I 2,I so,I od,I sz]) (rdr 0 Z) jd Z fC Z Z (ah Z) Z)<|wa (aH bMy Z (aLf (RdC.right am [_]) (by first|rfl|(simp;done)|omega) g j hp)) ?_;rintro _ _⟨l1,F,H,rfl,d7,h,rfl⟩;have K:(l1.map (lastB (bws u))).length=u.length:=(by rw[bn,LC d7]);have d6:=qX (b:=l1.map (lastB (bws u))) (o:=od) (rZ d7 (by rw[vC];exact g));have N:=cK 2 (u.length:Int) G;have y:=cK 2 ((bT (l1.map (lastB (bws u))) od).length:Int) G;refine aB Z<|cB [1] 3 Z<|bZ bGb Z (λw a=>xK ((rdr 0 Z) w a) (rZ d7 (by rw[vC];exact g)) hp.2.1 G) λjp m=> ?_;refine aB Z<|aK 2 Z<|bZ BX Z (λw a=>jA G) λk i=>bH 3 Z<|bZ BX Z (λw a=>jA G) λr p=>wa (aH aXe Z (Ct.fresh (λw a=>uB))) ?_;rintro _ _⟨_,rfl,O,rfl,rfl⟩;refine wm Z<|aX (jD [Value.slice ao u.length an] dm pF Z Z Z Z) λA=>dD (aH aXd Z (Ct.at 1 Z (uA (ls:=[u]) (.inl ⟨Z,Z,df ..,G⟩) (rdr 0 rfl) rfl (HZ.one (l:=u) (RdC.right am [_,_,_,_,_,_]) g (by first|rfl|simp|(simp[upd];done))) (Big.one (by first|omega|decide|simp))))) ?_;refine bZ bMx Z (λw a=>KG ⟨by unfold bv;omega,by unfold bv;have:=(lG ([u]).flatten).isLt;omega⟩) λi5 q=> ?_;refine wm Z<|aX (jD [Value.slice k ((aU (u.length:Int)).length) i,Value.slice none 0 0,Value.slice r ((aU (((bT (l1.map (lastB (bws u))) od).length:Nat):Int)).length) p,Value.slice i5 4 q,Value.slice jp ((bT (l1.map (lastB (bws u))) od).length) m] dm pF Z Z Z Z) λC=>bZ FH Z (λw a=>jJ ((rdr 0 Z) w a) ((((((gI _ _).snoc ((rdr 5 Z) w a) (λx d=>eQ ((dM G) x d)) G).snoc ((TT _) w a) (λx d=>by cases d) cC).snoc ((rdr 4 rfl) w a) (λx d=>eQ ((dM G) x d)) G).snoc ((rdr 1 rfl) w a) (λx d=>eQ ((jQ _) x d)) (by show(4:Nat)<=_;decide)).snoc ((rdr 6 rfl) w a) (λx d=>eQ ((lQ _ _) x d)) G) ⟨by simp only[qo,ig,je,ou,jg,ug,uy,Gx,iw];have J:(fT (bv (lG ([u]).flatten))).length=4:=rfl;omega,cD⟩) λL M=> ?_;refine aB Z<|aL [0] 10<|⟨_,Z,?_⟩
 have e:([aU (u.length:Int),[],aU (((bT (l1.map (lastB (bws u))) od).length:Nat):Int),fT (bv (lG ([u]).flatten)),bT (l1.map (lastB (bws u))) od]).flatten=cZ 2 od u:=by
  unfold cZ;rw[RZ d7 h];simp
 rw[<-e];exact⟨_,_,Z,Z⟩
end
theorem VI {B:Nat} {w0:World} {R:List Row} {g:Nat} {ao:AF} {ar an:Nat} {u:AH} {k:Int} (am:R6 B w0 R ao ar an u) (ce:ar=u.length):
  CT 39 #[PG g] B w0 ((rc 80 1 g [sl ao ar an])::R) (λv R'=>v=I (u.length:Int)/\R'=(rc 80 1 g [sl ao ar an])::R):=by
 subst ce;exact fn1 Tryz.func39 Z Z Z<|aD Z<|aA<|aK 1 Z<|wy (kT underlying47 Z Z)<|aJ<|aM Z<|aG<|lK [0] Z<|aS<|⟨_,Z,Z,Z⟩
section
variable {B gc ar an:Nat} {w0:World} {X R0:List Row} {ao:AF} {u:AH}
theorem IY {k:Int} (a t:AH) (am:R6 B w0 R0 ao ar an u) (ce:ar=u.length) (h:u.length<=1000000) (hk:k=(a.length:Int)) (hu:u=a++t):
  CT 69 #[PG gc,I k] B w0 ((rc 80 1 gc [sl ao ar an])::(X++R0)) (λv R'=> ∃(A1:AF) (c1:Nat),∃(b:AF) (d:Nat),RdC B w0 R0 b (t).length d 1 (ints .u8 (t))/\v= .tuple #[sl A1 a.length c1,bt]/\R'=(ru 5 A1 a.length c1 a)::(rc 80 1 gc [sl b ((t).length) d])::(X++R0)):=
 (aLm (R:=X++R0) (k:=k) (RdC.right am X) ce h (by rw[hu,aa];omega)).mono λv R' m=>by
  obtain⟨A1,c1,rfl,rfl⟩:=m;have g:k.toNat=a.length:=G
  have e:=RdC.fromI (l:=a.length) am (by rw[ce,hu,aa];omega);have hl:ar-a.length=t.length:=by rw[ce,hu,aa];omega
  have i:u.drop a.length=t:=by rw[hu];exact List.drop_left
  have j:u.take a.length=a:=by rw[hu];exact Cg
  rw[hl,i] at e;rw[g,hl,j];exact⟨_,_,_,_,e,Z,Z⟩
theorem aIl {x:Int} {t:AH} (am:R6 B w0 R0 ao ar an u) (ce:ar=u.length) (i:u.length<=1000000) (l:0<=x/\x<4294967296) (hu:u=fT x++t):
  CT 132 #[PG gc] B w0 ((rc 80 1 gc [sl ao ar an])::(X++R0)) (λv R'=> ∃(a:AF) (b:Nat),RdC B w0 R0 a (t).length b 1 (ints .u8 (t))/\v= .tuple #[.int .u32 x,bt]/\R'=(rc 80 1 gc [sl a ((t).length) b])::(X++R0)):=by
 subst ce;have w:=(jQ x).rd 0;have r:=(jQ x).rd 1;have y:=(jQ x).rd 2;have q:=(jQ x).rd 3;refine fn2 Tryz.func132 Z Z Z<|aD Z<|aK 1 Z<|wa (aH XZ Z ((IY (X:=([]++X)) (R0:=R0) (fT x) (t) am Z i Z hu))) ?_;rintro _ _⟨d,e,h,g,o,rfl,rfl⟩;refine gW (R1:=((ru 5 d 4 e (fT x))::(rc 80 1 gc [sl h ((t).length) g])::(X++R0))) Z<|bC (v:= .tuple #[sl d 4 e,bt]) Z<|aB Z<|aA<|aD Z<|aM Z<|aG<|aD Z<|aA<|aD Z<|aF<|kI 5<|eD<|wq<|wy (Yl.t (fD Z Z) cC)<|aJ<|aA<|bA Z<|aG<|aA<|aF<|aK 1 Z<|wy (aC ai sz5 Z Z (rdr 0 Z))<|wy (aQ ay Z Z (rdr 0 Z))<|aB Z<|aT 2 Z<|wy (rT ay qm Z G)<|wm Z<|wy (Yl.is (jG Z Z) (Z:_=Value.int .i64 0)) ?_;refine wy (yH (k:=0) (m:=1) Z Z Z G Z)<|wy (FX (p:=(rd (fT x) 0)) (m:=1) 0 Z Z Z G G)<|aB Z<|bK<|wy (Yl.is (dJ Z Z) (Z:_=Value.int .i64 1))<|aB Z<|eD<|wq<|wy (Yl.t (fD Z Z) cC)<|aJ<|aA<|bA Z<|aG<|aA<|aF<|aK 1 Z<|wy (aC ai sz5 Z Z (rdr 0 Z))<|wy (aQ ay Z Z (rdr 0 Z))<|aB Z<|aT 2 Z<|wy (rT ay qm Z G)<|wm Z<|wy (Yl.is (jG Z Z) (Z:_=Value.int .i64 8))<|wy (yH (k:=8) (m:=256) Z Z Z G Z)<|wy (FX (p:=(rd (fT x) 1)) (m:=256) 8 Z Z Z G G)<|aB Z<|bK<|wy (Yl.is (dJ Z Z) (Z:_=Value.int .i64 2))<|aB Z ?_;refine eD<|wq<|wy (Yl.t (fD Z Z) cC)<|aJ<|aA<|bA Z<|aG<|aA<|aF<|aK 1 Z<|wy (aC ai sz5 Z Z (rdr 0 Z))<|wy (aQ ay Z Z (rdr 0 Z))<|aB Z<|aT 2 Z<|wy (rT ay qm Z G)<|wm Z<|wy (Yl.is (jG Z Z) (Z:_=Value.int .i64 16))<|wy (yH (k:=16) (m:=65536) Z Z Z G Z)<|wy (FX (p:=(rd (fT x) 2)) (m:=65536) 16 Z Z Z G G)<|aB Z<|bK<|wy (Yl.is (dJ Z Z) (Z:_=Value.int .i64 3))<|aB Z<|eD<|wq<|wy (Yl.t (fD Z Z) cC)<|aJ<|aA ?_;refine bA Z<|aG<|aA<|aF<|aK 1 Z<|wy (aC ai sz5 Z Z (rdr 0 Z))<|wy (aQ ay Z Z (rdr 0 Z))<|aB Z<|aT 2 Z<|wy (rT ay qm Z G)<|wm Z<|wy (Yl.is (jG Z Z) (Z:_=Value.int .i64 24))<|wy (yH (k:=24) (m:=16777216) Z Z Z G Z)<|wy (FX (p:=(rd (fT x) 3)) (m:=16777216) 24 Z Z Z G G)<|aB Z<|bK<|wy (Yl.is (dJ Z Z) (Z:_=Value.int .i64 4))<|aB Z<|eD<|wq<|wy (Yl.f (fD Z Z) cC)<|aJ<|aA<|aM Z<|aP<|aD Z ?_;have j:0+(rd (fT x) 0)*1+(rd (fT x) 1)*256+(rd (fT x) 2)*65536+(rd (fT x) 3)*16777216=x:=bMq l;refine aL [1] 2<|⟨_,_,Z,Z,?_⟩;rw[j];exact⟨_,_,o,Z,Z⟩
end
section
variable {w w0:World} {dt Aq ao:AF} {dq B cq ar an:Nat} {f:Value} {R:List Row} {u:AH} {so od sz:Int}
theorem aWl:
  CF 89 #[sl dt 0 dq,f] w (λv R'=>v=I (-1)):=by
 refine fn1 Ko Z Z Z<|aD Z<|aA<|aD Z<|aF<|kI 1<|eD<|wq<|wy (Yl.f (fD Z Z) cC)<|aJ<|aA<|aM Z<|aP<|aD Z<|aS<|⟨_,Z,?_⟩;rfl
theorem uY:
  CF 48 #[sl dt 0 dq,f] w (λv R'=>v=bf):=by
 refine fn1 Km Z Z Z<|aD Z<|aK 2 Z<|dZ bTh Z (λw a=>aWl)<|wy (Yl.f (pG Z Z))<|aB Z<|aS<|⟨_,Z,?_⟩;rfl
theorem aKc:CT 25 #[sl Aq 0 cq] B w0 R (λv R'=> ∃(A:AF) (c:Nat),v=sl A 0 c/\R'=R):=by
 intro w b;refine(Ct.fresh (λw b=>aBo (ws:=[]) (wV w (Hp.refl w)) (gI _ _) ⟨(λ_ h=>by cases h),cC⟩) w b).mono ?_;rintro e w' ⟨v,R',g,i,Rn,rfl,A,c,vals,Rs,a,hs,rfl⟩;have h1:vals.length=(canon []).length:=hs.1;have d:vals.length=0:=by rw[h1,aBm];rfl
 rw[d] at a;exact⟨v,R,g,i.right,A,c,a,Z⟩
theorem bLu (am:R6 B w0 R ao ar an u) (ce:ar=u.length) (b:aI u) (g:u.length<=100000) (hp:(0<=so/\so<=2)/\(od=0\/od=1)/\(1<=sz/\sz<=16777216)):
  CT 22 #[.agg #[sl ao ar an,sl Aq 0 cq], .agg #[I 0,I so,I od,I sz]] B w0 (R) (λv R'=>v=I 0/\R'=R):=by
 subst ce;refine fn1 Il Z Z Z<|wq<|aX (dC (sz:=2) Z Z) λd=>aX (dC (sz:=4) Z Z) λh=>aB Z<|aD Z<|cB [0] 2 Z<|wQ Z Z<|aB Z<|aA<|wq<|wy (bO (vs:=[I 0,I so,I od,I sz]) (rdr 0 Z) jd Z fC Z Z (ah Z) Z)<|dD (aH aXf Z (LD G hp))<|iC [1] 8 Z<|aN Z Z<|wy (Yl.f (iL Z Z))<|iC [1] 15 Z<|aN Z Z<|dZ bGc Z (λw a=>uY)<|aB Z<|aM Z<|aG<|aA<|aA<|bE mixed<|fU [1,1] 0 5 Z<|wC 5 Z (aH FH Z (Ct.fresh (λw a=>jJ (wV w a) (gI _ _) cE))) ?_;rintro _ _⟨_,rfl,i,j,rfl,rfl⟩;refine⟨.inr hrZ,?_⟩;refine wD 6 Z (sO ai Z)<|wD 7 Z (dJ Z Z (by have e:([]:AD).flatten.length=0:=rfl;omega)) ?_;refine wD 8 Z (Yl.f (iL Z Z) (by have e:([]:AD).flatten.length=0:=rfl;omega)) ?_;exact fU [2] 9 4 Z<|wG 13 Z Z Z (Yl.f (iL Z Z))<|wD 14 Z (vF Z Z)<|wN<|aM Z<|aG<|aD Z<|aL [] 3<|⟨_,Z,Z,Z⟩
theorem bLt (am:R6 B w0 R ao ar an u) (ce:ar=u.length) (b:aI u) (g:u.length<=100000) (hp:(0<=so/\so<=2)/\(od=0\/od=1)/\(1<=sz/\sz<=16777216)):
  CT 22 #[.agg #[sl ao ar an,sl Aq 0 cq], .agg #[I 1,I so,I od,I sz]] B w0 (R) (λv R'=>v=I 0/\R'=R):=by
 subst ce;refine fn1 Il Z Z Z<|wq<|aX (dC (sz:=2) Z Z) λd=>aX (dC (sz:=4) Z Z) λh=>aB Z<|aD Z<|cB [0] 2 Z<|wQ Z Z<|aB Z<|aA<|wq<|wy (bO (vs:=[I 1,I so,I od,I sz]) (rdr 0 Z) jd Z fC Z Z (ah Z) Z)<|dD (aH aXf Z (LD G hp))<|iC [1] 8 Z<|aN Z Z<|wy (Yl.f (iL Z Z))<|iC [1] 15 Z<|aN Z Z<|dZ bGc Z (λw a=>uY)<|aB Z<|aM Z<|aG<|aA<|aA<|bE mixed<|fU [1,1] 0 5 Z<|wC 5 Z (aH FH Z (Ct.fresh (λw a=>jJ (wV w a) (gI _ _) cE))) ?_;rintro _ _⟨_,rfl,i,j,rfl,rfl⟩;refine⟨.inr hrZ,?_⟩;refine wD 6 Z (sO ai Z)<|wD 7 Z (dJ Z Z (by have e:([]:AD).flatten.length=0:=rfl;omega)) ?_;refine wD 8 Z (Yl.f (iL Z Z) (by have e:([]:AD).flatten.length=0:=rfl;omega)) ?_;exact fU [2] 9 4 Z<|wG 13 Z Z Z (Yl.f (iL Z Z))<|wD 14 Z (vF Z Z)<|wN<|aM Z<|aG<|aD Z<|aL [] 3<|⟨_,Z,Z,Z⟩
theorem bLs (am:R6 B w0 R ao ar an u) (ce:ar=u.length) (b:aI u) (g:u.length<=100000) (hp:(0<=so/\so<=2)/\(od=0\/od=1)/\(1<=sz/\sz<=16777216)):
  CT 22 #[.agg #[sl ao ar an,sl Aq 0 cq], .agg #[I 2,I so,I od,I sz]] B w0 (R) (λv R'=>v=I 0/\R'=R):=by
 subst ce;refine fn1 Il Z Z Z<|wq<|aX (dC (sz:=2) Z Z) λd=>aX (dC (sz:=4) Z Z) λh=>aB Z<|aD Z<|cB [0] 2 Z<|wQ Z Z<|aB Z<|aA<|wq<|wy (bO (vs:=[I 2,I so,I od,I sz]) (rdr 0 Z) jd Z fC Z Z (ah Z) Z)<|dD (aH aXf Z (LD G hp))<|iC [1] 8 Z<|aN Z Z<|wy (Yl.f (iL Z Z))<|iC [1] 15 Z<|aN Z Z<|dZ bGc Z (λw a=>uY)<|aB Z<|aM Z<|aG<|aA<|aA<|bE mixed<|fU [1,1] 0 5 Z<|wC 5 Z (aH FH Z (Ct.fresh (λw a=>jJ (wV w a) (gI _ _) cE))) ?_;rintro _ _⟨_,rfl,i,j,rfl,rfl⟩;refine⟨.inr hrZ,?_⟩;refine wD 6 Z (sO ai Z)<|wD 7 Z (dJ Z Z (by have e:([]:AD).flatten.length=0:=rfl;omega)) ?_;refine wD 8 Z (Yl.f (iL Z Z) (by have e:([]:AD).flatten.length=0:=rfl;omega)) ?_;exact fU [2] 9 4 Z<|wG 13 Z Z Z (Yl.f (iL Z Z))<|wD 14 Z (vF Z Z)<|wN<|aM Z<|aG<|aD Z<|aL [] 3<|⟨_,Z,Z,Z⟩
end
section
variable {w w0:World} {ao Aq:AF} {ar an B cq:Nat} {u acc:AH} {R:List Row} {k so od sz:Int}
theorem WU {n:Int} (am:R4 w ao ar an u) (hn:1<=n):
  CF 26 #[sl ao ar an,I n] w (λv R'=> ∃g1 g2,v= .func (.func 53) #[] #[PG g1,PG g2]/\R'=[(rc 22 1 g1 [sl ao u.length an]),(rc 3 1 g2 [I n])]):=by
 obtain rfl:=am.lenI;exact fn1 Tryz.func26 Z Z Z<|wq<|aX (dC (sz:=1) Z Z) λa=>aX (dC (sz:=1) Z Z) λb=>aB Z<|aA<|cB [0] 1 Z<|wy (Yl.f (fD Z Z))<|aJ<|aM Z<|aG<|wq<|wy (oI Z Z)<|aB Z<|aL [1,0] 99<|⟨_,Z,_,_,Z,Z⟩
theorem uZ {bl:AF} {cg bm:Nat} {aq:AG} {ws:AD} (a:Rd w bl cg bm 1 aq) (b:SlW .u8 w aq ws) (d:ws.flatten.length<=1000000/\ws.length<=1000000) (e:ws.flatten=u):
  CF 24 #[sl bl cg bm] w (λv R'=> ∃A c,v=sl A u.length c/\R'=[(ru 5 A u.length c u)]):=by
 subst e;exact jJ a b d
theorem bKr {A:AF} {c:Nat}:RdC B w0 R A 0 c 1 []:=λ_ _=>⟨rfl,G,G,λj v a=>by simp at a⟩
theorem bFu (h:acc=(([87,72,82,76]++[1,k%256,so%256,od%256])++aU sz)++lY k od sz.toNat u (chN u.length sz.toNat)) (hs:0<=so/\so<=2) (b:od=0\/od=1) (hk:0<=k/\k<256):
  ([]++[acc]++[aU 0]++[aU (u.length:Int)]:AD).flatten=tF k so od sz u:=by
 rw[h,kg hk.1 hk.2,kg (a:=so) G G,kg (a:=od) G G];unfold tF;simp[chN,chK]
theorem aXb (h:acc=(([87,72,82,76]++[1,k%256,so%256,od%256])++aU sz)++lY k od sz.toNat u (chN u.length sz.toNat)) (hs:0<=so/\so<=2) (e:od=0\/od=1) (hk:0<=k/\k<256) (hu:aI u) (b:u.length<=100000) (d:0<=sz):aI acc:=by
 rw[h];intro x a;rcases ek.1 a with a|a
 ·rcases ek.1 a with a|a
  ·simp only[je,ig,il,vw,Ib] at a;omega
  exact dM d x a
 exact(sG hu b _).2 x a
theorem aSm (h:acc=(([87,72,82,76]++[1,k%256,so%256,od%256])++aU sz)++lY k od sz.toNat u (chN u.length sz.toNat)) (hu:aI u) (j:u.length<=1000) (h1:1<=sz) (i:sz<=16777216):acc.length<=400000:=by
 have b:=(sG (t:=k) (o:=od) (n:=sz.toNat) hu G (chN u.length sz.toNat)).1;have d:chN u.length sz.toNat<=u.length:=aOx G;have e:=cK 4 sz G;have a:=bi List.length h;rw[aa,aa] at a;have g:([87,72,82,76]++[1,k%256,so%256,od%256]:AH).length=8:=rfl;omega
theorem aXz (am:R6 B w0 R ao ar an u) (ce:ar=u.length) (a:aI u) (b:u.length<=100000) (hp:(0<=so/\so<=2)/\(od=0\/od=1)/\(1<=sz/\sz<=16777216)) (hk:k=0\/k=1\/k=2):
  CT 27 #[sl ao ar an,sl Aq 0 cq, .agg #[I k,I so,I od,I sz]] B w0 R (λv R'=> ∃(A1:AF) (c1:Nat),v=sl A1 (cZ k od u).length c1/\R'=(ru 5 A1 ((cZ k od u).length) c1 (cZ k od u))::R):=by
 rcases hk with rfl|rfl|rfl
 ·exact aYd am ce a b hp
 ·exact aYc am ce a b hp
 exact aYb am ce a b hp
theorem bLr (am:R6 B w0 R ao ar an u) (ce:ar=u.length) (a:aI u) (b:u.length<=100000) (hp:(0<=so/\so<=2)/\(od=0\/od=1)/\(1<=sz/\sz<=16777216)) (hk:k=0\/k=1\/k=2):
  CT 22 #[.agg #[sl ao ar an,sl Aq 0 cq], .agg #[I k,I so,I od,I sz]] B w0 R (λv R'=>v=I 0/\R'=R):=by
 subst ce;rcases hk with rfl|rfl|rfl
 ·exact bLu am rfl a b hp
 ·exact bLt am rfl a b hp
 exact bLs am rfl a b hp
theorem aSn (am:R4 w ao ar an u) (p:aI u) (hS:u.length<=1000) (hp:(0<=so/\so<=2)/\(od=0\/od=1)/\(1<=sz/\sz<=16777216)) (hk:k=0\/k=1\/k=2):
  CF 10 #[.agg #[sl ao u.length an,sl Aq 0 cq], .agg #[I k,I so,I od,I sz]] w (λv R'=> ∃A c,v= .tuple #[sl A (tF k so od sz u).length c,I 0]/\R'=[(ru 5 A ((tF k so od sz u).length) c (tF k so od sz u))]):=by
 obtain rfl:=am.lenI;refine fnV Tryz.func10 Z Z ?_;have S:u.length<=100000:=G
 have hpz:=cK 4 sz G;have hpu:=cK 2 (u.length:Int) G;refine eZ<|bK<|aX (dC (sz:=2) Z Z) λg=>gW (R1:=[(rc 25 2 g [sl ao u.length an,sl Aq 0 cq])]) Z<|aX (dC (sz:=4) Z Z) λi=>gW (R1:=[(rc 27 4 i [I k,I so,I od,I sz]),(rc 25 2 g [sl ao u.length an,sl Aq 0 cq])]) Z<|aB Z<|eZ<|wq<|wy (bO (vs:=[sl ao u.length an,sl Aq 0 cq]) (rdr 1 Z) pz Z iJ Z Z (ah Z) Z)<|wy (bO (vs:=[I k,I so,I od,I sz]) (rdr 0 Z) jd Z fC Z Z (ah Z) Z)<|dD (aH bXc Z (bLr (am.c _) (by first|rfl|(simp;done)|omega) p S hp hk)) ?_;refine aB Z<|aK 1 Z<|wy (Yl.f (gD Z Z) cC)<|aJ<|aM Z<|aG<|eZ<|bK<|aX (bG .u8 [87,72,82,76] ai zs5 Z Z Z) λm=>dD (aEk 0 Z Z ai ay Z Z)<|gW (R1:=[⟨5,1,(GG m),4,4,ints .u8 ([87,72,82,76]),true⟩,(rc 27 4 i [I k,I so,I od,I sz]),(rc 25 2 g [sl ao u.length an,sl Aq 0 cq])]) Z<|iC [1] 2 Z<|wy (eP av ay Z)<|iC [1] 2 Z<|wy (eP av ay Z)<|iC [1] 2 Z<|wy (eP av ay Z)<|aX (bG .u8 [1,k%256,so%256,od%256] ai zs5 Z Z Z) λr=>dG (wF ai zb5 Z (rdr 1 Z) Z (rdr 0 Z) (by first|decide|(dsimp only;decide)) (by first|decide|(dsimp only;decide)) (by first|decide|(dsimp only;decide)) (by first|decide|(dsimp only;decide)) (by first|decide|(dsimp only;decide)) Z) λJ H=> ?_;refine gW (R1:=[(ru 5 (GG J) 8 H (([87,72,82,76])++([1,k%256,so%256,od%256]))),(ru 5 (GG r) 4 4 ([1,k%256,so%256,od%256])),⟨5,1,(GG m),4,4,ints .u8 ([87,72,82,76]),true⟩,(rc 27 4 i [I k,I so,I od,I sz]),(rc 25 2 g [sl ao u.length an,sl Aq 0 cq])]) Z<|bC (v:=sl (GG J) 8 H) Z<|aX (eH (sz:=1) bIx Z) λF=>gW (R1:=[(rc 22 1 F [sl none 0 0]),(ru 5 (GG J) 8 H (([87,72,82,76])++([1,k%256,so%256,od%256]))),(ru 5 (GG r) 4 4 ([1,k%256,so%256,od%256])),⟨5,1,(GG m),4,4,ints .u8 ([87,72,82,76]),true⟩,(rc 27 4 i [I k,I so,I od,I sz]),(rc 25 2 g [sl ao u.length an,sl Aq 0 cq])]) Z<|bN (aV 0 Z Z Z iZ Z Z Z Z (ah Z))<|gW (R1:=[(rc 22 1 F [sl (GG J) 8 H]),(ru 5 (GG J) 8 H (([87,72,82,76])++([1,k%256,so%256,od%256]))),(ru 5 (GG r) 4 4 ([1,k%256,so%256,od%256])),⟨5,1,(GG m),4,4,ints .u8 ([87,72,82,76]),true⟩,(rc 27 4 i [I k,I so,I od,I sz]),(rc 25 2 g [sl ao u.length an,sl Aq 0 cq])]) Z<|aJ<|eZ<|bE mixed<|fU [0,4] 0 3 Z<|wC 3 Z (aH BX Z (Ct.fresh (λw d=>jA G))) ?_;rintro _ _⟨_,rfl,N,M,rfl,rfl⟩;refine⟨.inr hrZ,?_⟩;refine wC 4 Z (aO 2 Z ai zb5 Z Z Z (rdr 0 Z)) ?_;rintro _ _⟨K,L,rfl,rfl⟩;refine⟨.inl cA,?_⟩;refine pX (R1:=[(ru 5 N ((aU sz).length) M (aU sz)),(rc 22 1 F [sl (GG J) 8 H]),(ru 5 K (8+((aU sz).length)) L ((([87,72,82,76])++([1,k%256,so%256,od%256]))++(aU sz))),(ru 5 (GG r) 4 4 ([1,k%256,so%256,od%256])),⟨5,1,(GG m),4,4,ints .u8 ([87,72,82,76]),true⟩,(rc 27 4 i [I k,I so,I od,I sz]),(rc 25 2 g [sl ao u.length an,sl Aq 0 cq])]) Z<|iA (v:=sl K (8+((aU sz).length)) L) Z<|qN 5 Z cA (aV 1 Z Z Z iZ Z Z Z Z (ah Z)) ?_;rintro _ _ rfl;refine⟨.inl cA,?_⟩;refine pX (R1:=[(ru 5 N ((aU sz).length) M (aU sz)),(rc 22 1 F [sl K (8+((aU sz).length)) L]),(ru 5 K (8+((aU sz).length)) L ((([87,72,82,76])++([1,k%256,so%256,od%256]))++(aU sz))),(ru 5 (GG r) 4 4 ([1,k%256,so%256,od%256])),⟨5,1,(GG m),4,4,ints .u8 ([87,72,82,76]),true⟩,(rc 27 4 i [I k,I so,I od,I sz]),(rc 25 2 g [sl ao u.length an,sl Aq 0 cq])]) Z<|wN<|eZ<|bE mixed<|fU [6,6] 0 4 Z<|wC 4 Z (aH bWv Z (aKc)) ?_;rintro _ _⟨oy,vx,rfl,rfl⟩;refine⟨.inr hiZ,?_⟩;refine wC 5 Z (aH FH Z (Ct.fresh (λw d=>uZ (u:=([]:AH)) (bKr w d) (gI _ _) ⟨cC,cC⟩ rfl))) ?_;rintro _ _⟨_,rfl,y,B,rfl,rfl⟩;refine⟨.inr hrZ,?_⟩;refine wC 6 Z (jD [Value.slice ao u.length an,Value.slice y ((([]:AH)).length) B] dm pF Z Z Z Z) ?_;rintro _ _⟨X,rfl,rfl⟩;refine⟨.inr hrZ,?_⟩;refine wC 7 Z (aH FH Z (Ct.fresh (λw d=>uZ (u:=u) ((rdr 0 Z) w d) (((gI _ _).snoc ((am.c _) w d) (λx j=>eQ (p x j)) G).snoc ((rdr 1 Z) w d) (λx j=>eQ ((show aI [] from λ_ h=>nomatch h) x j)) cC) ⟨cJ,cD⟩ cD))) ?_;rintro _ _⟨_,rfl,C,D,rfl,rfl⟩;refine⟨.inr hrZ,?_⟩;refine wD 8 Z (bY Z)<|wN<|eZ<|bRa [8] Z<|eZ<|cB [8] 2 Z<|wy (Yl.f (pU Z Z))<|aJ<|aM Z<|aG<|NQ<|eZ<|aT 2 Z<|bZ bWp Z (λw d=>WU ((rdr 0 Z) w d) G) λQ T=>aJ<|vH<|IP Z bVw (OU (A:=C) (c:=D) (zs:=u) (sz:=sz) G G G) Z (λ_=>Z) Gd.refl (λ(a:Nat) (A1:AF) (e:Nat) (c1:Nat) (acc:AH)=>[(rc 22 1 Q [sl C ((u).length) D]),(rc 3 1 T [I sz]),(ru 5 C ((u).length) D u),⟨22,1,(GG X),2,2,[Value.slice ao u.length an,Value.slice y ((([]:AH)).length) B],false⟩,(ru 5 y ((([]:AH)).length) B ([]:AH)),(ru 5 N ((aU sz).length) M (aU sz)),(rc 22 1 F [sl A1 e c1]),(ru 5 A1 e c1 acc),(ru 5 (GG r) 4 4 ([1,k%256,so%256,od%256])),⟨5,1,(GG m),4,4,ints .u8 ([87,72,82,76]),true⟩,(rc 27 4 i [I k,I so,I od,I sz]),(rc 25 2 g [sl ao u.length an,sl Aq 0 cq])]) (λa A1 e c1 acc=>(e=acc.length)/\(acc=(([87,72,82,76]++[1,k%256,so%256,od%256])++aU sz)++lY k od sz.toNat u a)) ?_ ?_ ?_ ?_
 ·exact⟨K,8+((aU sz).length),L,(([87,72,82,76])++([1,k%256,so%256,od%256]))++(aU sz),⟨(by rw[aa];rfl),(by rw[zH,ik])⟩,λ_ h=>h⟩
 ·intro a A1 e c1 acc w ⟨R,q⟩ d;exact⟨(rdr 0 Z) w d,(rdr 1 Z) w d,(rdr 2 Z) w d⟩
 ·intro lr a A1 e c1 acc WW1 Og ⟨R,q⟩ Kd;have Lj:a*sz.toNat<u.length:=(NJ G).1 cF;have hkc:a<=1000:=pq (Nat.le_mul_of_pos_right a (show 0<sz.toNat by omega)) G;have ph:=bi List.length q;rw[aa,aa,aa] at ph;have r7:=sG (t:=k) (o:=od) (n:=sz.toNat) p S a;have ki:=GX (t:=k) (o:=od) (b:=(u.drop (a*sz.toNat)).take sz.toNat) ((p.drop _).take _) (by rw[ax,az];omega);have hbk3:((u.drop (a*sz.toNat)).take sz.toNat).length<=u.length:=by rw[ax,az];omega
  have h8:([87,72,82,76]:AH).length=4:=rfl;have h9:([1,k%256,so%256,od%256]:AH).length=4:=rfl;refine sQ Z ?_;intro Tq j9;refine aF<|bE mixed<|fU [6,11] 0 4 Z<|wD 4 Z (bO (vs:=[I k,I so,I od,I sz]) (rdr 10 Z) jd Z fC Z Z (ah Z) Z)<|wC 5 Z (aH bWo Z (aXz (aAb (l:=a*sz.toNat) (n:=sz.toNat) (rdr 2 Z) cG) (by rw[ax,az]) ((p.drop _).take _) (by rw[ax,az];omega) hp hk)) ?_;rintro _ _⟨tc,tg,rfl,rfl⟩;refine⟨.inr hrZ,?_⟩;refine wC 6 Z (aO 8 Z ai zb5 Z Z Z (rdr 0 Z)) ?_;rintro _ _⟨O,P,rfl,rfl⟩;refine⟨.inl cA,?_⟩;refine pX (R1:=[(ru 5 tc ((cZ k od ((u.drop (a*sz.toNat)).take sz.toNat)).length) tg (cZ k od ((u.drop (a*sz.toNat)).take sz.toNat))),(rc 22 1 Q [sl C ((u).length) D]),(rc 3 1 T [I sz]),(ru 5 C ((u).length) D u),⟨22,1,(GG X),2,2,[Value.slice ao u.length an,Value.slice y ((([]:AH)).length) B],false⟩,(ru 5 y ((([]:AH)).length) B ([]:AH)),(ru 5 N ((aU sz).length) M (aU sz)),(rc 22 1 F [sl A1 e c1]),(ru 5 O (e+((cZ k od ((u.drop (a*sz.toNat)).take sz.toNat)).length)) P (acc++(cZ k od ((u.drop (a*sz.toNat)).take sz.toNat)))),(ru 5 (GG r) 4 4 ([1,k%256,so%256,od%256])),⟨5,1,(GG m),4,4,ints .u8 ([87,72,82,76]),true⟩,(rc 27 4 i [I k,I so,I od,I sz]),(rc 25 2 g [sl ao u.length an,sl Aq 0 cq])]) Z<|iA (v:=sl O (e+((cZ k od ((u.drop (a*sz.toNat)).take sz.toNat)).length)) P) Z<|qN 7 Z cA (aV 7 Z Z Z iZ Z Z Z Z (ah Z)) ?_;rintro _ _ rfl;refine⟨.inl cA,?_⟩;exact pX (R1:=[(ru 5 tc ((cZ k od ((u.drop (a*sz.toNat)).take sz.toNat)).length) tg (cZ k od ((u.drop (a*sz.toNat)).take sz.toNat))),(rc 22 1 Q [sl C ((u).length) D]),(rc 3 1 T [I sz]),(ru 5 C ((u).length) D u),⟨22,1,(GG X),2,2,[Value.slice ao u.length an,Value.slice y ((([]:AH)).length) B],false⟩,(ru 5 y ((([]:AH)).length) B ([]:AH)),(ru 5 N ((aU sz).length) M (aU sz)),(rc 22 1 F [sl O (e+((cZ k od ((u.drop (a*sz.toNat)).take sz.toNat)).length)) P]),(ru 5 O (e+((cZ k od ((u.drop (a*sz.toNat)).take sz.toNat)).length)) P (acc++(cZ k od ((u.drop (a*sz.toNat)).take sz.toNat)))),(ru 5 (GG r) 4 4 ([1,k%256,so%256,od%256])),⟨5,1,(GG m),4,4,ints .u8 ([87,72,82,76]),true⟩,(rc 27 4 i [I k,I so,I od,I sz]),(rc 25 2 g [sl ao u.length an,sl Aq 0 cq])]) Z<|wN<|⟨O,e+((cZ k od ((u.drop (a*sz.toNat)).take sz.toNat)).length),P,acc++(cZ k od ((u.drop (a*sz.toNat)).take sz.toNat)),⟨(by rw[aa,R]),(by rw[zI,<-dx,<-q])⟩,λ_=>λ_ h=>h.sel [1,2,3,4,5,6,7,8,9,10,11,12] cC Z⟩
 intro Tr DW1 A1 e c1 acc ⟨R,q⟩ Nv j8;refine RQ<|aFh<|v_w<|aA<|bE mixed<|wD 0 Z (yL 6 ai Z Z Z)<|bF 2 2 Z<|wC 1 Z (aH BX Z (Ct.fresh (λw d=>jA cC))) ?_;rintro _ _⟨_,rfl,yb,zj,rfl,rfl⟩;refine⟨.inr hrZ,?_⟩;refine wC 4 Z (aH BX Z (Ct.fresh (λw d=>jA G))) ?_;rintro _ _⟨_,rfl,Nh,Nm,rfl,rfl⟩;refine⟨.inr hrZ,?_⟩;refine wC 5 Z (jD [Value.slice A1 e c1,Value.slice yb ((aU 0).length) zj,Value.slice Nh ((aU (((u).length:Nat):Int)).length) Nm] dm pF Z Z Z Z) ?_;rintro _ _⟨Y,rfl,rfl⟩;refine⟨.inr hrZ,?_⟩;refine wC 6 Z (aH FH Z (Ct.fresh (λw d=>uZ (u:=(tF k so od sz u)) ((rdr 0 Z) w d) ((((gI _ _).snoc ((rdr 10 Z) w d) (λx j=>eQ ((aXb q hp.1 hp.2.1 G p S G) x j)) (by have:=aSm q p hS G G;omega)).snoc ((rdr 2 Z) w d) (λx j=>eQ ((dM G) x j)) cC).snoc ((rdr 1 Z) w d) (λx j=>eQ ((dM G) x j)) G) ⟨by have:=aSm q p hS G G;simp only[qo,ig,je,jg,ug,uy,Gx];have h0:(aU 0).length=1:=rfl;omega,cD⟩ (bFu q hp.1 hp.2.1 G)))) ?_;rintro _ _⟨_,rfl,Xf,Xt,rfl,rfl⟩;refine⟨.inr hrZ,?_⟩;refine bF 7 2 Z<|wN<|aL [0] 99<|bFk Z j8 ⟨_,_,Z,Z,?_⟩;exact⟨_,_,Z,Z⟩
end
theorem aSl:tF 0 0 0 1 []=[87,72,82,76,1,0,0,0,1,0,0]:=by
 rw[aBc,ZY cC];rfl
section
variable {ws:AD} {i e:Int} {w:World} {bl:AF} {cg bm:Nat} {aq:AG} {L TS:AH}
abbrev gQ (ws:AD):Prop:= ∃w∈ws,w.length=0
theorem NE (a:0<=i) (h1:i<ws.length) (h:((rdl ws i).length:Int)=0):gQ ws:=⟨_,iO a h1,G⟩
theorem ND (hi:(ws.length:Int)<=i) (h: ∀j:Int,0<=j->j<i->j<ws.length->0<(rdl ws j).length): ¬gQ ws:=λ⟨w,a,e⟩=>by
 obtain⟨k,hk,rfl⟩:=ib.1 a;have:=h k G G G;unfold rdl at this;rw[bu,af,au hk] at this;simp at this;omega
theorem bMd {ao:AF} {ar an:Nat} {u:AH} (am:R4 w ao ar an u):
  CF 161 #[sl ao ar an] w (λv R'=>v= .bool (decide ((u.length:Int)=0))):=by
 obtain rfl:=am.lenI;refine fn1 Tryz.func161 Z Z Z<|aD Z<|aD Z<|aS<|⟨_,Z,?_⟩;rfl
theorem aWj {w:World} (a:Rd w bl cg bm 1 aq) (b:SlW .u8 w aq ws):
  CF 89 #[sl bl cg bm, .func (.func 161) #[] #[]] w (λv R'=> ∃z:Int,v=I z/\(0<=z↔gQ ws)):=by
 obtain rfl:cg=ws.length:=by have:=a.len;have:=b.1;omega
 refine fn1 Ko Z Z Z ?_;have B:=a.max;refine aD Z<|aA<|aD Z<|aF<|iK (λ(k:Int)=>[(0,sl bl ws.length bm),(1, .func (.func 161) #[] #[]),(7,I (ws.length:Int)),(8,I k)]) (λk=>[]) (λk=>(0<=k)/\(k<=ws.length)/\(∀j:Int,0<=j->j<k->j<ws.length->0<(rdl ws j).length)) (λk=>(ws.length-k).toNat) ?_ ?_
 ·exact⟨0,⟨G,G,(λj h1 l=>G)⟩,KP⟩
 intro k ⟨e,A,d⟩;refine aD Z<|aA<|aR Z ?_ ?_<;>intro ap
 ·refine aG<|aA<|aF<|aD Z<|aK 3 Z<|wy (aC dm iZ Z Z (a.c _))<|b.elim (i:=k) G G (λx u p q y C=> ?_);refine wy (kS ai Z Z Z (a.c _) p)<|bJc (HV bYd Z Z (Ct.quiet (λw o=>bMd ((q.c _) w o))))<|aJ<|aR Z ?_ ?_<;>intro r
  ·exact aD Z<|aS<|⟨_,Z,k,Z,⟨λ_=>NE e G cF,λ_=>e⟩⟩
  refine aG<|bK<|wA Z Z<|aB Z ?_
  exact⟨k+1,⟨G,G,(λj h1 l m=>by
    rcases bz j k with g|g
    ·exact d j h1 g m
    obtain rfl:j=k:=G
    omega)⟩,G,KP⟩
 exact aP<|aD Z<|aS<|⟨_,Z,-1,Z,⟨λh=>G,λh=>absurd h (ND G d)⟩⟩
theorem aDw {w:World} (a:Rd w bl cg bm 1 aq) (b:SlW .u8 w aq ws):
  CF 48 #[sl bl cg bm, .func (.func 161) #[] #[]] w (λv R'=>v= .bool (decide (gQ ws))):=by
 obtain rfl:cg=ws.length:=by have:=a.len;have:=b.1;omega
 refine fn1 Km Z Z Z<|aD Z<|aK 2 Z<|wa (aH bTh Z (Ct.quiet (λw d=>aWj ((a.c _) w d) (b.c d)))) ?_;rintro _ _⟨rfl,g,rfl,e⟩;refine aB Z<|aS<|⟨_,Z,?_⟩;exact bi Value.bool (sw.2 e)
theorem aOc {w:World} {ws:AD} (g:Rd w bl cg bm 1 aq) (j:SlW .u8 w aq ws) (B:(∀w∈ws,w.length<=8000)/\ws.length<=100000):
  CF 103 #[sl bl cg bm] w (λv R'=> ∃(A A2:AF) (c c2:Nat) (L TS:AH) (e:Int),v= .tuple #[sl A L.length c,sl A2 TS.length c2,I e]/\ExtR ws L TS e/\R'=[(ru 5 A L.length c L),(ri 3 A2 TS.length c2 TS)]):=by
 obtain rfl:cg=ws.length:=by have:=g.len;have:=j.1;omega
 refine fn3 Tryz.func103 Z Z Z<|wq<|dX (ru 5 none 0 0 ([]))<|wg Z<|dX (ri 3 none 0 0 ([]))<|aB Z<|aD Z<|aA<|aD Z<|aF<|dF (λ(i:Int) (z:Int)=>[(0,sl bl ws.length bm),(5,I z),(11,sl bl ws.length bm),(12,I (ws.length:Int)),(13,I i)]) (λi z=>((ri 3 none 0 0 ([]))::(ru 5 none 0 0 ([]))::[])) (λi z=>(0<=i)/\(i<=ws.length)/\(z=((ws.take i.toNat).flatten.length:Int))/\(0<=z/\z<=i*8000)) (λi z=>(ws.length-i).toNat) ?_ ?_
 ·exact⟨0,0,⟨G,G,(Z),G⟩,KP⟩
 intro i z ⟨x,gn,C,Nf⟩;have s8:0<=i->i<ws.length->(rdl ws i).length<=8000:=λh T=>B.1 _ (iO h T);refine aD Z<|aA<|aR Z ?_ ?_<;>intro ap
 ·have Rr:=s8 x G;refine aG<|aA<|aF<|wq<|wy (aC dm iZ Z Z (g.c _))<|j.elim (i:=i) G G (λcv cr sr yq l3 yy=> ?_);exact wy (kS ai Z Z Z (g.c _) sr)<|aB Z<|aT 3 Z<|wA Z Z<|aB Z<|bK<|wA Z Z<|aB Z<|⟨i+1,z+(((rdl ws i).length:Nat):Int),⟨G,G,(by rw[gJ x G,aa,C];omega),G⟩,G,KP⟩
 obtain rfl:i=ws.length:=G
 rw[bu,qa] at C;refine aP<|aA<|aK 4 Z<|bD 3 [0] 28 (.bool (decide ((1000<(ws.length:Int))\/(100000<z)))) Z ?_ ?_
 ·refine bB 25 Z ?_ ?_<;>intro bp
  ·exact aB Z<|KP
  exact aB Z<|KP
 refine aJ<|aR Z ?_ ?_<;>intro db
 ·refine aD Z<|gN (R1:=[(ru 5 none 0 0 ([])),(ri 3 none 0 0 ([]))]) (λ_ h=>(h.selR (F:=[_,_]) (F':=[_,_]) [1,0] cC Z).left (X:=[_,_]))<|⟨_,_,_,Z,Z,Z,?_⟩;exact⟨_,_,_,_,[],[],2,Z, .inl ⟨Z,G,rfl,rfl⟩,rfl⟩
 refine aG<|aA<|aK 1 Z<|dZ bGc Z (λw a=>aDw ((g.c _) w a) (j.c a))<|aJ<|aR Z ?_ ?_<;>intro y
 ·refine aD Z<|gN (R1:=[(ru 5 none 0 0 ([])),(ri 3 none 0 0 ([]))]) (λ_ h=>(h.selR (F:=[_,_]) (F':=[_,_]) [1,0] cC Z).left (X:=[_,_]))<|⟨_,_,_,Z,Z,Z,?_⟩;exact⟨_,_,_,_,[],[],1,Z, .inr (.inl ⟨G,rfl,y,rfl,rfl⟩),rfl⟩
 refine aG<|wq<|aX (bG .u8 [] ai zs5 Z Z Z) λrv=>aB Z<|aA<|aK 1 Z<|wa (aH bQb Z (Ct.fresh (λw a=>aFi ((g.c _) w a) (j.c a) ⟨G,G⟩))) ?_;rintro _ _⟨_,rfl,lt,p,o,rfl,k,S,rfl⟩;refine aB Z<|aF<|eT (λ(q:Int) (d:AF) (m1:Nat) (d1:Nat) (acc:AH)=>[(0,sl bl ws.length bm),(2,sl d m1 d1),(33,sl p lt.length o),(34,I (lt.length:Int)),(35,I q)]) (λq d m1 d1 acc=>(⟨175,2,p,lt.length,o,prs lt,false⟩::(ru 5 d m1 d1 acc)::(ri 3 none 0 0 ([]))::(ru 5 none 0 0 ([]))::[])) (λq d m1 d1 acc=>(0<=q)/\(q<=lt.length)/\(m1=acc.length)/\(acc.length=q.toNat)/\(acc=(lt.take q.toNat).map (lastB ws))) (λq d m1 d1 acc=>(lt.length-q).toNat) ?_ ?_
 ·exact⟨0,GG rv,0,0,[],⟨G,G,(Z),(Z),(Z)⟩,KP⟩
 intro q d m1 d1 acc ⟨K,o6,J,R,m⟩;have ya:=LM k;refine aD Z<|aA<|aR Z ?_ ?_<;>intro ff
 ·have b:=vR.1 (k.subset (lV (l:=lt) K G));have w9:=b.2.2;have he0:=jk ((rdp lt q).2+(rdl ws (rdp lt q).1).length-1) (show((rdl ws (rdp lt q).1).length:Int)≠0 by omega);have he1:=ja ((rdp lt q).2+(rdl ws (rdp lt q).1).length-1) (show(0:Int)<(rdl ws (rdp lt q).1).length by omega);refine aG<|aA<|aF<|wq<|wy (pR lc kV Z Z (rdr 0 Z) Z)<|wy (aPv jm Z kV Z (rdr 0 Z))<|aX (eH (sz:=2) aPs Z) λxf=>bN (aZ (vs:=[I ((rdp lt q).1),I ((rdp lt q).2)]) 0 Z kV Z Z Z cH Z)<|aJ<|aK 1 Z<|wy (dW (q:=0) (rdr 0 Z) jm sz3 Z Z (ah Z) cC cC Z)<|iC [0] 1 Z<|wy (aC dm iZ Z Z (g.c _) (by first|exact b.1|exact b.2.1) (by first|exact b.1|exact b.2.1)) ?_;refine j.elim (i:=(rdp lt q).1) (by first|exact b.1|exact b.2.1) (by first|exact b.1|exact b.2.1) (λgg gi O r Yu Vw=> ?_);exact wy (kS ai Z Z Z (g.c _) O)<|aB Z<|aT 2 Z<|wy (dW (q:=1) (rdr 0 Z) jm sz3 Z Z (ah Z) cC cC Z)<|iC [0] 3 Z<|wA Z Z<|wS Z Z<|bH 2 Z<|wy (uF Z Z)<|wy (aC ai sz5 Z Z (r.c _))<|wy (aQ ay Z Z (r.c _))<|aX (bG .u8 [rd (rdl ws ((rdp lt q).1)) (((((rdp lt q).2)+(((rdl ws ((rdp lt q).1)).length:Nat):Int))-1)%(((rdl ws ((rdp lt q).1)).length:Nat):Int))] ai zs5 Z Z Z) λQh=>dG (aO 3 Z ai zb5 Z Z Z (rdr 0 Z)) λM N=>bC (v:=sl M (m1+1) N) Z<|aB Z<|bK<|wA Z Z<|aB Z<|⟨q+1,M,m1+1,N,acc++([rd (rdl ws ((rdp lt q).1)) (((((rdp lt q).2)+(((rdl ws ((rdp lt q).1)).length:Nat):Int))-1)%(((rdl ws ((rdp lt q).1)).length:Nat):Int))]),⟨G,G,(by rw[aa,J];rfl),(by rw[aa,R,dw];omega),(by rw[SH K G,jc,m];rfl)⟩,G,SA,λ_ h=>h.selR (F:=[_,_,_,_,_,_]) (F':=[_,_,_,_]) [2,3,4,5] cC Z⟩
 refine aP<|aK 1 Z<|wa (aH bYc Z (Ct.fresh (λw a=>aUu ((g.c _) w a) (j.c a) B))) ?_;rintro _ _⟨_,rfl,qu,qv,D,H,u,Q,rfl,P,rfl⟩;have Wt:=P.1;refine gZ (R1:=(⟨22,1,qu,u.length,qv,u,false⟩::(ri 3 D (((fQ ws).map Prod.snd).length) H ((fQ ws).map Prod.snd))::⟨175,2,p,lt.length,o,prs lt,false⟩::(ru 5 d m1 d1 acc)::(ri 3 none 0 0 ([]))::(ru 5 none 0 0 ([]))::Q)) (Sub.refl _) (λ_ h=>Hp.toTail0 (X:=[_,_]) (Y:=[_,_,_,_]) h)<|aB Z<|aD Z<|gN (R1:=[(ru 5 d m1 d1 acc),(ri 3 D (((fQ ws).map Prod.snd).length) H ((fQ ws).map Prod.snd))]) (λ_ h=>(h.selR (F:=[_,_,_,_,_,_]) (F':=[_,_]) [3,1] cC Z).left (X:=[_,_]))<|⟨_,_,_,Z,Z,Z,?_⟩;rw[bg G] at m;obtain rfl:=J;exact⟨_,_,_,_,acc,_,0,Z, .inr (.inr ⟨G,rfl,λw a=>Bh λe=>y ⟨w,a,e⟩,⟨lt,k,S,m⟩,rfl⟩),rfl⟩
theorem _root_.Go.Pure.ExtR.bytes {ws:AD} (h:ExtR ws L TS e) (hb: ∀w∈ws,aI w):aI L:=by
 rcases h with⟨_,_,rfl,_⟩|⟨_,_,_,rfl,_⟩|⟨_,_,_,⟨T,hp,_,rfl⟩,_⟩
 ·exact aI.nil
 ·exact aI.nil
 exact rZ hp λx b=>by
  obtain⟨w,a,h⟩:=ny.1 b;exact hb w a x h
theorem _root_.Go.Pure.ExtR.tlen (h:ExtR ws L TS e):TS.length<=ws.length:=by
 rcases h with⟨_,_,_,rfl⟩|⟨_,_,_,_,rfl⟩|⟨_,_,_,_,rfl⟩
 ·exact oq _
 ·exact oq _
 rw[bn,(jI ws).length_eq];exact rW ws
theorem _root_.Go.Pure.ExtR.all {ws:AD} (h:ExtR ws L TS e) (d:e=0):TS.length=ws.length/\ ∀w∈ws,0<w.length:=by
 rcases h with⟨rfl,_⟩|⟨_,rfl,_⟩|⟨_,_,a,_,rfl⟩
 ·omega
 ·omega
 refine ⟨?_,a⟩;rw[bn,(jI ws).length_eq];unfold dL;rw[bn,Da.2 λw b=>nz (a w b)]
end
section
variable {w:World} {bl Au lf:AF} {cg bm cu rj lj:Nat} {aq:AG} {ws:AD} {so od sz:Int} {TS acc:AH}
theorem aXi {ao:AF} {ar an:Nat} {u:AH} (am:R4 w ao ar an u):
  CF 46 #[sl ao ar an] w (λv R'=>v= .bool (decide ((u.length:Int)=0))):=by
 obtain rfl:=am.lenI;refine fn1 Tryz.func46 Z Z Z<|aD Z<|aD Z<|aS<|⟨_,Z,?_⟩;rfl
theorem aWk {w:World} (a:Rd w bl cg bm 1 aq) (b:SlW .u8 w aq ws):
  CF 89 #[sl bl cg bm, .func (.func 46) #[] #[]] w (λv R'=> ∃z:Int,v=I z/\(0<=z↔gQ ws)):=by
 obtain rfl:cg=ws.length:=by have:=a.len;have:=b.1;omega
 refine fn1 Ko Z Z Z ?_;have B:=a.max;refine aD Z<|aA<|aD Z<|aF<|iK (λ(k:Int)=>[(0,sl bl ws.length bm),(1, .func (.func 46) #[] #[]),(7,I (ws.length:Int)),(8,I k)]) (λk=>[]) (λk=>(0<=k)/\(k<=ws.length)/\(∀j:Int,0<=j->j<k->j<ws.length->0<(rdl ws j).length)) (λk=>(ws.length-k).toNat) ?_ ?_
 ·exact⟨0,⟨G,G,(λj h1 l=>G)⟩,KP⟩
 intro k ⟨e,A,d⟩;refine aD Z<|aA<|aR Z ?_ ?_<;>intro ap
 ·refine aG<|aA<|aF<|aD Z<|aK 3 Z<|wy (aC dm iZ Z Z (a.c _))<|b.elim (i:=k) G G (λx u p q y C=> ?_);refine wy (kS ai Z Z Z (a.c _) p)<|bJc (HV cAw Z Z (Ct.quiet (λw o=>aXi ((q.c _) w o))))<|aJ<|aR Z ?_ ?_<;>intro r
  ·exact aD Z<|aS<|⟨_,Z,k,Z,⟨λ_=>NE e G cF,λ_=>e⟩⟩
  refine aG<|bK<|wA Z Z<|aB Z ?_
  exact⟨k+1,⟨G,G,(λj h1 l m=>by
    rcases bz j k with g|g
    ·exact d j h1 g m
    obtain rfl:j=k:=G
    omega)⟩,G,KP⟩
 exact aP<|aD Z<|aS<|⟨_,Z,-1,Z,⟨λh=>G,λh=>absurd h (ND G d)⟩⟩
theorem aDx {w:World} (a:Rd w bl cg bm 1 aq) (b:SlW .u8 w aq ws):
  CF 48 #[sl bl cg bm, .func (.func 46) #[] #[]] w (λv R'=>v= .bool (decide (gQ ws))):=by
 obtain rfl:cg=ws.length:=by have:=a.len;have:=b.1;omega
 refine fn1 Km Z Z Z<|aD Z<|aK 2 Z<|wa (aH bTh Z (Ct.quiet (λw d=>aWk ((a.c _) w d) (b.c d)))) ?_;rintro _ _⟨rfl,g,rfl,e⟩;refine aB Z<|aS<|⟨_,Z,?_⟩;exact bi Value.bool (sw.2 e)
theorem bRq {k:IntKind} {W w':World} {R:List Row} {vals:AG} {ls:AD} (h:SlW k w vals ls) (hb:RowKit.Below w.heap.size w W) (b:Hp w.heap.size W w' R):SlW k w' vals ls:=
 ⟨h.1,λj a=>let ⟨A,c,h1,h2,h3⟩:=h.2 j a;⟨A,c,h1,(h2.cb hb R) _ b,h3⟩⟩
theorem bDr (b:Rd w bl cg bm 1 aq) (d:SlW .u8 w aq ws) (hp:(0<=so/\so<=2)/\(od=0\/od=1)/\(1<=sz/\sz<=16777216)) (e: ¬gQ ws) (h:ws.flatten.length<=1000/\ws.length<=1000):
  CF 22 #[.agg #[sl Au 0 cu,sl bl ws.length bm], .agg #[I 3,I so,I od,I sz]] w (λv R'=>v=I 0):=by
 obtain rfl:cg=ws.length:=by have:=b.len;have:=d.1;omega
 refine fn1 Il Z Z Z<|wq<|aX (dC (sz:=2) Z Z) λg=>aX (dC (sz:=4) Z Z) λi=>aB Z<|aD Z<|cB [0] 2 Z<|wR Z Z<|aB Z<|aA<|wq<|wy (bO (vs:=[I 3,I so,I od,I sz]) (rdr 0 Z) jd Z fC Z Z (ah Z) Z)<|dD (aH aXf Z (LD G hp))<|iC [1] 17 Z<|aN Z Z<|wy (Yl.f (iL Z Z) cC)<|iC [1] 6 Z<|aN Z Z<|dZ bGc Z (λw a=>aDx ((b.c _) w a) (d.c a))<|pW 36 Z (e)<|aB Z<|aM Z<|aG<|aA<|aA<|bE mixed<|fU [1,1] 0 5 Z<|wC 5 Z (aH FH Z (Ct.fresh (λw a=>jJ ((b.c _) w a) (d.c a) ⟨G,G⟩))) ?_;rintro _ _⟨_,rfl,j,k,rfl,rfl⟩;refine⟨.inr hrZ,?_⟩;refine wD 6 Z (sO ai Z)<|wD 7 Z (dJ Z Z)<|wD 8 Z (Yl.f (iL Z Z))<|fU [2] 9 4 Z<|wG 13 Z Z Z (Yl.f (iL Z Z))<|wD 14 Z (vF Z Z)<|wN<|aM Z<|aG<|aD Z<|aL [] 99<|⟨_,Z,?_⟩;rfl
theorem aIs {L:AH} {e:Int} (b:ExtR ws L TS e) (a: ¬gQ ws) (h1:ws.length<=1000) (d:ws.flatten.length<=100000):e=0:=by
 rcases b with⟨_,h,_⟩|⟨_,_,h,_⟩|⟨_,h,_⟩
 ·omega
 ·exact absurd h a
 exact h
theorem aLe (l:Rd w bl cg bm 1 aq) (o:SlW .u8 w aq ws) (C: ¬gQ ws) (S:ws.flatten.length<=1000/\ws.length<=1000):
  CF 54 #[sl lf rj lj,sl bl cg bm, .agg #[I 3,I so,I od,I sz]] w (λv R'=> ∃(L TS:AH) (A1:AF) (c1:Nat) (A2:AF) (c2:Nat),v= .tuple #[sl A1 (xD TS).length c1,sl A2 L.length c2]/\(ExtR ws L TS 0/\(xD TS).length<=3003)/\R'=[(ru 5 A1 ((xD TS).length) c1 (xD TS)),(ru 5 A2 L.length c2 L)]):=by
 obtain rfl:cg=ws.length:=by have:=l.len;have:=o.1;omega
 refine fn2 Io Z Z Z<|wq<|aX (dC (sz:=4) Z Z) λB=>aB Z<|aA<|lK [0] Z<|aF<|wq<|wQ Z Z<|aB Z<|aM Z<|wq<|wQ Z Z<|aB Z<|aM Z<|wq<|wR Z Z<|aB Z<|bA Z<|aK 1 Z<|wa (aH bZc Z (Ct.fresh (λw d=>aOc ((l.c _) w d) (o.c d) ⟨λw d=>by have:=ng (jo d);omega,G⟩))) ?_;rintro _ _⟨_,rfl,q,y,r,A,L1,a,O,rfl,g,rfl⟩;obtain rfl:=aIs g C G G;have N:=g.tlen;have K:=xQ g;have T:=xR g;have M:=cK 2 (a.length:Int) G;refine aB Z<|aK 2 Z<|bZ BX Z (λw d=>jA G) λH D=>aB Z<|aA<|aD Z<|aF<|eT (λ(i:Int) (A1:AF) (b:Nat) (c1:Nat) (acc:AH)=>[(6,sl A1 b c1),(15,sl q L1.length r),(61,sl y a.length A),(62,I (a.length:Int)),(63,I i)]) (λi A1 b c1 acc=>[(ru 5 A1 b c1 acc),(ru 5 q L1.length r L1),(ri 3 y a.length A a),(rc 27 4 B [I 3,I so,I od,I sz])]) (λi A1 b c1 acc=>(0<=i)/\(i<=a.length)/\(b=acc.length)/\(acc=aU (a.length:Int)++((a.take i.toNat).map aU).flatten)/\((acc.length:Int)<=3+i*3)) (λi A1 b c1 acc=>(a.length-i).toNat) ?_ ?_
 ·exact⟨0,H,(aU (a.length:Int)).length,D,aU (a.length:Int),⟨G,G,(Z),cD,G⟩,KP⟩
 intro i A1 b c1 acc ⟨m,R,p,j,J⟩;refine aD Z<|aA<|aR Z ?_ ?_<;>intro ap
 ·have F:=K _ (bM (L:=a) (k:=i) m G);have X:=cK 2 (rd a i) G;exact aG<|aA<|aF<|wq<|wy (aC ak sz3 Z Z (rdr 2 Z))<|wy (aQ av Z Z (rdr 2 Z))<|aB Z<|aT 2 Z<|bZ BX Z (λw d=>jA G) λQ P=>dG (aO 1 Z ai zb5 Z Z Z (rdr 0 Z)) λu x=>bC (v:=sl u (b+((aU (rd a i)).length)) x) Z<|aB Z<|bK<|wA Z Z<|aB Z<|⟨i+1,u,b+((aU (rd a i)).length),x,acc++(aU (rd a i)),⟨G,G,(by rw[aa,p]),(by rw[SG m G,<-dx,<-j]),(by rw[aa];omega)⟩,G,SA,λ_ h=>h.sel [1,2,3,4] cC Z⟩
 refine aP<|aD Z<|aL [0,1] 99<|⟨_,_,Z,Z,?_⟩;rw[bg G] at j;have e:acc=xD a:=by rw[j];rfl
 subst p;rw[e] at J ⊢;exact⟨L1,a,_,_,_,_,Z,⟨g,G⟩,rfl⟩
theorem NU {TS:AH} (h: ∀t∈TS,0<t):aI (xD TS):=by
 intro x a;rcases ek.1 a with a|a
 ·exact dM G x a
 obtain ⟨l,hl,a⟩:=ny.1 a;obtain⟨t,b,rfl⟩:=gq.1 hl;exact dM (by have:=h t b;omega) x a
theorem aYa {b:AH} (k:R4 w lf rj lj b) (j:Rd w bl cg bm 1 aq) (h:SlW .u8 w aq ws) (hb:b=(canon ws).flatten) (go:aI b) (hp:(0<=so/\so<=2)/\(od=0\/od=1)/\(1<=sz/\sz<=16777216)) (p: ¬gQ ws) (y:ws.flatten.length<=1000/\ws.length<=1000):
  CF 27 #[sl lf rj lj,sl bl cg bm, .agg #[I 3,I so,I od,I sz]] w (λv R'=> ∃A c,v=sl A (eX od ws).length c/\R'=[(ru 5 A ((eX od ws).length) c (eX od ws))]):=by
 obtain rfl:=k.lenI;obtain rfl:cg=ws.length:=by have:=j.len;have:=h.1;omega
 refine fn1 Im Z Z Z ?_;have r7:=bi List.length hb;have Q:=gK ws;have zc:=cK 2 (b.length:Int) G;refine wq<|aX (dC (sz:=4) Z Z) λR=>aB Z<|aK 2 Z<|wy (bO (vs:=[I 3,I so,I od,I sz]) (rdr 0 Z) jd Z fC Z Z (ah Z) Z)<|wa (aH bMy Z (Ct.fresh (λw a=>aLe ((j.c _) w a) (h.c a) p y))) ?_;rintro _ _⟨_,rfl,L1,m,r,u,T,X,rfl,⟨i,B⟩,rfl⟩;have g:=i.bytes (λw a=>((h.okB) w a).1);have ya:=xR i;have d6:=qX (b:=L1) (o:=od) g;have mt:=gK ws;have r9:=cK 2 ((canon ws).flatten.length:Int) G;have N:=cK 2 ((bT L1 od).length:Int) G;refine aB Z<|cB [2] 3 Z<|bZ bGb Z (λw a=>xK ((rdr 1 Z) w a) g hp.2.1 G) λD q=>aB Z<|aK 2 Z<|bZ BX Z (λw a=>jA G) λL H=>bH 3 Z<|bZ BX Z (λw a=>jA G) λF M=>wa (aH aXe Z (Ct.fresh (λw a=>uB))) ?_;rintro _ _⟨_,rfl,P,rfl,rfl⟩;refine wm Z<|aX (jD [Value.slice lf b.length lj] dm pF Z Z Z Z) λO=>dD (aH aXd Z (Ct.at 1 Z (uA (ls:=[b]) (.inl ⟨Z,Z,df ..,G⟩) (rdr 0 rfl) rfl (HZ.one (l:=b) (k.c _) go (by first|rfl|simp|(simp[upd];done))) (Big.one (by first|omega|decide|simp))))) ?_;refine bZ bMx Z (λw a=>KG ⟨by unfold bv;omega,by unfold bv;have:=(lG ([b]).flatten).isLt;omega⟩) λJ K=> ?_;refine wm Z<|aX (jD [Value.slice L ((aU (b.length:Int)).length) H,Value.slice r ((xD m).length) u,Value.slice F ((aU (((bT L1 od).length:Nat):Int)).length) M,Value.slice J 4 K,Value.slice D ((bT L1 od).length) q] dm pF Z Z Z Z) λY=>bZ FH Z (λw a=>jJ ((rdr 0 Z) w a) ((((((gI _ _).snoc ((rdr 5 Z) w a) (λx d=>eQ ((dM G) x d)) G).snoc ((rdr 7 Z) w a) (λx d=>eQ ((NU (λt C=>(xQ i t C).1)) x d)) G).snoc ((rdr 4 Z) w a) (λx d=>eQ ((dM G) x d)) G).snoc ((rdr 1 Z) w a) (λx d=>eQ ((jQ _) x d)) (by show(4:Nat)<=_;decide)).snoc ((rdr 6 Z) w a) (λx d=>eQ ((lQ _ _) x d)) G) ⟨by simp only[qo,ig,je,ou,jg,ug,uy,Gx,iw];have S:(fT (bv (lG ([b]).flatten))).length=4:=rfl;omega,cD⟩) λtc tg=> ?_;refine aB Z<|aL [0] 99<|⟨_,Z,?_⟩
 have e:([aU (b.length:Int),xD m,aU (((bT L1 od).length:Nat):Int),fT (bv (lG ([b]).flatten)),bT L1 od]).flatten=eX od ws:=by
  subst hb;unfold eX;rw[QO i (λw a=>((h.okB) w a).1)];simp
 rw[<-e];exact⟨_,_,Z,Z⟩
theorem aXa (h:acc=(([87,72,82,76]++[1,3%256,so%256,od%256])++aU sz)++(List.replicate (chN (canon ws).flatten.length (100000:Int).toNat) (eX od ws)).flatten) (hs:0<=so/\so<=2) (j:od=0\/od=1) (d: ¬gQ ws) (i:ws.flatten.length<=1000):
  ([]++[acc]++[aU 0]++[aU (((canon ws).flatten.length:Nat):Int)]:AD).flatten=tC so od sz ws:=by
 have e:(List.replicate (chN (canon ws).flatten.length (100000:Int).toNat) (eX od ws)).flatten=if ws=[] then [] else eX od ws:=by
  rw[gK];by_cases b:ws=[]
  ·subst b;rfl
  rw [bq b]
  have g:0<ws.flatten.length:=by
   cases ws with
   |nil=>exact absurd rfl b
   |cons w l=>
    have:w.length≠0:=λe=>d ⟨w, .head _,e⟩;rw[jv,aa];omega
  have:chN ws.flatten.length (100000:Int).toNat=1:=by
   show(ws.flatten.length+100000-1)/100000=1;omega
  rw[this];simp
 rw[h,e,kg (a:=so) G G,kg (a:=od) G G];unfold tC;simp
theorem rG {ws:AD} (hb: ∀w∈ws,aI w) (p: ¬gQ ws) (a: ∃L TS,ExtR ws L TS 0) (v:ws.flatten.length<=1000/\ws.length<=1000):(eX od ws).length<=8000/\aI (eX od ws):=by
 obtain⟨L,TS,a⟩:=a;have d:=a.bytes hb;have B:=xR a;have k:=a.tlen;have d6:=qX (b:=L) (o:=od) d;have mt:=gK ws;have A:=cK 2 ((canon ws).flatten.length:Int) G;have m:=cK 2 ((bT L od).length:Int) G;have e:=cK 2 (TS.length:Int) G;have u:(fT (bv (lG (canon ws).flatten))).length=4:=rfl
 have y:(TS.map aU).flatten.length<=3*TS.length:=by
  have i:=xQ a;clear e k a
  induction TS with
  |nil=>simp
  |cons t l ih=>
   have h1:=i t (.head _);have q:=cK 2 t G;have r:=ih λt g=>i t (.tail _ g);rw[jg,jv,aa,dh];omega
 unfold eX xD;rw[QO a hb];refine⟨by simp only[aa];omega,λx j=> ?_⟩;simp only[ek] at j;rcases j with h|(h|h)|h|h|h
 ·exact dM G x h
 ·exact dM G x h
 ·exact NU (λt g=>(xQ a t g).1) x (ek.2 (.inr h))
 ·exact dM G x h
 ·exact jQ _ x h
 exact lQ _ _ x h
theorem aOf {ws:AD} {k:Nat} (h:acc=(([87,72,82,76]++[1,3%256,so%256,od%256])++aU sz)++(List.replicate k (eX od ws)).flatten) (hs:0<=so/\so<=2) (i:od=0\/od=1) (hb: ∀w∈ws,aI w) (b: ¬gQ ws) (e: ∃L TS,ExtR ws L TS 0) (d:ws.flatten.length<=1000/\ws.length<=1000) (g:0<=sz):aI acc:=by
 rw[h];intro x a;rcases ek.1 a with a|a
 ·rcases ek.1 a with a|a
  ·simp only[je,ig,il,vw,Ib] at a;omega
  exact dM g x a
 obtain ⟨l,hl,a⟩:=ny.1 a;rw[Am hl] at a;exact(rG hb b e d).2 x a
theorem aIz {ws:AD} (h:acc=(([87,72,82,76]++[1,3%256,so%256,od%256])++aU sz)++(List.replicate (chN (canon ws).flatten.length (100000:Int).toNat) (eX od ws)).flatten) (hb: ∀w∈ws,aI w) (a: ¬gQ ws) (j: ∃L TS,ExtR ws L TS 0) (i:ws.flatten.length<=1000/\ws.length<=1000) (h1:1<=sz) (p:sz<=16777216):acc.length<=8100:=by
 have b:=(rG (od:=od) hb a j i).1;have k:=cK 4 sz G
 have d:chN (canon ws).flatten.length (100000:Int).toNat<=1:=by
  rw[gK];show(ws.flatten.length+100000-1)/100000<=1;omega
 have g:=bi List.length h;rw[aa,aa,aa] at g;have l:([87,72,82,76]:AH).length=4:=rfl;have m:([1,3%256,so%256,od%256]:AH).length=4:=rfl
 have o:(List.replicate (chN (canon ws).flatten.length (100000:Int).toNat) (eX od ws)).flatten.length<=8000:=by
  rcases Nat.le_one_iff_eq_zero_or_eq_one.1 d with e|e
  ·rw[e];simp
  rw[e];simpa using b
 omega
theorem bMt (ba:Rd w bl cg bm 1 aq) (r:SlW .u8 w aq ws) (hp:(0<=so/\so<=2)/\(od=0\/od=1)/\(1<=sz/\sz<=16777216)) (y: ¬gQ ws) (D:ws.flatten.length<=1000/\ws.length<=1000) (hex: ∃L TS,ExtR ws L TS 0):
  CF 10 #[.agg #[sl Au 0 cu,sl bl ws.length bm], .agg #[I 3,I so,I od,I sz]] w (λv R'=> ∃A c,v= .tuple #[sl A (tC so od sz ws).length c,I 0]/\R'=[(ru 5 A ((tC so od sz ws).length) c (tC so od sz ws))]):=by
 obtain rfl:cg=ws.length:=by have:=ba.len;have:=r.1;omega
 refine fnV Tryz.func10 Z Z ?_;have Nw: ∀w∈ws,aI w:=λw a=>((r.okB) w a).1;have hpz:=cK 4 sz G;have mt:=gK ws;have Ds:aI (canon ws).flatten:=λx e=>by obtain⟨l,hl,e⟩:=ny.1 e;exact(CO (r.okB) l hl).1 x e
 have hpu:=cK 2 ((canon ws).flatten.length:Int) G;refine eZ<|bK<|aX (dC (sz:=2) Z Z) λg=>gW (R1:=((rc 25 2 g [sl Au 0 cu,sl bl ws.length bm])::[])) Z<|aX (dC (sz:=4) Z Z) λi=>gW (R1:=((rc 27 4 i [I 3,I so,I od,I sz])::(rc 25 2 g [sl Au 0 cu,sl bl ws.length bm])::[])) Z<|aB Z<|eZ<|wq<|wy (bO (vs:=[sl Au 0 cu,sl bl ws.length bm]) (rdr 1 Z) pz Z iJ Z Z (ah Z) Z)<|wy (bO (vs:=[I 3,I so,I od,I sz]) (rdr 0 Z) jd Z fC Z Z (ah Z) Z)<|dZ bXc Z (λw a=>bDr ((ba.c _) w a) (r.c a) hp y D)<|aB Z<|aK 1 Z<|wy (Yl.f (gD Z Z) cC)<|aJ<|aM Z<|aG<|eZ<|bK<|aX (bG .u8 [87,72,82,76] ai zs5 Z Z Z) λj=>dD (aEk 0 Z Z ai ay Z Z)<|gW (R1:=(⟨5,1,(GG j),4,4,ints .u8 ([87,72,82,76]),true⟩::(rc 27 4 i [I 3,I so,I od,I sz])::(rc 25 2 g [sl Au 0 cu,sl bl ws.length bm])::[])) Z<|iC [1] 2 Z<|wy (eP av ay Z)<|iC [1] 2 Z<|wy (eP av ay Z)<|iC [1] 2 Z<|wy (eP av ay Z)<|aX (bG .u8 [1,3%256,so%256,od%256] ai zs5 Z Z Z) λm=>dG (wF ai zb5 Z (rdr 1 Z) Z (rdr 0 Z) (by first|decide|(dsimp only;decide)) (by first|decide|(dsimp only;decide)) (by first|decide|(dsimp only;decide)) (by first|decide|(dsimp only;decide)) (by first|decide|(dsimp only;decide)) Z) λQ P=> ?_;refine gW (R1:=((ru 5 (GG Q) 8 P (([87,72,82,76])++([1,3%256,so%256,od%256])))::(ru 5 (GG m) 4 4 ([1,3%256,so%256,od%256]))::⟨5,1,(GG j),4,4,ints .u8 ([87,72,82,76]),true⟩::(rc 27 4 i [I 3,I so,I od,I sz])::(rc 25 2 g [sl Au 0 cu,sl bl ws.length bm])::[])) Z<|bC (v:=sl (GG Q) 8 P) Z<|aX (eH (sz:=1) bIx Z) λq=>gW (R1:=((rc 22 1 q [sl none 0 0])::(ru 5 (GG Q) 8 P (([87,72,82,76])++([1,3%256,so%256,od%256])))::(ru 5 (GG m) 4 4 ([1,3%256,so%256,od%256]))::⟨5,1,(GG j),4,4,ints .u8 ([87,72,82,76]),true⟩::(rc 27 4 i [I 3,I so,I od,I sz])::(rc 25 2 g [sl Au 0 cu,sl bl ws.length bm])::[])) Z<|bN (aV 0 Z Z Z iZ Z Z Z Z (ah Z))<|gW (R1:=((rc 22 1 q [sl (GG Q) 8 P])::(ru 5 (GG Q) 8 P (([87,72,82,76])++([1,3%256,so%256,od%256])))::(ru 5 (GG m) 4 4 ([1,3%256,so%256,od%256]))::⟨5,1,(GG j),4,4,ints .u8 ([87,72,82,76]),true⟩::(rc 27 4 i [I 3,I so,I od,I sz])::(rc 25 2 g [sl Au 0 cu,sl bl ws.length bm])::[])) Z<|aJ<|eZ<|bE mixed<|fU [0,4] 0 3 Z<|wC 3 Z (aH BX Z (Ct.fresh (λw a=>jA G))) ?_;rintro _ _⟨_,rfl,O,N,rfl,rfl⟩;refine⟨.inr hrZ,?_⟩;refine wC 4 Z (aO 2 Z ai zb5 Z Z Z (rdr 0 Z) cG) ?_;rintro _ _⟨B,C,rfl,rfl⟩;refine⟨.inl cA,?_⟩;refine pX (R1:=((ru 5 O ((aU sz).length) N (aU sz))::(rc 22 1 q [sl (GG Q) 8 P])::(ru 5 B (8+((aU sz).length)) C ((([87,72,82,76])++([1,3%256,so%256,od%256]))++(aU sz)))::(ru 5 (GG m) 4 4 ([1,3%256,so%256,od%256]))::⟨5,1,(GG j),4,4,ints .u8 ([87,72,82,76]),true⟩::(rc 27 4 i [I 3,I so,I od,I sz])::(rc 25 2 g [sl Au 0 cu,sl bl ws.length bm])::[])) Z<|iA (v:=sl B (8+((aU sz).length)) C) Z<|qN 5 Z cA (aV 1 Z Z Z iZ Z Z Z Z (ah Z)) ?_;rintro _ _ rfl;refine⟨.inl cA,?_⟩;refine pX (R1:=((ru 5 O ((aU sz).length) N (aU sz))::(rc 22 1 q [sl B (8+((aU sz).length)) C])::(ru 5 B (8+((aU sz).length)) C ((([87,72,82,76])++([1,3%256,so%256,od%256]))++(aU sz)))::(ru 5 (GG m) 4 4 ([1,3%256,so%256,od%256]))::⟨5,1,(GG j),4,4,ints .u8 ([87,72,82,76]),true⟩::(rc 27 4 i [I 3,I so,I od,I sz])::(rc 25 2 g [sl Au 0 cu,sl bl ws.length bm])::[])) Z<|wN<|eZ<|bE mixed<|fU [6,6] 0 4 Z<|wC 4 Z (aH bWv Z (Ct.fresh (λw a=>aBo ((ba.c _) w a) (r.c a) (⟨λw a=>by have:=ng (jo a);omega,G⟩)))) ?_;rintro _ _⟨_,rfl,oy,vx,p,Lb,rfl,Ow,rfl⟩;refine⟨.inr λ_ h=>h.right,?_⟩;have Wr:=Ow.1;refine aZf (R1:=(⟨22,1,oy,p.length,vx,p,false⟩::(ru 5 O ((aU sz).length) N (aU sz))::(rc 22 1 q [sl B (8+((aU sz).length)) C])::(ru 5 B (8+((aU sz).length)) C ((([87,72,82,76])++([1,3%256,so%256,od%256]))++(aU sz)))::(ru 5 (GG m) 4 4 ([1,3%256,so%256,od%256]))::⟨5,1,(GG j),4,4,ints .u8 ([87,72,82,76]),true⟩::(rc 27 4 i [I 3,I so,I od,I sz])::(rc 25 2 g [sl Au 0 cu,sl bl ws.length bm])::Lb)) (λ_=>Hp.toTailI0 (X:=[_]) (Y:=[_,_,_,_,_,_,_]))<|wC 5 Z (aH FH Z (Ct.fresh (λw a=>jJ ((rdr 0 Z) w a) (Ow.slw (CO r.okB) (Hp.right (R':=[_,_,_,_,_,_,_,_]) a)) ⟨G,by have:=aBn ws;omega⟩))) ?_;rintro _ _⟨_,rfl,H,J,rfl,rfl⟩;refine⟨.inr hrZ,?_⟩;refine wC 6 Z (jD [Value.slice Au 0 cu,Value.slice H ((((canon ws)).flatten).length) J] dm pF Z Z Z Z) ?_;rintro _ _⟨Fl,rfl,rfl⟩;refine⟨.inr hrZ,?_⟩;refine wC 7 Z (aH FH Z (Ct.fresh (λw a=>uZ (u:=(canon ws).flatten) ((rdr 0 Z) w a) (((gI _ _).snoc (wV w a) (λx e=>eQ ((show aI [] from λ_ h=>nomatch h) x e)) cC).snoc ((rdr 1 Z) w a) (λx e=>eQ (Ds x e)) G) ⟨by rw[show([]++[[]]++[(canon ws).flatten]:AD).flatten=(canon ws).flatten from by simp];omega,cD⟩ cD))) ?_;rintro _ _⟨_,rfl,K,M,rfl,rfl⟩;refine⟨.inr hrZ,?_⟩;refine wD 8 Z (bY Z)<|wN<|eZ<|bRa [9] Z<|eZ<|cB [9] 2 Z<|wR Z Z<|aJ<|bA Z<|sQ Z<|NQ<|eZ<|aT 2 Z<|bZ bWp Z (λw a=>WU ((rdr 0 Z) w a) G) λu4 Qj=>aJ<|vH<|IP Z bVw (OU (A:=K) (c:=M) (zs:=(canon ws).flatten) (sz:=100000) G G G) Z (λ_=>Z) Gd.refl (λ(k:Nat) (A1:AF) (d:Nat) (c1:Nat) (acc:AH)=>((rc 22 1 u4 [sl K (((canon ws).flatten).length) M])::(rc 3 1 Qj [I 100000])::(ru 5 K (((canon ws).flatten).length) M ((canon ws).flatten))::⟨22,1,(GG Fl),2,2,[Value.slice Au 0 cu,Value.slice H ((((canon ws)).flatten).length) J],false⟩::(ru 5 H ((((canon ws)).flatten).length) J (((canon ws)).flatten))::⟨22,1,oy,p.length,vx,p,false⟩::(ru 5 O ((aU sz).length) N (aU sz))::(rc 22 1 q [sl A1 d c1])::(ru 5 A1 d c1 acc)::(ru 5 (GG m) 4 4 ([1,3%256,so%256,od%256]))::⟨5,1,(GG j),4,4,ints .u8 ([87,72,82,76]),true⟩::(rc 27 4 i [I 3,I so,I od,I sz])::(rc 25 2 g [sl Au 0 cu,sl bl ws.length bm])::Lb)) (λk A1 d c1 acc=>(d=acc.length)/\(acc=(([87,72,82,76]++[1,3%256,so%256,od%256])++aU sz)++(List.replicate k (eX od ws)).flatten)) ?_ ?_ ?_ ?_
 ·exact⟨B,8+((aU sz).length),C,(([87,72,82,76])++([1,3%256,so%256,od%256]))++(aU sz),⟨(by rw[aa];rfl),(by rw[Gu];simp)⟩,λ_ h=>h⟩
 ·intro k A1 d c1 acc w ⟨bx,o⟩ a;exact⟨(rdr 0 Z) w a,(rdr 1 Z) w a,(rdr 2 Z) w a⟩
 ·intro lr k A1 d c1 acc WW1 Og ⟨bx,o⟩ Kd;have Lj:k*(100000:Int).toNat<(canon ws).flatten.length:=(NJ cC).1 cF;have fh:k=0:=by have:k*100000<(canon ws).flatten.length:=Lj;omega
  have Oq:(((canon ws).flatten.drop (k*(100000:Int).toNat)).take (100000:Int).toNat)=(canon ws).flatten:=by rw[fh,Bi,Ej,bg (by show _<=100000;omega)]
  have ph:=bi List.length o;rw[fh,Gu,aa,aa,aa] at ph;have h8:([87,72,82,76]:AH).length=4:=rfl;have h9:([1,3%256,so%256,od%256]:AH).length=4:=rfl;have h7:([]:AD).flatten.length=0:=rfl;refine sQ Z ?_;intro Tq j9;refine aF<|bE mixed<|fU [7,12] 0 4 Z<|wD 4 Z (bO (vs:=[I 3,I so,I od,I sz]) (rdr 11 Z) jd Z fC Z Z (ah Z) Z)<|wC 5 Z (aH bWo Z (Ct.fresh (λw a=>aYa (b:=((canon ws).flatten.drop (k*(100000:Int).toNat)).take (100000:Int).toNat) ((aAb (l:=k*(100000:Int).toNat) (n:=(100000:Int).toNat) (rdr 2 Z) cG) w a) ((ba.cb j9 _) w a) (bRq r j9 a) Oq (by rw[Oq];exact Ds) hp y D))) ?_;rintro _ _⟨_,rfl,vt,wb,rfl,rfl⟩;have Nb:=(rG (od:=od) Nw y hex D).1;refine⟨.inr hrZ,?_⟩;refine wC 6 Z (aO 9 Z ai zb5 Z Z Z (rdr 0 Z)) ?_;rintro _ _⟨T,zj,rfl,rfl⟩;refine⟨.inl cA,?_⟩;refine pX (R1:=((ru 5 vt ((eX od ws).length) wb (eX od ws))::(rc 22 1 u4 [sl K (((canon ws).flatten).length) M])::(rc 3 1 Qj [I 100000])::(ru 5 K (((canon ws).flatten).length) M ((canon ws).flatten))::⟨22,1,(GG Fl),2,2,[Value.slice Au 0 cu,Value.slice H ((((canon ws)).flatten).length) J],false⟩::(ru 5 H ((((canon ws)).flatten).length) J (((canon ws)).flatten))::⟨22,1,oy,p.length,vx,p,false⟩::(ru 5 O ((aU sz).length) N (aU sz))::(rc 22 1 q [sl A1 d c1])::(ru 5 T (d+((eX od ws).length)) zj (acc++(eX od ws)))::(ru 5 (GG m) 4 4 ([1,3%256,so%256,od%256]))::⟨5,1,(GG j),4,4,ints .u8 ([87,72,82,76]),true⟩::(rc 27 4 i [I 3,I so,I od,I sz])::(rc 25 2 g [sl Au 0 cu,sl bl ws.length bm])::Lb)) Z<|iA (v:=sl T (d+((eX od ws).length)) zj) Z<|qN 7 Z cA (aV 8 Z Z Z iZ Z Z Z Z (ah Z)) ?_;rintro _ _ rfl;refine⟨.inl cA,?_⟩;exact pX (R1:=((ru 5 vt ((eX od ws).length) wb (eX od ws))::(rc 22 1 u4 [sl K (((canon ws).flatten).length) M])::(rc 3 1 Qj [I 100000])::(ru 5 K (((canon ws).flatten).length) M ((canon ws).flatten))::⟨22,1,(GG Fl),2,2,[Value.slice Au 0 cu,Value.slice H ((((canon ws)).flatten).length) J],false⟩::(ru 5 H ((((canon ws)).flatten).length) J (((canon ws)).flatten))::⟨22,1,oy,p.length,vx,p,false⟩::(ru 5 O ((aU sz).length) N (aU sz))::(rc 22 1 q [sl T (d+((eX od ws).length)) zj])::(ru 5 T (d+((eX od ws).length)) zj (acc++(eX od ws)))::(ru 5 (GG m) 4 4 ([1,3%256,so%256,od%256]))::⟨5,1,(GG j),4,4,ints .u8 ([87,72,82,76]),true⟩::(rc 27 4 i [I 3,I so,I od,I sz])::(rc 25 2 g [sl Au 0 cu,sl bl ws.length bm])::Lb)) Z<|wN<|⟨T,d+((eX od ws).length),zj,acc++(eX od ws),⟨(by rw[aa,bx]),(by rw[zb,lq,<-dx,<-o];simp)⟩,λ_=>λ_ h=>h.selR (F:=[_,_,_,_,_,_,_,_,_,_,_,_,_,_]) (F':=[_,_,_,_,_,_,_,_,_,_,_,_,_]) [1,2,3,4,5,6,7,8,9,10,11,12,13] cC Z⟩
 intro Tr DW1 A1 d c1 acc ⟨bx,o⟩ Nv j8;refine RQ<|aFh<|v_w<|aA<|bE mixed<|wD 0 Z (yL 7 ai Z Z Z)<|bF 2 2 Z<|wC 1 Z (aH BX Z (Ct.fresh (λw a=>jA cC))) ?_;rintro _ _⟨_,rfl,Tl,Ts,rfl,rfl⟩;refine⟨.inr hrZ,?_⟩;refine wC 4 Z (aH BX Z (Ct.fresh (λw a=>jA G))) ?_;rintro _ _⟨_,rfl,Cp,Fd,rfl,rfl⟩;refine⟨.inr hrZ,?_⟩;refine wC 5 Z (jD [Value.slice A1 d c1,Value.slice Tl ((aU 0).length) Ts,Value.slice Cp ((aU ((((canon ws).flatten).length:Nat):Int)).length) Fd] dm pF Z Z Z Z) ?_;rintro _ _⟨g_39,rfl,rfl⟩;refine⟨.inr hrZ,?_⟩;refine wC 6 Z (aH FH Z (Ct.fresh (λw a=>uZ (u:=(tC so od sz ws)) ((rdr 0 Z) w a) ((((gI _ _).snoc ((rdr 11 Z) w a) (λx e=>eQ ((aOf o hp.1 hp.2.1 Nw y hex D G) x e)) (by have:=aIz o Nw y hex D G G;omega)).snoc ((rdr 2 Z) w a) (λx e=>eQ ((dM G) x e)) cC).snoc ((rdr 1 Z) w a) (λx e=>eQ ((dM G) x e)) G) ⟨by rw[show([]++[acc]++[aU 0]++[aU (((canon ws).flatten.length:Nat):Int)]:AD).flatten=acc++(aU 0++aU (((canon ws).flatten.length:Nat):Int)) from by simp,aa,aa];have:=aIz o Nw y hex D G G;have h0:(aU 0).length=1:=rfl;omega,cD⟩ (aXa o hp.1 hp.2.1 y D.1)))) ?_;rintro _ _⟨_,rfl,R,S,rfl,rfl⟩;refine⟨.inr hrZ,?_⟩;refine bF 7 2 Z<|wN<|gN (R1:=[(ru 5 R (((tC so od sz ws)).length) S (tC so od sz ws))]) (λ_ h=>(h.selR (F:=[_,_,_,_,_,_,_,_,_,_,_,_,_,_,_,_,_]) (F':=[_]) [0] cC Z).left (X:=[_]))<|bFk Z j8 ⟨_,_,Z,Z,?_⟩;exact⟨_,_,Z,Z⟩
end
section
variable {w:World} {ao:AF} {ar an:Nat} {u:AH} {m:Int}
theorem bRr {vd:AF} {i4 vi:Nat} {a:AH} (am:R4 w ao ar an u) (d:R5 w vd i4 vi a) (hp:a.Perm (iota u.length)) (K:u.length<=1000000):
  CF 66 #[sl ao ar an,sl vd i4 vi] w (λv R'=> ∃A c,v= .tuple #[sl A (ofL u a).length c,I (zat a),bt]/\R'=[(ru 5 A ((ofL u a).length) c (ofL u a))]):=by
 obtain rfl:=am.lenI;obtain rfl:=d.lenI;refine fn3 func66 Z Z Z ?_;have y:a.length=u.length:=by rw[hp.length_eq,bI]
 have k:a.Nodup:=hp.symm.nodup (fV _);have x:a.Perm (iota a.length):=by rw[y];exact hp
 refine wq<|dX (ru 5 none 0 0 ([]))<|aB Z<|aA<|aK 4 Z<|wy (Yl.f (gD Z Z))<|bH 2 Z<|aN Z Z<|dZ bQl Z (λw C=>aRv ((d.c _) w C) x G)<|aB Z<|aM Z<|aG<|aA<|aD Z<|aR Z ?_ ?_<;>intro ap
 ·refine aD Z<|aL [0] 99<|⟨_,_,_,Z,Z,Z,?_⟩;have e:=bLm (u:=u) (a:=a) G G;rw[e.1,e.2];exact⟨none,0,Z,Z⟩
 refine aG<|aK 3 Z<|wS Z Z<|wy (aC ai sz5 Z Z (am.c _))<|wy (aQ ay Z Z (am.c _))<|aX (bG .u8 [rd u ((u.length:Int)-1)] ai zs5 Z Z Z) λB=>aB Z<|aD Z<|aA<|aD Z<|aF<|nX (λ(i:Int) (A1:AF) (b:Nat) (c1:Nat) (acc:AH) (m:Int)=>[(0,sl ao u.length an),(1,sl vd a.length vi),(7,sl A1 b c1),(8,I m),(9,I i)]) (λi A1 b c1 acc m=>[(ru 5 A1 b c1 acc),(ru 5 none 0 0 ([]))]) (λi A1 b c1 acc m=>(0<=i)/\(i<=a.length)/\(b=acc.length)/\(acc=(if 0<u.length then [rd u (u.length-1)] else [])++ofT u (a.take i.toNat))/\(m=zat (a.take i.toNat))) (λi A1 b c1 acc m=>(a.length-i).toNat) ?_ ?_
 ·exact⟨0,GG B,1,1,[rd u ((u.length:Int)-1)],0,⟨G,G,(by first|rfl|simp),(by first|(rw[cz G];rfl)|(rw[bq G];rfl)),(Z)⟩,KP⟩
 intro i A1 b c1 acc m ⟨j,J,l,g,o⟩
 have L:acc.length<=i.toNat+1:=by
  have h1:=aDc u (a.take i.toNat);rw[ax] at h1;rw[g,aa];split<;>simp only[dh,iw]<;>omega
 have r:i<a.length->0<=rd a i/\rd a i<u.length:=λh=>aY.1 (hp.subset (bM j h));refine aA<|aD Z<|aR Z ?_ ?_<;>intro F
 ·have D:=r G;refine aG<|aA<|aF<|aA<|aK 2 Z<|wy (aC ak sz3 Z Z (d.c _))<|wy (aQ av Z Z (d.c _))<|aB Z<|aR Z ?_ ?_<;>intro H
  ·exact aK 1 Z<|wA Z Z<|aB Z<|aP<|aT 1 Z<|wA Z Z<|aB Z<|⟨i+1,A1,b,c1,acc,i+1,⟨G,G,(l),(aDb j G g cF),(aCa k j G cF)⟩,G,KP⟩
  exact aG<|aT 4 Z<|wy (aC ak sz3 Z Z (d.c _))<|wy (aQ av Z Z (d.c _))<|wS Z Z<|wy (aC ai sz5 Z Z (am.c _))<|wy (aQ ay Z Z (am.c _))<|aX (bG .u8 [rd u ((rd a i)-1)] ai zs5 Z Z Z) λf8=>dG (aO 1 Z ai zb5 Z Z Z (rdr 0 Z)) λjp q=>bC (v:=sl jp (b+1) q) Z<|aB Z<|aT 1 Z<|wA Z Z<|aB Z<|⟨i+1,jp,b+1,q,acc++([rd u ((rd a i)-1)]),m,⟨G,G,(by rw[aa,l];rfl),(aNd j G g cF),(aKu k j G o cF)⟩,G,SA,λ_ h=>h.sel [1,2] cC Z⟩
 refine aP<|aD Z<|aL [0] 99<|⟨_,_,_,Z,Z,Z,?_⟩;have p:a.take i.toNat=a:=bg G;rw[p] at g o;obtain rfl:acc=ofL u a:=g;obtain rfl:=l;subst o;exact⟨_,_,Z,Z⟩
theorem TA (am:R4 w ao ar an u) (e:aI u) (j:u.length<=100000):
  CF 33 #[sl ao ar an] w (λv R'=> ∃(b:AH) (A:AF) (c:Nat),v= .tuple #[sl A (ofL u b).length c,I (zat b)]/\b.Perm (iota u.length)/\b.Pairwise (dA u)/\R'=[(ru 5 A ((ofL u b).length) c (ofL u b))]):=by
 obtain rfl:=am.lenI;refine fn2 func33 Z Z Z<|aD Z<|aK 2 Z<|wa (aH cAo Z (Ct.fresh (λw a=>aPb ((am.c _) w a) e G))) ?_;rintro _ _⟨_,rfl,g,i,h,rfl,d,es,rfl⟩;refine bZ cAp Z (λw a=>bRr ((am.c _) w a) ((rdr 0 Z) w a) d G) λk l=>aB Z<|aD Z<|aL [0] 99<|⟨_,_,Z,Z,?_⟩;exact⟨g,_,_,Z,d,es,Z⟩
theorem bCg (am:R4 w ao ar an u) (e:aI u) (g:XK u m) (hN:u.length<=100000):
  CF 86 #[sl ao ar an,I m] w (λv R'=> ∃A c,v= .tuple #[sl A u.length c,I 0]/\R'=[(ru 5 A u.length c (iW u m))]):=by
 obtain rfl:=am.lenI;refine fn2 func86 Z Z Z ?_;have H:=g.1;have ti:=g.1.1;have pn:=g.1.2;have P:=g.2.1;refine aD Z<|aD Z<|aA<|aK 1 Z<|wy (Yl.f (fD Z Z))<|bH 3 Z<|aN Z Z<|wy (Yl.f (iL Z Z))<|bH 5 Z<|bD 3 [0,1,6,23] 29 (.bool (decide ((0<(u.length:Int))/\(m=0)))) Z ?_ ?_
 ·refine bB 26 Z ?_ ?_<;>intro ap
  ·exact aB Z<|KP
  exact aB Z<|KP
 refine pW 29 Z G<|aB Z<|aM Z<|aG<|aK 1 Z<|aX (dU ai zb5 Z Z) λa=>bC (v:=sl (GG a) u.length u.length) Z<|aB Z<|aD Z<|aA<|aK 1 Z<|wS Z Z<|aB Z<|aF<|gX (λ(k:Int) (r:Int) (S:AH)=>[(0,sl ao u.length an),(1,I m),(6,I (u.length:Int)),(7,sl (GG a) u.length u.length),(8,I r),(9,I k)]) (λk r S=>[(ru 5 (GG a) u.length u.length S)]) (λk r S=>(-1<=k)/\(k<u.length)/\(S.length=u.length)/\(r=dQ u m (u.length-1-k).toNat)/\(∀t:Nat,(t:Int)<u.length-1-k->dQ u m t≠m)/\(∀j:Int,k<j->j<u.length->rd S j=rd (iW u m) j)) (λk r S=>(k+1).toNat) ?_ ?_
 ·exact⟨(u.length:Int)-1,0,List.replicate u.length (0:Int),⟨G,G,(by rw[df]),(by rw[show((u.length:Int)-1-((u.length:Int)-1)).toNat=0 by omega];rfl),(λt h=>G),(λj h1 M=>G)⟩,KP⟩
 intro k r S ⟨fh,o,f9,b,K,C⟩;refine aA<|aD Z<|aR Z ?_ ?_<;>intro bp
 ·have i:0<=k:=G
  have y:=xY (l:=u) e H (u.length-1-k).toNat (λt ht=>K t G) G;rw[<-b] at y;have O:0<=m:=by have:=H.1;omega
  have N:=H.2;have p:r≠m:=by rw[b];exact P _ G
  refine aG<|aA<|aF<|aA<|aK 2 Z<|wy (Yl.f (pU Z Z) (p))<|aJ<|aM Z<|aG<|aD Z<|aA<|aD Z<|aR Z ?_ ?_<;>intro db
  ·have rx:r-1=ixr m r:=by unfold ixr;split<;>omega
   have J:rd u (r-1)=rd u (ixr m (dQ u m (u.length-1-k).toNat)):=by rw[rx,<-b]
   have L:=uT (n:=u.length) y.1 y.2 p O N G;rw[<-rx] at L;refine aT 1 Z<|wS Z Z<|aB Z<|aK 4 Z<|wy (aC ai sz5 Z Z (am.c _))<|wy (aQ ay Z Z (am.c _))<|wy (aC ai sz5 Z Z (rdr 0 Z))<|bN (bJ 0 Z sz5 Z Z)<|aJ<|aD Z<|aD Z<|aF<|dF (λ(j:Int) (z:Int)=>[(0,sl ao u.length an),(1,I m),(6,I (u.length:Int)),(7,sl (GG a) u.length u.length),(8,I z),(9,I k),(10,I (r-1)),(11,I j)]) (λj z=>[(ru 5 (GG a) u.length u.length (upd S k (rd u (r-1))))]) (λj z=>(0<=j)/\(j<=u.length)/\(z=1+(((iota j.toNat).countP λx=>decide (tl u x (r-1)):Nat):Int))) (λj z=>(u.length-j).toNat) ?_ ?_
   ·exact⟨0,1,⟨G,G,(Z)⟩,KP⟩
   intro j z ⟨q,v6,d⟩;have D:=WI u (r-1) j;refine aA<|aD Z<|aR Z ?_ ?_<;>intro dj
   ·refine aG<|aA<|aF<|lS [(0,sl ao u.length an),(1,I m),(6,I (u.length:Int)),(7,sl (GG a) u.length u.length),(8,I z),(9,I k),(10,I (r-1)),(11,I j),(84, .bool (decide (((rd u j)<(rd u (r-1)))\/(((rd u j)=(rd u (r-1)))/\(j<(r-1))))))] [(ru 5 (GG a) u.length u.length (upd S k (rd u (r-1))))] ?_ ?_
    ·refine bE mixed<|bF 0 2 Z<|wD 2 Z (aC ai sz5 Z Z (am.c _))<|wD 3 Z (aQ ay Z Z (am.c _))<|bF 4 2 Z<|wD 6 Z (aC ai sz5 Z Z (am.c _))<|wD 7 Z (aQ ay Z Z (am.c _))<|bF 8 2 Z<|gM 69 Z ?_ ?_<;>intro ff
     ·exact bF 10 15 Z<|wN<|KP
     refine bF 10 2 Z<|wG 12 Z Z Z (aC ai sz5 Z Z (am.c _))<|wG 13 Z Z Z (aQ ay Z Z (am.c _))<|bF 14 2 Z<|wG 16 Z Z Z (aC ai sz5 Z Z (am.c _))<|wG 17 Z Z Z (aQ ay Z Z (am.c _))<|bF 18 2 Z<|gM 79 Z ?_ ?_<;>intro pi
     ·exact bF 20 5 Z<|wN<|KP
     exact bF 20 5 Z<|wN<|KP
    refine aR Z ?_ ?_<;>intro b9
    ·exact aT 1 Z<|wA Z Z<|aB Z<|aT 1 Z<|wA Z Z<|aB Z<|⟨j+1,z+1,⟨G,G,(KT q d cF)⟩,G,KP⟩
    exact aG<|aT 1 Z<|wA Z Z<|aB Z<|⟨j+1,z,⟨G,G,(WH q d cF)⟩,G,KP⟩
   have F:z=dQ u m (u.length-1-(k-1)).toNat:=(QR d G).trans (wB i o b rx);exact aP<|aT 1 Z<|wS Z Z<|aB Z<|⟨k-1,z,upd S k (rd u (r-1)),⟨G,G,(by rw[aW];exact f9),(F),(vP i o K b p),(vZ i o f9 C J)⟩,G,KP⟩
  have rx:r=ixr m r:=by unfold ixr;split<;>omega
  have J:rd u (r)=rd u (ixr m (dQ u m (u.length-1-k).toNat)):=by rw[rx,<-b]
  have L:=uT (n:=u.length) y.1 y.2 p O N G;rw[<-rx] at L;refine aG<|aK 4 Z<|wy (aC ai sz5 Z Z (am.c _))<|wy (aQ ay Z Z (am.c _))<|wy (aC ai sz5 Z Z (rdr 0 Z))<|bN (bJ 0 Z sz5 Z Z)<|aJ<|aD Z<|aD Z<|aF<|dF (λ(j:Int) (z:Int)=>[(0,sl ao u.length an),(1,I m),(6,I (u.length:Int)),(7,sl (GG a) u.length u.length),(8,I z),(9,I k),(10,I r),(11,I j)]) (λj z=>[(ru 5 (GG a) u.length u.length (upd S k (rd u r)))]) (λj z=>(0<=j)/\(j<=u.length)/\(z=1+(((iota j.toNat).countP λx=>decide (tl u x (r)):Nat):Int))) (λj z=>(u.length-j).toNat) ?_ ?_
  ·exact⟨0,1,⟨G,G,(Z)⟩,KP⟩
  intro j z ⟨q,v6,d⟩;have D:=WI u (r) j;refine aA<|aD Z<|aR Z ?_ ?_<;>intro u5
  ·refine aG<|aA<|aF<|lS [(0,sl ao u.length an),(1,I m),(6,I (u.length:Int)),(7,sl (GG a) u.length u.length),(8,I z),(9,I k),(10,I r),(11,I j),(84, .bool (decide (((rd u j)<(rd u r))\/(((rd u j)=(rd u r))/\(j<r)))))] [(ru 5 (GG a) u.length u.length (upd S k (rd u r)))] ?_ ?_
   ·refine bE mixed<|bF 0 2 Z<|wD 2 Z (aC ai sz5 Z Z (am.c _))<|wD 3 Z (aQ ay Z Z (am.c _))<|bF 4 2 Z<|wD 6 Z (aC ai sz5 Z Z (am.c _))<|wD 7 Z (aQ ay Z Z (am.c _))<|bF 8 2 Z<|gM 69 Z ?_ ?_<;>intro Qt
    ·exact bF 10 15 Z<|wN<|KP
    refine bF 10 2 Z<|wG 12 Z Z Z (aC ai sz5 Z Z (am.c _))<|wG 13 Z Z Z (aQ ay Z Z (am.c _))<|bF 14 2 Z<|wG 16 Z Z Z (aC ai sz5 Z Z (am.c _))<|wG 17 Z Z Z (aQ ay Z Z (am.c _))<|bF 18 2 Z<|gM 79 Z ?_ ?_<;>intro X
    ·exact bF 20 5 Z<|wN<|KP
    exact bF 20 5 Z<|wN<|KP
   refine aR Z ?_ ?_<;>intro Y
   ·exact aT 1 Z<|wA Z Z<|aB Z<|aT 1 Z<|wA Z Z<|aB Z<|⟨j+1,z+1,⟨G,G,(KT q d cF)⟩,G,KP⟩
   exact aG<|aT 1 Z<|wA Z Z<|aB Z<|⟨j+1,z,⟨G,G,(WH q d cF)⟩,G,KP⟩
  have F:z=dQ u m (u.length-1-(k-1)).toNat:=(QR d G).trans (wB i o b rx);exact aP<|aT 1 Z<|wS Z Z<|aB Z<|⟨k-1,z,upd S k (rd u r),⟨G,G,(by rw[aW];exact f9),(F),(vP i o K b p),(vZ i o f9 C J)⟩,G,KP⟩
 obtain rfl:S=iW u m:=aEe f9 λj h1 M=>C j G M;refine aP<|aK 1 Z<|wa (aH bTm Z (Ct.fresh (λw Q=>TA ((rdr 0 Z) w Q) (pE e m) (by rw[oZ];omega)))) ?_;rintro _ _⟨_,rfl,b1,R,T,rfl,B,es,rfl⟩;refine aB Z<|aA<|aK 1 Z<|wy (gL ai ay qh Z (rdr 0 Z))<|wm Z<|wy (gL ai ay qh Z (am.c _))<|wy (Yl.f (NM Z Z (EH (pE e m) B) e) (λh=>h (CQ e g B es).1))<|bH 3 Z<|aN Z Z<|wy (Yl.f (gD Z Z) (λh=>h (CQ e g B es).2))<|aB Z<|aM Z<|aG<|aD Z<|aL [1] 99<|⟨_,_,Z,Z,?_⟩;exact⟨_,_,Z,Z⟩
theorem aMp (am:R4 w ao ar an u) (i:aI u) (ue: ¬XK u m) (hN:u.length<=100000):
  CF 86 #[sl ao ar an,I m] w (λv R'=>v= .tuple #[sl none 0 0,I 5]):=by
 obtain rfl:=am.lenI;refine fn2 func86 Z Z Z<|aD Z<|aD Z<|aA<|aK 3 Z<|bD 4 [0,1,6] 22 (.bool (decide ((m<0)\/((u.length:Int)<m)))) Z ?_ ?_
 ·refine bB 18 Z ?_ ?_<;>intro ap
  ·exact aB Z<|KP
  exact aB Z<|KP
 refine wm Z<|bD 7 [0,1,6] 30 (.bool (decide (((m<0)\/((u.length:Int)<m))\/((0<(u.length:Int))/\(m=0))))) Z ?_ ?_
 ·refine bB 23 Z ?_ ?_<;>intro bp
  ·exact aB Z<|KP
  refine bH 3 Z<|bD 3 [0,1,6,23] 29 (.bool (decide ((0<(u.length:Int))/\(m=0)))) Z ?_ ?_
  ·refine bB 26 Z ?_ ?_<;>intro db
   ·exact aB Z<|KP
   exact aB Z<|KP
  exact aB Z<|KP
 refine aJ<|aR Z ?_ ?_<;>intro dj
 ·refine aD Z<|aS<|⟨_,_,Z,Z,?_⟩;rfl
 have C:XJ u m:=by unfold XJ;omega
 refine aG<|aK 1 Z<|aX (dU ai zb5 Z Z) λa=>bC (v:=sl (GG a) u.length u.length) Z<|aB Z<|aD Z<|aA<|aK 1 Z<|wS Z Z<|aB Z<|aF<|gX (λ(k:Int) (r:Int) (S:AH)=>[(0,sl ao u.length an),(1,I m),(6,I (u.length:Int)),(7,sl (GG a) u.length u.length),(8,I r),(9,I k)]) (λk r S=>[(ru 5 (GG a) u.length u.length S)]) (λk r S=>(-1<=k)/\(k<u.length)/\(S.length=u.length)/\(r=dQ u m (u.length-1-k).toNat)/\(∀t:Nat,(t:Int)<u.length-1-k->dQ u m t≠m)/\(∀j:Int,k<j->j<u.length->rd S j=rd (iW u m) j)) (λk r S=>(k+1).toNat) ?_ ?_
 ·exact⟨(u.length:Int)-1,0,List.replicate u.length (0:Int),⟨G,G,(by rw[df]),(by rw[show((u.length:Int)-1-((u.length:Int)-1)).toNat=0 by omega];rfl),(λt h=>G),(λj h1 M=>G)⟩,KP⟩
 intro k r S ⟨fh,g,f9,b,F,y⟩;refine aA<|aD Z<|aR Z ?_ ?_<;>intro ff
 ·have e:0<=k:=G
  have p:=xY (l:=u) i C (u.length-1-k).toNat (λt ht=>F t G) G;rw[<-b] at p;have X:0<=m:=by have:=C.1;omega
  have T:=C.2;refine aG<|aA<|aF<|aA<|aD Z<|aR Z ?_ ?_<;>intro pi
  ·refine aD Z<|aL [] 99<|⟨_,_,Z,Z,?_⟩;rfl
  have q:r≠m:=pi;refine aG<|aD Z<|aA<|aD Z<|aR Z ?_ ?_<;>intro b9
  ·have rx:r-1=ixr m r:=by unfold ixr;split<;>omega
   have D:rd u (r-1)=rd u (ixr m (dQ u m (u.length-1-k).toNat)):=by rw[rx,<-b]
   have H:=uT (n:=u.length) p.1 p.2 q X T G;rw[<-rx] at H;refine aT 1 Z<|wS Z Z<|aB Z<|aK 4 Z<|wy (aC ai sz5 Z Z (am.c _))<|wy (aQ ay Z Z (am.c _))<|wy (aC ai sz5 Z Z (rdr 0 Z))<|bN (bJ 0 Z sz5 Z Z)<|aJ<|aD Z<|aD Z<|aF<|dF (λ(j:Int) (z:Int)=>[(0,sl ao u.length an),(1,I m),(6,I (u.length:Int)),(7,sl (GG a) u.length u.length),(8,I z),(9,I k),(10,I (r-1)),(11,I j)]) (λj z=>[(ru 5 (GG a) u.length u.length (upd S k (rd u (r-1))))]) (λj z=>(0<=j)/\(j<=u.length)/\(z=1+(((iota j.toNat).countP λx=>decide (tl u x (r-1)):Nat):Int))) (λj z=>(u.length-j).toNat) ?_ ?_
   ·exact⟨0,1,⟨G,G,(Z)⟩,KP⟩
   intro j z ⟨o,v6,d⟩;have A:=WI u (r-1) j;refine aA<|aD Z<|aR Z ?_ ?_<;>intro u5
   ·refine aG<|aA<|aF<|lS [(0,sl ao u.length an),(1,I m),(6,I (u.length:Int)),(7,sl (GG a) u.length u.length),(8,I z),(9,I k),(10,I (r-1)),(11,I j),(84, .bool (decide (((rd u j)<(rd u (r-1)))\/(((rd u j)=(rd u (r-1)))/\(j<(r-1))))))] [(ru 5 (GG a) u.length u.length (upd S k (rd u (r-1))))] ?_ ?_
    ·refine bE mixed<|bF 0 2 Z<|wD 2 Z (aC ai sz5 Z Z (am.c _))<|wD 3 Z (aQ ay Z Z (am.c _))<|bF 4 2 Z<|wD 6 Z (aC ai sz5 Z Z (am.c _))<|wD 7 Z (aQ ay Z Z (am.c _))<|bF 8 2 Z<|gM 69 Z ?_ ?_<;>intro Qt
     ·exact bF 10 15 Z<|wN<|KP
     refine bF 10 2 Z<|wG 12 Z Z Z (aC ai sz5 Z Z (am.c _))<|wG 13 Z Z Z (aQ ay Z Z (am.c _))<|bF 14 2 Z<|wG 16 Z Z Z (aC ai sz5 Z Z (am.c _))<|wG 17 Z Z Z (aQ ay Z Z (am.c _))<|bF 18 2 Z<|gM 79 Z ?_ ?_<;>intro Nx
     ·exact bF 20 5 Z<|wN<|KP
     exact bF 20 5 Z<|wN<|KP
    refine aR Z ?_ ?_<;>intro Ny
    ·exact aT 1 Z<|wA Z Z<|aB Z<|aT 1 Z<|wA Z Z<|aB Z<|⟨j+1,z+1,⟨G,G,(KT o d cF)⟩,G,KP⟩
    exact aG<|aT 1 Z<|wA Z Z<|aB Z<|⟨j+1,z,⟨G,G,(WH o d cF)⟩,G,KP⟩
   have B:z=dQ u m (u.length-1-(k-1)).toNat:=(QR d G).trans (wB e g b rx);exact aP<|aT 1 Z<|wS Z Z<|aB Z<|⟨k-1,z,upd S k (rd u (r-1)),⟨G,G,(by rw[aW];exact f9),(B),(vP e g F b q),(vZ e g f9 y D)⟩,G,KP⟩
  have rx:r=ixr m r:=by unfold ixr;split<;>omega
  have D:rd u (r)=rd u (ixr m (dQ u m (u.length-1-k).toNat)):=by rw[rx,<-b]
  have H:=uT (n:=u.length) p.1 p.2 q X T G;rw[<-rx] at H;refine aG<|aK 4 Z<|wy (aC ai sz5 Z Z (am.c _))<|wy (aQ ay Z Z (am.c _))<|wy (aC ai sz5 Z Z (rdr 0 Z))<|bN (bJ 0 Z sz5 Z Z)<|aJ<|aD Z<|aD Z<|aF<|dF (λ(j:Int) (z:Int)=>[(0,sl ao u.length an),(1,I m),(6,I (u.length:Int)),(7,sl (GG a) u.length u.length),(8,I z),(9,I k),(10,I r),(11,I j)]) (λj z=>[(ru 5 (GG a) u.length u.length (upd S k (rd u r)))]) (λj z=>(0<=j)/\(j<=u.length)/\(z=1+(((iota j.toNat).countP λx=>decide (tl u x (r)):Nat):Int))) (λj z=>(u.length-j).toNat) ?_ ?_
  ·exact⟨0,1,⟨G,G,(Z)⟩,KP⟩
  intro j z ⟨o,v6,d⟩;have A:=WI u (r) j;refine aA<|aD Z<|aR Z ?_ ?_<;>intro N
  ·refine aG<|aA<|aF<|lS [(0,sl ao u.length an),(1,I m),(6,I (u.length:Int)),(7,sl (GG a) u.length u.length),(8,I z),(9,I k),(10,I r),(11,I j),(84, .bool (decide (((rd u j)<(rd u r))\/(((rd u j)=(rd u r))/\(j<r)))))] [(ru 5 (GG a) u.length u.length (upd S k (rd u r)))] ?_ ?_
   ·refine bE mixed<|bF 0 2 Z<|wD 2 Z (aC ai sz5 Z Z (am.c _))<|wD 3 Z (aQ ay Z Z (am.c _))<|bF 4 2 Z<|wD 6 Z (aC ai sz5 Z Z (am.c _))<|wD 7 Z (aQ ay Z Z (am.c _))<|bF 8 2 Z<|gM 69 Z ?_ ?_<;>intro O
    ·exact bF 10 15 Z<|wN<|KP
    refine bF 10 2 Z<|wG 12 Z Z Z (aC ai sz5 Z Z (am.c _))<|wG 13 Z Z Z (aQ ay Z Z (am.c _))<|bF 14 2 Z<|wG 16 Z Z Z (aC ai sz5 Z Z (am.c _))<|wG 17 Z Z Z (aQ ay Z Z (am.c _))<|bF 18 2 Z<|gM 79 Z ?_ ?_<;>intro P
    ·exact bF 20 5 Z<|wN<|KP
    exact bF 20 5 Z<|wN<|KP
   refine aR Z ?_ ?_<;>intro Q
   ·exact aT 1 Z<|wA Z Z<|aB Z<|aT 1 Z<|wA Z Z<|aB Z<|⟨j+1,z+1,⟨G,G,(KT o d cF)⟩,G,KP⟩
   exact aG<|aT 1 Z<|wA Z Z<|aB Z<|⟨j+1,z,⟨G,G,(WH o d cF)⟩,G,KP⟩
  have B:z=dQ u m (u.length-1-(k-1)).toNat:=(QR d G).trans (wB e g b rx);exact aP<|aT 1 Z<|wS Z Z<|aB Z<|⟨k-1,z,upd S k (rd u r),⟨G,G,(by rw[aW];exact f9),(B),(vP e g F b q),(vZ e g f9 y D)⟩,G,KP⟩
 obtain rfl:S=iW u m:=aEe f9 λj h1 M=>y j G M;refine aP<|aK 1 Z<|wa (aH bTm Z (Ct.fresh (λw hw=>TA ((rdr 0 Z) w hw) (pE i m) (by rw[oZ];omega)))) ?_;rintro _ _⟨_,rfl,K,Mu,Mv,rfl,L,es,rfl⟩;refine aB Z<|aA<|aK 1 Z<|wy (gL ai ay qh Z (rdr 0 Z))<|wm Z<|wy (gL ai ay qh Z (am.c _))<|wy (NM Z Z (EH (pE i m) L) i)<|wm Z<|bD 4 [7] 101 (.bool (decide (((ofL (iW u m) K)≠u)\/((zat K)≠m)))) Z ?_ ?_
 ·refine bB 97 Z ?_ ?_<;>intro R
  ·exact aB Z<|KP
  exact aB Z<|KP
 refine aJ<|aR Z ?_ ?_<;>intro J
 ·refine aD Z<|aL [] 99<|⟨_,_,Z,Z,?_⟩;rfl
 refine aG<|aD Z<|aL [] 99<|⟨_,_,Z,Z,?_⟩;have Y:=pg.1 λh=>J (.inl h);have e2:=pg.1 λh=>J (.inr h);have h:=(aFj (pE i m) L es).1;rw[Y,e2] at h;exact absurd h ue
end
section
variable {w:World} {k so od sz:Int} {vd ao Aq:AF} {vi ar an cq m:Nat} {u l:AH}
theorem JP:
  CF 28 #[.agg #[I k,I so,I od,I sz]] w (λv R'=>v= .bool (decide ((0<=k/\k<=3)/\(0<=so/\so<=2)/\(od=0\/od=1)/\(1<=sz/\sz<=16777216)))):=by
 refine fn1 func28 Z Z Z<|wq<|aX (dC (sz:=4) Z Z) λa=>aB Z<|cB [0] 4 Z<|bD 4 [1] 10 (.bool (decide ((0<=k)/\(k<=3)))) Z ?_ ?_
 ·refine bB 6 Z ?_ ?_<;>intro ap
  ·exact sJ [0] Z<|KP
  exact aB Z<|KP
 refine wm Z<|bD 4 [1] 15 (.bool (decide (((0<=k)/\(k<=3))/\(0<=so)))) Z ?_ ?_
 ·refine bB 11 Z ?_ ?_<;>intro d
  ·exact sJ [0] Z<|KP
  exact aB Z<|KP
 refine wm Z<|bD 4 [1] 20 (.bool (decide ((((0<=k)/\(k<=3))/\(0<=so))/\(so<=2)))) Z ?_ ?_
 ·refine bB 16 Z ?_ ?_<;>intro e
  ·exact sJ [0] Z<|KP
  exact aB Z<|KP
 refine wm Z<|bD 9 [1] 30 (.bool (decide (((((0<=k)/\(k<=3))/\(0<=so))/\(so<=2))/\((od=0)\/(od=1))))) Z ?_ ?_
 ·refine bB 21 Z ?_ ?_<;>intro g
  ·refine iC [0] 4 Z<|bD 4 [1,21] 29 (.bool (decide ((od=0)\/(od=1)))) Z ?_ ?_
   ·refine bB 25 Z ?_ ?_<;>intro h
    ·exact aB Z<|KP
    exact sJ [0] Z<|KP
   exact aB Z<|KP
  exact aB Z<|KP
 refine wm Z<|bD 4 [1] 35 (.bool (decide ((((((0<=k)/\(k<=3))/\(0<=so))/\(so<=2))/\((od=0)\/(od=1)))/\(1<=sz)))) Z ?_ ?_
 ·refine bB 31 Z ?_ ?_<;>intro pi
  ·exact sJ [0] Z<|KP
  exact aB Z<|KP
 refine wm Z<|wJ 4 [(40, .bool (decide (((((((0<=k)/\(k<=3))/\(0<=so))/\(so<=2))/\((od=0)\/(od=1)))/\(1<=sz))/\(sz<=16777216))))] [(rc 27 4 a [I k,I so,I od,I sz])] ?_ ?_
 ·refine bB 36 Z ?_ ?_<;>intro b
  ·exact sJ [0] Z<|KP
  exact aB Z<|KP
 refine aB Z<|aL [] 99<|⟨_,Z,?_⟩;exact bi Value.bool (sw.2 G)
theorem NW:
  CF 13 #[sl vd 0 vi] w (λv R'=>v=sl none 0 0):=by
 refine fn1 func13 Z Z Z<|aD Z<|aD Z<|aA<|aD Z<|aF<|kI 1<|eD<|aA<|aK 3 Z<|wy (Yl.f (fD Z Z) cC)<|aJ<|aM Z<|aP<|aD Z<|aS<|⟨_,Z,?_⟩;rfl
theorem bBn (am:R4 w ao ar an u) (hp:(0<=so/\so<=2)/\(od=0\/od=1)/\(1<=sz/\sz<=16777216)) (hk:k=0\/k=1\/k=2) (d:u.length<=100000):
  CF 11 #[.agg #[sl ao u.length an,sl Aq 0 cq], .agg #[I k,I so,I od,I sz]] w (λv R'=>v=I 0):=by
 obtain rfl:=am.lenI;refine fn1 Kk Z Z Z<|wq<|aX (dC (sz:=2) Z Z) λb=>aX (dC (sz:=4) Z Z) λe=>aB Z<|aA<|wq<|wy (bO (vs:=[I k,I so,I od,I sz]) (rdr 0 Z) jd Z fC Z Z (ah Z) Z)<|dZ bNa Z (λw a=>JP)<|rO 7 Z (⟨G,hp⟩)<|iC [0] 4 rfl<|aN rfl rfl<|wy (Yl.f (pU rfl rfl))<|iC [0] 10 rfl<|aN rfl rfl<|wy (Yl.t (gD rfl rfl) G)<|iC [1] 4 rfl<|aN rfl rfl<|wy (Yl.f (iL rfl rfl) cC)<|aB rfl<|aM rfl<|aG<|aA<|aD rfl<|aF<|kI 1<|eD<|aA<|cB [1] 4 Z<|wy (Yl.f (fD Z Z) cC)<|aJ<|aM Z<|aP<|aA<|aA<|bE mixed<|fU [1,1] 0 5 Z<|wC 5 Z (aH aOj Z (Ct.quiet (λw a=>NW))) ?_;rintro _ _⟨rfl,rfl⟩;refine⟨.inr hiZ,?_⟩;refine wD 6 Z (sO ai Z)<|wD 7 Z (dJ Z Z)<|wD 8 Z (Yl.f (iL Z Z))<|fU [1] 9 4 Z<|wG 13 Z Z Z (Yl.f (iL Z Z) cC)<|wD 14 Z (vF Z Z)<|wN<|aM Z<|aG<|aD Z<|aL [] 99<|⟨_,Z,?_⟩;rfl
theorem vO {p0 p1 p2 p3:Int} {i4:Nat} {a:AH} {li:AF} {va ml:Nat} (am:R4 w ao ar an u) (h:R4 w vd i4 vi a) (e:R4 w li va ml l) (i:aI u) (g:aI l) (p:p2=0\/p2=1) (M:u.length<=100000/\a.length<=10000/\l.length<=100000):
  CF 31 #[.agg #[I p0,I p1,I p2,I p3],sl ao ar an,sl vd i4 vi,sl li va ml] w (λv R'=> ∃A c,v=sl A (aU (u.length:Nat)++(a++(aU ((bT l p2).length:Nat)++(fT (bv (lG u))++bT l p2)))).length c/\R'=[(ru 5 A ((aU (u.length:Nat)++(a++(aU ((bT l p2).length:Nat)++(fT (bv (lG u))++bT l p2)))).length) c (aU (u.length:Nat)++(a++(aU ((bT l p2).length:Nat)++(fT (bv (lG u))++bT l p2)))))]):=by
 obtain rfl:=am.lenI;obtain rfl:=h.lenI;obtain rfl:=e.lenI;refine fn1 func31 Z Z Z ?_;have d6:=qX (b:=l) (o:=p2) g;have P:=cK 2 (u.length:Int) G;have q:=cK 2 ((bT l p2).length:Int) G;have D:(fT (bv (lG u))).length=4:=rfl;refine wq<|aX (dC (sz:=4) Z Z) λF=>aB Z<|cB [0] 3 Z<|bZ bVu Z (λw d=>TD ((e.c _) w d) g p G) λH J=>aB Z<|aK 2 Z<|bZ YA Z (λw d=>iX G) λjp O=>wm Z<|dG (aO 0 Z ai zb5 Z Z Z (h.c _)) λx j=>bC (v:=sl x (((aU (u.length:Int)).length)+a.length) j) Z<|aB Z<|aK 3 Z<|bZ YA Z (λw d=>iX G) λL K=>dG (aO 1 Z ai zb5 Z Z Z (rdr 0 Z)) λk m=>bC (v:=sl k ((((aU (u.length:Int)).length)+a.length)+((aU (((bT l p2).length:Nat):Int)).length)) m) Z<|wm Z<|dZ bGa Z (λw d=>JB ((am.c _) w d) i)<|bZ cAs Z (λw d=>aUy ⟨by unfold bv;omega,by unfold bv;have:=(lG u).isLt;omega⟩) λN Q=> ?_;refine dG (aO 2 Z ai zb5 Z Z Z (rdr 0 Z)) λr y=>bC (v:=sl r (((((aU (u.length:Int)).length)+a.length)+((aU (((bT l p2).length:Nat):Int)).length))+4) y) Z<|aB Z<|aK 2 Z<|dG (aO 2 Z ai zb5 Z Z Z (rdr 3 Z)) λB C=>bC (v:=sl B ((((((aU (u.length:Int)).length)+a.length)+((aU (((bT l p2).length:Nat):Int)).length))+4)+((bT l p2).length)) C) Z<|aB Z<|aL [2] 99<|⟨_,Z,?_⟩;rw[show aU (u.length:Nat)++(a++(aU ((bT l p2).length:Nat)++(fT (bv (lG u))++bT l p2)))=(aU (u.length:Nat)++a++aU ((bT l p2).length:Nat)++fT (bv (lG u)))++bT l p2 by simp only[dx]];simp only[aa];exact⟨_,_,Z,Z⟩
theorem aCo (am:R4 w ao ar an u) (b:aI u) (d:u.length<=100000) (hp:(0<=so/\so<=2)/\(od=0\/od=1)/\(1<=sz/\sz<=16777216)):
  CF 15 #[.agg #[I 0,I so,I od,I sz],sl ao ar an] w (λv R'=> ∃A c,v=sl A (cZ 0 od u).length c/\R'=[(ru 5 A ((cZ 0 od u).length) c (cZ 0 od u))]):=by
 obtain rfl:=am.lenI;refine fn1 Kl Z Z Z<|wq<|aX (dC (sz:=4) Z Z) λg=>aB Z<|aA<|lK [0] Z<|aF<|wq<|wQ Z Z<|aB Z<|aM Z<|wq<|wQ Z Z<|aB Z<|aM Z<|aG<|wq<|wy (bO (vs:=[I 0,I so,I od,I sz]) (rdr 0 Z) jd Z fC Z Z (ah Z) Z)<|bH 2 Z<|bZ bMz Z (λw a=>vO ((am.c _) w a) ((TT _) w a) ((am.c _) w a) b b hp.2.1 ⟨d,cC,d⟩) λh i=>aB Z<|aL [0] 99<|⟨_,Z,?_⟩
 have e:cZ 0 od u=aU (u.length:Nat)++([]++(aU ((bT u od).length:Nat)++(fT (bv (lG u))++bT u od))):=by
  unfold cZ;rw[RX (t:=0) (u:=u) cC cC]
 rw[e];exact⟨_,_,Z,Z⟩
theorem aCn (am:R4 w ao ar an u) (g:aI u) (h:u.length<=100000) (hp:(0<=so/\so<=2)/\(od=0\/od=1)/\(1<=sz/\sz<=16777216)):
  CF 15 #[.agg #[I 1,I so,I od,I sz],sl ao ar an] w (λv R'=> ∃A c,v=sl A (cZ 1 od u).length c/\R'=[(ru 5 A ((cZ 1 od u).length) c (cZ 1 od u))]):=by
 obtain rfl:=am.lenI;refine fn1 Kl Z Z Z<|wq<|aX (dC (sz:=4) Z Z) λl=>aB Z<|aA<|lK [0] Z<|aF<|wq<|wR Z Z<|aB Z<|bA Z<|aK 1 Z<|wa (aH bTm Z (Ct.fresh (λw a=>TA ((am.c _) w a) g h))) ?_;rintro _ _⟨_,rfl,d,o,p,rfl,b,es,rfl⟩;refine aB Z<|aA<|bE mixed<|wD 0 Z (bO (vs:=[I 1,I so,I od,I sz]) (rdr 1 Z) jd Z fC Z Z (ah Z) Z)<|bF 1 2 Z<|wD 4 Z (dI Z)<|wC 3 Z (aH YA Z (Ct.fresh (λw a=>iX (by have i:=pK b es;have j:=MG (s:=u) (k:=0) G;omega)))) ?_;rintro _ _⟨_,rfl,jp,r,rfl,rfl⟩;refine⟨.inr hrZ,?_⟩;refine wC 5 Z (aH bMz Z (Ct.fresh (λw a=>vO ((am.c _) w a) ((rdr 0 Z) w a) ((rdr 1 Z) w a) g (EH g b) hp.2.1 ⟨h,by have i:=pK b es;have j:=MG (s:=u) (k:=0) G;have:=cK 2 (zat d) G;omega,by rw[(UT b es).length_eq];exact h⟩))) ?_;rintro _ _⟨_,rfl,q,m,rfl,rfl⟩;refine⟨.inr hrZ,?_⟩;refine wD 6 Z (bY Z)<|wN<|aL [0] 99<|⟨_,Z,?_⟩
 have e:cZ 1 od u=aU (u.length:Nat)++(aU (zat d)++(aU ((bT (ofL u d) od).length:Nat)++(fT (bv (lG u))++bT (ofL u d) od))):=by
  unfold cZ;rw[RY b es]
 rw[e];exact⟨_,_,Z,Z⟩
theorem aCm (am:R4 w ao ar an u) (b:aI u) (d:u.length<=100000) (hp:(0<=so/\so<=2)/\(od=0\/od=1)/\(1<=sz/\sz<=16777216)):
  CF 15 #[.agg #[I 2,I so,I od,I sz],sl ao ar an] w (λv R'=> ∃A c,v=sl A (cZ 2 od u).length c/\R'=[(ru 5 A ((cZ 2 od u).length) c (cZ 2 od u))]):=by
 obtain rfl:=am.lenI;refine fn1 Kl Z Z Z<|wq<|aX (dC (sz:=4) Z Z) λh=>aB Z<|aA<|lK [0] Z<|aF<|wq<|wQ Z Z<|aB Z<|aM Z<|wq<|wR Z Z<|aB Z<|bA Z<|aA<|bE mixed<|wD 0 Z (bO (vs:=[I 2,I so,I od,I sz]) (rdr 0 Z) jd Z fC Z Z (ah Z) Z)<|bF 1 2 Z<|wC 3 Z (aH cAz Z (Ct.fresh (λw a=>aTv ((am.c _) w a) b d))) ?_;rintro _ _⟨_,rfl,l2,i,j,rfl,g,d8,rfl⟩;refine⟨.inr hrZ,?_⟩;refine wC 4 Z (aH bMz Z (Ct.fresh (λw a=>vO ((am.c _) w a) ((TT _) w a) ((rdr 0 Z) w a) b (rZ g (by rw[vC];exact b)) hp.2.1 ⟨d,cC,by rw[bn,LC g];exact d⟩))) ?_;rintro _ _⟨_,rfl,jp,k,rfl,rfl⟩;refine⟨.inr hrZ,?_⟩;refine wD 5 Z (bY Z)<|wN<|aL [0] 99<|⟨_,Z,?_⟩
 have e:cZ 2 od u=aU (u.length:Nat)++([]++(aU ((bT (l2.map (lastB (bws u))) od).length:Nat)++(fT (bv (lG u))++bT (l2.map (lastB (bws u))) od))):=by
  unfold cZ;rw[RZ g d8]
 rw[e];exact⟨_,_,Z,Z⟩
theorem aUs (am:R4 w ao ar an u) (a:aI u) (b:u.length<=100000) (hp:(0<=so/\so<=2)/\(od=0\/od=1)/\(1<=sz/\sz<=16777216)) (hk:k=0\/k=1\/k=2):
  CF 15 #[.agg #[I k,I so,I od,I sz],sl ao ar an] w (λv R'=> ∃A c,v=sl A (cZ k od u).length c/\R'=[(ru 5 A ((cZ k od u).length) c (cZ k od u))]):=by
 rcases hk with rfl|rfl|rfl
 ·exact aCo am a b hp
 ·exact aCn am a b hp
 exact aCm am a b hp
theorem bAb (a:m=l.length) (h:0<=sz):l.take (min sz (m:Int)).toNat=l.take sz.toNat:=by
 subst a;rcases bz sz l.length with h1|h1
 ·rw[Gq G]
 rw[Int.min_eq_right h1,bg G,bg G]
theorem bGy {a:Nat} (b:m=u.length-a*sz.toNat) (h:0<=sz):(u.drop (a*sz.toNat)).drop (min sz (m:Int)).toNat=u.drop ((a+1)*sz.toNat):=by
 subst b;have e:(a+1)*sz.toNat=a*sz.toNat+sz.toNat:=by rw[yj,Ci]
 rw[xu,e];rcases bz sz (u.length-a*sz.toNat:Nat) with h1|h1
 ·rw[Gq G]
 rw[Int.min_eq_right h1,og G,og G]
theorem bBu (am:R4 w ao ar an u) (m:aI u) (hS:u.length<=400) (hp:(0<=so/\so<=2)/\(od=0\/od=1)/\(1<=sz/\sz<=16777216)) (hk:k=0\/k=1\/k=2):
  CF 5 #[.agg #[sl ao u.length an,sl Aq 0 cq], .agg #[I k,I so,I od,I sz]] w (λv R'=> ∃A c,v= .tuple #[sl A (tF k so od sz u).length c,I 0]/\R'=[(ru 5 A ((tF k so od sz u).length) c (tF k so od sz u))]):=by
 obtain rfl:=am.lenI;refine fn2 func5 Z Z Z ?_;have L:u.length<=100000:=G
 have P:=cK 4 sz G;have O:=cK 2 (u.length:Int) G;refine wq<|aX (dC (sz:=2) Z Z) λH=>aX (dC (sz:=4) Z Z) λr=>aB Z<|wq<|wy (bO (vs:=[sl ao u.length an,sl Aq 0 cq]) (rdr 1 Z) pz Z iJ Z Z (ah Z) Z)<|wy (bO (vs:=[I k,I so,I od,I sz]) (rdr 0 Z) jd Z fC Z Z (ah Z) Z)<|dZ bTo Z (λw i=>bBn ((am.c _) w i) hp hk G)<|aB Z<|aA<|aK 1 Z<|wy (Yl.f (gD Z Z) cC)<|aJ<|aM Z<|aG<|wq<|aX (bG .u8 [87,72,82,76,1] ai zs5 Z Z Z) λT=>dD (aEk 0 Z Z ai ay Z Z)<|iC [1] 2 Z<|wy (eP av ay Z)<|iC [1] 2 Z<|wy (eP av ay Z)<|iC [1] 2 Z<|wy (eP av ay Z)<|aX (bG .u8 [k%256,so%256,od%256] ai zs5 Z Z Z) λsk=>dG (wF ai zb5 Z (rdr 1 Z) Z (rdr 0 Z) (by first|decide|(dsimp only;decide)) (by first|decide|(dsimp only;decide)) (by first|decide|(dsimp only;decide)) (by first|decide|(dsimp only;decide)) (by first|decide|(dsimp only;decide)) Z) λrv K=> ?_;refine bC (v:=sl (GG rv) 8 K) Z<|aB Z<|cB [3] 3 Z<|bZ YA Z (λw i=>iX G) λS J=>dG (aO 1 Z ai zb5 Z Z Z (rdr 0 Z) (by dsimp only;omega)) λF D=> ?_;refine bC (v:=sl F (8+((aU sz).length)) D) Z<|aB Z<|aA<|bE mixed<|fU [5,5] 0 5 Z<|wC 5 Z (aH aOj Z (Ct.quiet (λw i=>NW))) ?_;rintro _ _⟨rfl,rfl⟩;refine⟨.inr hiZ,?_⟩;refine wD 6 Z (sO ai Z)<|wD 7 Z (Yl.is (dJ Z Z) (bi (Value.int .i64) (yw _)))<|wD 8 Z (bY Z)<|wN<|aA<|cB [5] 3 Z<|wy (Yl.f (iL Z Z) cC)<|aJ<|aM Z<|aG<|aA<|lK [5] Z<|aF<|sS (λ(d:Nat) (A0:AF) (n0:Nat) (c0:Nat) (A1:AF) (g:Nat) (c1:Nat) (acc:AH)=>[(3,PG r),(7,sl A1 g c1),(8,I (u.length:Int)),(9,sl A0 n0 c0)]) (λd A0 n0 c0 A1 g c1 acc=>[(ru 5 S ((aU sz).length) J (aU sz)),(ru 5 A1 g c1 acc),(ru 5 (GG sk) 3 3 ([k%256,so%256,od%256])),⟨5,1,(GG T),5,5,ints .u8 ([87,72,82,76,1]),true⟩,(rc 27 4 r [I k,I so,I od,I sz]),(rc 25 2 H [sl ao u.length an,sl Aq 0 cq])]) (λd A0 n0 c0 A1 g c1 acc=>(d<=chN u.length sz.toNat)/\(Rd w A0 n0 c0 1 (ints .u8 (u.drop (d*sz.toNat))))/\(g=acc.length)/\(acc=(([87,72,82,76,1]++[k%256,so%256,od%256])++aU sz)++lY k od sz.toNat u d)) (λd A0 n0 c0 A1 g c1 acc=>n0) ?_ ?_
 ·exact⟨0,ao,u.length,an,F,8+((aU sz).length),D,(([87,72,82,76,1])++([k%256,so%256,od%256]))++(aU sz),⟨(oq _),(by rw[Bi,Ej];exact am),(by rw[aa];rfl),(by rw[zH,ik])⟩,KP⟩
 intro d A0 n0 c0 A1 g c1 acc ⟨Og,io,q,p⟩;have j:=io.lenI;rw[az] at j;have M:d<=400:=by have x:chN u.length sz.toNat<=u.length:=aOx G;omega
 have ph:=bi List.length p;rw[aa,aa,aa] at ph;have r7:=sG (t:=k) (o:=od) (n:=sz.toNat) m L d;have ki:=GX (t:=k) (o:=od) (b:=(u.drop (d*sz.toNat)).take (min sz (n0:Int)).toNat) ((m.drop _).take _) (by rw[ax,az];omega);have y:((u.drop (d*sz.toNat)).take (min sz (n0:Int)).toNat).length<=u.length:=by rw[ax,az];omega
 have h8:([87,72,82,76,1]:AH).length=5:=rfl;have h9:([k%256,so%256,od%256]:AH).length=3:=rfl;refine aA<|aD Z<|aR Z ?_ ?_<;>intro ap
 ·have v7:d+1<=chN u.length sz.toNat:=(NJ G).2 G;refine aG<|aF<|cB [4] 4 Z<|wy (pQ Z Z)<|aB Z<|aA<|bE mixed<|wD 0 Z (dI Z)<|wD 1 Z (bO (vs:=[I k,I so,I od,I sz]) (rdr 4 Z) jd Z fC Z Z (ah Z) Z)<|bF 2 2 Z<|wD 4 Z (dV ai sz5 Z Z (io.c _))<|wC 5 Z (aH cBb Z (Ct.fresh (λw i=>aUs (u:=((u.drop (d*sz.toNat))).take (min sz (n0:Int)).toNat) ((RdC.toI (h:=(min sz (n0:Int)).toNat) (io.c _) G) w i) ((m.drop _).take _) G hp hk))) ?_;rintro _ _⟨_,rfl,gg,gi,rfl,rfl⟩;refine⟨.inr hrZ,?_⟩;refine wC 6 Z (aO 2 Z ai zb5 Z Z Z (rdr 0 Z)) ?_;rintro _ _⟨B,C,rfl,rfl⟩;refine⟨.inl cA,?_⟩;refine iA (v:=sl B (g+((cZ k od (((u.drop (d*sz.toNat))).take (min sz (n0:Int)).toNat)).length)) C) Z<|wD 7 Z (bY Z)<|wN<|aT 2 Z<|wy (dE ai sz5 Z Z)<|aB Z ?_
  exact⟨(d+1),lL A0 (min sz (n0:Int)).toNat c0 1,n0-(min sz (n0:Int)).toNat,c0-(min sz (n0:Int)).toNat,B,g+((cZ k od (((u.drop (d*sz.toNat))).take (min sz (n0:Int)).toNat)).length),C,acc++(cZ k od (((u.drop (d*sz.toNat))).take (min sz (n0:Int)).toNat)),⟨(v7),(by
    have h:=io.fromI (l:=(min sz (n0:Int)).toNat) G;rw[bGy j G] at h
    exact h),(by rw[aa,q]),(by rw[zI,<-dx,<-p,bAb (by rw[az];exact j) G])⟩,G,SA,λ_ h=>h.sel [1,2,3,4,5,6] cC Z⟩
 refine aP<|aK 1 Z<|aX (bG .u8 [0] ai zs5 Z Z Z) λu3=>dG (aO 2 Z ai zb5 Z Z Z (rdr 0 Z)) λX Y=>bC (v:=sl X (g+1) Y) Z<|wm Z<|bZ YA Z (λw i=>iX G) λoa ob=>dG (aO 3 Z ai zb5 Z Z Z (rdr 0 Z)) λQ R=>bC (v:=sl Q ((g+1)+((aU (u.length:Int)).length)) R) Z<|aB Z<|aL [3] 99<|⟨_,_,Z,Z,?_⟩;have n8:n0=0:=G
 have N: ¬d<chN u.length sz.toNat:=λh=>by have:=(NJ G).1 h;omega
 obtain rfl:d=chN u.length sz.toNat:=G
 have e:acc++[0]++aU (u.length:Int)=tF k so od sz u:=by
  rw[p,kg (a:=k) G G,kg (a:=so) G G,kg (a:=od) G G];unfold tF;rw[show aU 0=[0] from rfl];simp[chN,chK]
 have x:(g+1)+(aU (u.length:Int)).length=(tF k so od sz u).length:=by rw[<-e,aa,aa,q];rfl
 rw[e,x];exact⟨_,_,Z,Z⟩
end
section
variable {ls all md:AD} {i n kf:Int} {u last tm:AH} {w:World} {ao:AF} {ar an:Nat}
theorem aUc (cb:Array Value):bIr Tryz.prog 228 95 cb:=λα _ enc h1 e hO g off cap d w b hH hblk a=>
 Any.slices_SortFunc Tryz.laysRow enc h1 e hO 95 cb g off cap d w bVk b hH hblk a
theorem aLs:EY Tryz.prog 228:=λp cap a w=>AnyF.slices_SortFunc_none {Tryz.laysRow with} p cap a w
theorem aMf {l:AH} {cs:AD} {acc:AH} (a:0<=i) (h1:i<cs.length) (h:ls=(cs.take i.toNat).map (bS l)) (b:acc=[]++((rdl cs i).reverse.take (rdl cs i).length).map (rd l)):ls++[acc]=(cs.take (i+1).toNat).map (bS l):=by
 rw[QQ (bS l) a h1,<-h,b,ig,bg (by rw[kz];omega)];rfl
theorem aZe (h:aI u) (g:u.length<=1000000:=by omega):OkB ((bR (fsL u)).map (bS u)):=λl hl=>by
 obtain⟨c,hc,rfl⟩:=gq.1 hl;refine⟨λx b=>by obtain⟨y,i,rfl⟩:=gq.1 b;exact h.rd y,?_⟩;have a:=BR h;have h1:=ng (jo hc);have d:=CB a;have e:=oG u;rw[kG];omega
theorem aIt (am:R4 w ao ar an u) (ac:aI u) (hN:u.length<=1000000):
  CF 196 #[sl ao ar an] w (λv R'=> ∃(A:AF) (c:Nat) (vals:AG) (Rs:List Row),v=sl A vals.length c/\SlR .u8 Rs vals (((bR (fsL u)).map (bS u)))/\R'=⟨22,1,A,vals.length,c,vals,false⟩::Rs):=by
 obtain rfl:=am.lenI;refine fnV func196 Z Z ?_;have Hb:=BR ac;have ua:=oG u;have Za:=CB Hb;have hcf:=xS (p:=fsL u);refine eZ<|bK<|aX (dC (sz:=1) Z Z) λj=>gW (R1:=((rc 22 1 j [sl ao u.length an])::[])) Z<|gZ (R1:=(⟨22,1,none,0,0,[],false⟩::(rc 22 1 j [sl ao u.length an])::[])) (Sub.refl _) (λ_ h=>h.nil 22 1)<|aB Z<|eZ<|nQ [1] 1 Z<|bZ bPt Z (λw D=>aRp ((am.c _) w D) ac hN) λq r=>wa (aH bPu Z (Ct.fresh (λw D=>aBf ((rdr 0 Z) w D) Hb G))) ?_;rintro _ _⟨_,rfl,jp,m,d,Ix,rfl,qs,rfl⟩;have Mn:=qs.1;refine gZ (R1:=(⟨73,1,jp,d.length,m,d,false⟩::(ri 3 q ((fsL u).length) r (fsL u))::⟨22,1,none,0,0,[],false⟩::(rc 22 1 j [sl ao u.length an])::Ix)) (Sub.refl _) (λ_ h=>Hp.toTail0 (X:=[_]) (Y:=[_,_,_]) h)<|aB Z<|eZ<|bK<|gZ (R1:=(⟨22,1,none,0,0,[],false⟩::⟨73,1,jp,d.length,m,d,false⟩::(ri 3 q ((fsL u).length) r (fsL u))::⟨22,1,none,0,0,[],false⟩::(rc 22 1 j [sl ao u.length an])::Ix)) (Sub.refl _) (λ_ h=>h.nil 22 1)<|aB Z<|NQ<|eZ<|sQ Z<|vH<|bJg (λ(i:Int) (A1:AF) (e:Nat) (c1:Nat) (vals:AG) (ls:AD) (Rs:List Row)=>[(1,PG j),(5,sl A1 e c1),(17,sl jp d.length m),(18,I (d.length:Int)),(19,I i)]) (λi A1 e c1 vals ls Rs=>(⟨22,1,A1,e,c1,vals,false⟩::⟨73,1,jp,d.length,m,d,false⟩::(ri 3 q ((fsL u).length) r (fsL u))::⟨22,1,none,0,0,[],false⟩::(rc 22 1 j [sl ao u.length an])::Rs)) (λi A1 e c1 vals ls Rs=>(0<=i)/\(i<=d.length)/\(e=vals.length)/\(SlR .u8 Rs vals ls)/\(SlR .i64 Rs d (bR (fsL u)))/\(ls=((bR (fsL u)).take i.toNat).map (bS u))) (λi A1 e c1 vals ls Rs=>(d.length-i).toNat) ?_ Gd.refl ?_
 ·exact⟨0,none,0,0,[],[],Ix,⟨G,G,(Z),(SlR.nilR _ _),(qs),(Z)⟩,KP⟩
 intro i A1 e c1 vals ls Rs dsW1 WW1 ⟨bb,gn,bx,iz,u6,pt⟩ Kd Yc;have mt:=u6.1;have Oy:=iz.1;have ya:=bi List.length pt;rw[bn,ax] at ya;have O:0<=i->i<(bR (fsL u)).length->rdl (bR (fsL u)) i∈bR (fsL u):=λh h'=>QP h h';refine eZ<|sQ Z<|eZ<|aR Z ?_ ?_<;>intro bp
 ·refine aG<|NQ<|vH<|eZ<|bK<|wy (aC zl XM Z Z (rdr 1 Z)) ?_;obtain⟨N,M,C,B⟩:=u6.at (i:=i) G G;refine wy (kS ak Z Z Z (rdr 1 Z) C)<|aB Z<|eZ<|bK<|aX (eH (sz:=1) bIx Z) λT=>gZ (R1:=((ru 5 none 0 0 ([]))::(rc 22 1 T [sl none 0 0])::⟨22,1,A1,e,c1,vals,false⟩::⟨73,1,jp,d.length,m,d,false⟩::(ri 3 q ((fsL u).length) r (fsL u))::⟨22,1,none,0,0,[],false⟩::(rc 22 1 j [sl ao u.length an])::Rs)) (Sub.refl _) (λ_ h=>h.nil 5 1)<|aJ<|NQ<|eZ<|aT 1 Z<|aX (aH bGf Z (OY)) λzr=>aJ<|vH ?_;have wi:=O bb G;have Zb:(rdl (bR (fsL u)) i).length<=u.length:=by have:=ng (jo wi);omega
  refine IP Z bGd (GZ (A:=N) (c:=M) (zs:=rdl (bR (fsL u)) i) G) Z (λ_=>Z) Yc (λ(o:Nat) (A2:AF) (g:Nat) (c2:Nat) (acc:AH)=>((rc 73 1 zr [sl N ((rdl (bR (fsL u)) i).length) M])::(ru 5 A2 g c2 acc)::(rc 22 1 T [sl A2 g c2])::⟨22,1,A1,e,c1,vals,false⟩::⟨73,1,jp,d.length,m,d,false⟩::(ri 3 q ((fsL u).length) r (fsL u))::⟨22,1,none,0,0,[],false⟩::(rc 22 1 j [sl ao u.length an])::Rs)) (λo A2 g c2 acc=>(g=acc.length)/\(acc=[]++((rdl (bR (fsL u)) i).reverse.take o).map (rd u))) ?_ ?_ ?_ ?_
  ·exact⟨none,0,0,[],⟨(Z),(by rw[yf];rfl)⟩,λ_ h=>h⟩
  ·intro o A2 g c2 acc w ⟨ov,K⟩ D;exact⟨(rdr 0 Z) w D,(λ_ h=>B _ _ _ (h.right (R':=[_,_,_,_,_,_,_,_]))) w D⟩
  ·intro lr o A2 g c2 acc WW3 Og ⟨ov,K⟩ hbW3;have i7:=KM Hb _ wi _ (bM (L:=rdl (bR (fsL u)) i) (k:=(((rdl (bR (fsL u)) i).length-1-o:Nat):Int)) G G);have Qr:acc.length<=(rdl (bR (fsL u)) i).length:=by rw[K,ig,bn,ax,kz];omega
   refine sQ Z ?_;intro WW33 Sk;refine aF<|bE mixed<|fU [2,7] 0 3 Z<|wD 3 Z (aC ai sz5 Z Z (am.cb (Kd.trans Sk) _))<|wD 4 Z (aQ ay Z Z (am.cb (Kd.trans Sk) _))<|wC 5 Z (bG .u8 [rd u (rd (rdl (bR (fsL u)) i) (((rdl (bR (fsL u)) i).length-1-o:Nat):Int))] ai zs5 Z Z Z) ?_;rintro _ _⟨u3,rfl,rfl⟩;refine⟨.inr hrZ,?_⟩;refine wC 6 Z (aO 2 Z ai zb5 Z Z Z (rdr 0 Z)) ?_;rintro _ _⟨R,S,rfl,rfl⟩;refine⟨.inl cA,?_⟩;refine pX (R1:=((ru 5 (GG u3) 1 1 ([rd u (rd (rdl (bR (fsL u)) i) (((rdl (bR (fsL u)) i).length-1-o:Nat):Int))]))::(rc 73 1 zr [sl N ((rdl (bR (fsL u)) i).length) M])::(ru 5 R (g+1) S (acc++([rd u (rd (rdl (bR (fsL u)) i) (((rdl (bR (fsL u)) i).length-1-o:Nat):Int))])))::(rc 22 1 T [sl A2 g c2])::⟨22,1,A1,e,c1,vals,false⟩::⟨73,1,jp,d.length,m,d,false⟩::(ri 3 q ((fsL u).length) r (fsL u))::⟨22,1,none,0,0,[],false⟩::(rc 22 1 j [sl ao u.length an])::Rs)) Z<|iA (v:=sl R (g+1) S) Z<|qN 7 Z cA (aV 3 Z Z Z iZ Z Z Z Z (ah Z)) ?_;rintro _ _ rfl;refine⟨.inl cA,?_⟩;exact pX (R1:=((ru 5 (GG u3) 1 1 ([rd u (rd (rdl (bR (fsL u)) i) (((rdl (bR (fsL u)) i).length-1-o:Nat):Int))]))::(rc 73 1 zr [sl N ((rdl (bR (fsL u)) i).length) M])::(ru 5 R (g+1) S (acc++([rd u (rd (rdl (bR (fsL u)) i) (((rdl (bR (fsL u)) i).length-1-o:Nat):Int))])))::(rc 22 1 T [sl R (g+1) S])::⟨22,1,A1,e,c1,vals,false⟩::⟨73,1,jp,d.length,m,d,false⟩::(ri 3 q ((fsL u).length) r (fsL u))::⟨22,1,none,0,0,[],false⟩::(rc 22 1 j [sl ao u.length an])::Rs)) Z<|wN<|⟨R,(g+1),S,acc++([rd u (rd (rdl (bR (fsL u)) i) (((rdl (bR (fsL u)) i).length-1-o:Nat):Int))]),⟨(by rw[aa,ov];rfl),(RF Og K)⟩,λ_=>λ_ h=>h.selR (F:=[_,_,_,_,_,_,_,_,_]) (F':=[_,_,_,_,_,_,_,_]) [1,2,3,4,5,6,7,8] cC Z⟩
  intro WW35 DW3 A2 g c2 acc ⟨ov,K⟩ Yt Ye;refine RQ<|aFh<|v_w<|nQ [2] 2 Z<|aX (jD [Value.slice A2 g c2] dm pF Z Z Z Z) λFl=>dG (fO 4 Z Z dm yG Z Z Z Z Z (rdr 0 Z) (by simp[Value.oneCell']) (by dsimp only;omega)) λnd nh=> ?_;exact gW (R1:=((rc 22 1 Fl [Value.slice A2 g c2])::(rc 73 1 zr [sl N ((rdl (bR (fsL u)) i).length) M])::(ru 5 A2 g c2 acc)::(rc 22 1 T [sl A2 g c2])::⟨22,1,nd,(e+1),nh,vals++([Value.slice A2 g c2]),false⟩::⟨73,1,jp,d.length,m,d,false⟩::(ri 3 q ((fsL u).length) r (fsL u))::⟨22,1,none,0,0,[],false⟩::(rc 22 1 j [sl ao u.length an])::Rs)) Z<|bC (v:=sl nd (e+1) nh) Z<|aB Z<|RQ<|aFh<|v_w<|bK<|wA Z Z<|aB Z<|aZp (Lx:=λ(i:Int) (A1:AF) (e:Nat) (c1:Nat) (vals:AG) (ls:AD) (Rs:List Row)=>[(1,PG j),(5,sl A1 e c1),(17,sl jp d.length m),(18,I (d.length:Int)),(19,I i)]) (Rx:=λ(i:Int) (A1:AF) (e:Nat) (c1:Nat) (vals:AG) (ls:AD) (Rs:List Row)=>(⟨22,1,A1,e,c1,vals,false⟩::⟨73,1,jp,d.length,m,d,false⟩::(ri 3 q ((fsL u).length) r (fsL u))::⟨22,1,none,0,0,[],false⟩::(rc 22 1 j [sl ao u.length an])::Rs)) (J:=λ(i:Int) (A1:AF) (e:Nat) (c1:Nat) (vals:AG) (ls:AD) (Rs:List Row)=>(0<=i)/\(i<=d.length)/\(e=vals.length)/\(SlR .u8 Rs vals ls)/\(SlR .i64 Rs d (bR (fsL u)))/\(ls=((bR (fsL u)).take i.toNat).map (bS u))) (μ:=λ(i:Int) (A1:AF) (e:Nat) (c1:Nat) (vals:AG) (ls:AD) (Rs:List Row)=>(d.length-i).toNat) (Kd.trans Yt) Ye<|⟨i+1,nd,e+1,nh,vals++([Value.slice A2 g c2]),(ls++[acc]),((ru 5 A2 g c2 acc)::Rs),⟨G,G,(by rw[aa,bx];rfl),(iz.snoc ov),(u6.right [_]),(aMf bb G pt K)⟩,G,SA,λ_ h=>h.selR (F:=[_,_,_,_,_,_,_,_,_]) (F':=[_,_,_,_,_,_]) [4,5,6,7,8,2] cC Z⟩
 obtain rfl:ls=((bR (fsL u)).map (bS u)):=by rw[pt,bg G]
 have Nb: ∀l∈((bR (fsL u)).map (bS u)),aI l:=λl hl=>by obtain⟨c,hc,rfl⟩:=gq.1 hl;intro x hx;obtain⟨y,hy,rfl⟩:=gq.1 hx;exact ac.rd y
 obtain⟨lr,rfl,Mm,H⟩:=iz.toRg Nb;rw[bn] at bx;obtain rfl:=bx;have Q:=bi List.length Mm;rw[bn,bn] at Q;refine aP<|bRh<|bUv<|bUw<|aFh<|v_w<|aK 1 Z<|wa (aH bXa Z (aLw (enc:=Go.Eng.encS) (aUc _) aLs Go.Eng.encS_one (l:=lr) 0 Z G (λx y=>cmpL x.root y.root) bHj (λW hW x hx y hy=>KS ((H x hx).2 _ _ _ (hW.right (R':=[_,_,_,_]))) ((H y hy).2 _ _ _ (hW.right (R':=[_,_,_,_]))) (H x hx).1 (H y hy).1))) ?_;rintro _ _⟨rfl,l1,ti,j5,rfl⟩;rw[<-ti.length_eq];refine gW (R1:=(⟨22,1,A1,l1.length,c1,(l1.map Go.Eng.encS),false⟩::⟨73,1,jp,d.length,m,d,false⟩::(ri 3 q ((fsL u).length) r (fsL u))::⟨22,1,none,0,0,[],false⟩::(rc 22 1 j [sl ao u.length an])::Rs)) Z<|aJ<|aD Z<|gN (R1:=(⟨22,1,A1,l1.length,c1,(l1.map Go.Eng.encS),false⟩::Rs)) (λ_ h=>h.selR (F:=[_,_,_,_,_]) (F':=[_]) [0] cC Z)<|bVi Z Yc ⟨_,Z,?_⟩;have P:l1.map RC.root=((bR (fsL u)).map (bS u)):=bHk ((ti.map RC.root).trans (by rw[Mm])) (iv.2 (j5.imp λ{a b} h=>by rw[mH a.root b.root] at h;omega)) (II ac);exact⟨_,_,l1.map Go.Eng.encS,Rs,by rw[bn],by rw[<-P];exact(H.perm ti).toSl,by rw[bn]⟩
theorem bHv (hs:all.Pairwise λa b=>cmpL a b<=0) (q:1<=n) (hn:n<=all.length) (m:rdl all (n-1)=rdl all 0):all.take n.toNat=List.replicate n.toNat (rdl all 0):=by
 have d: ∀i:Int,0<=i->(hi:i<all.length)->rdl all i=all[i.toNat]' G:=λi o hi=>by
  unfold rdl;rw[af,au G];rfl
 have k: ∀i j,(hi:i<all.length)->(e:j<all.length)->i<=j->cmpL all[i] all[j]<=0:=λi j hi e h=>by
  rcases gm i j with g|g
  ·exact dz.1 hs i j hi e g
  obtain rfl:i=j:=G
  rw[(cmpL_eq _ _).2 rfl];omega
 refine su (by rw[ax,df];omega) λi h1 p=> ?_;rw[ax] at h1;rw[uf,El];have a1:=k 0 i G G (oq _);have a2:=k i (n-1).toNat G G G;rw[<-d (n-1) G G,m] at a2;have l:rdl all 0=all[0]' G:=d 0 G G;rw[<-l,mH all[i]] at a1;exact(cmpL_eq _ _).1 G
theorem aXy {r:AH} (h:all.take n.toNat=List.replicate n.toNat r):n.toNat*r.length<=all.flatten.length:=by
 have h1:=bi (λx:AD=>x.flatten.length) h;have a:(List.replicate n.toNat r).flatten.length=n.toNat*r.length:=cD
 simp only[a] at h1;have b:=EN (ws:=all) n.toNat;omega
theorem bNt (a:0<=i) (h1:i<tm.length) (hb:rd tm i<1\/(md.length:Int)<rd tm i):eY md last kf (tm.drop i.toNat)=none:=by
 rw[fK a h1,eY,cz hb]
theorem bNs (a:0<=i) (h1:i<tm.length) (hc:rdl md (rd tm i-1)≠rdl md 0\/last=rdl md 0/\rd tm i<kf):eY md last kf (tm.drop i.toNat)=none:=by
 rw[fK a h1,eY];by_cases hb:rd tm i<1\/(md.length:Int)<rd tm i
 ·rw[cz hb]
 rw[bq hb,cz hc]
theorem bZl {o:Option (AD)} (a:0<=i) (h1:i<tm.length) (hb: ¬(rd tm i<1\/(md.length:Int)<rd tm i)) (hc: ¬(rdl md (rd tm i-1)≠rdl md 0\/last=rdl md 0/\rd tm i<kf)) (h:o=(eY md last kf (tm.drop i.toNat)).map λp=>ls++p):
  o=(eY (md.drop (rd tm i).toNat) (rdl md 0) (rd tm i) (tm.drop (i+1).toNat)).map λp=>(ls++[rep (rdl md 0) (rd tm i)])++p:=by
 rw[h,fK a h1,eY,bq hb,bq hc,Option.map_map];congr 1;funext p;simp
def oE (o:Option (AD)):Int:=if o.isSome then 0 else 5
theorem bIc {o:Option (AD)} (hi:(tm.length:Int)<=i) (h:o=(eY md last kf (tm.drop i.toNat)).map λp=>ls++p):(0<md.length->o=none)/\(¬0<md.length->o=some ls):=by
 rw[og G,eY] at h;constructor
 ·intro c;rw[h,cz c];rfl
 intro c;rw[h,bq c];simp
theorem drop_flat {ws:AD} {k M:Nat} (h:ws.flatten.length<=M):(ws.drop k).flatten.length<=M:=by
 have:ws.flatten=(ws.take k).flatten++(ws.drop k).flatten:=by rw[<-lq,ed]
 rw[this,aa] at h;omega
theorem bJb (h:aI u) (i:u.length<=8000) {a:AH} (b:a∈(bR (fsL u)).map (bS u)):aI a/\0<a.length/\a.length<=8000:=by
 have h1:=aZe h G a b;have d:=((jL a).1 (YM h a b)).1;have e:=ng (jo b);have g:((bR (fsL u)).map (bS u)).flatten.length=u.length:=ES h;exact⟨h1.1,d,G⟩
theorem aOd {K:AF} {Pk L:Nat} (am:R4 w ao ar an u) (wd:R5 w K Pk L tm) (D:aI u) (hN:u.length<=8000/\tm.length<=1000):
  CF 136 #[sl ao ar an,sl K Pk L] w (λv R'=> ∃(A:AF) (c:Nat) (vals:AG) (Rs:List Row),v= .tuple #[sl A vals.length c,I (oE (eY ((bR (fsL u)).map (bS u)) [] 0 tm))]/\SlR .u8 Rs vals ((eY ((bR (fsL u)).map (bS u)) [] 0 tm).getD [])/\R'=⟨22,1,A,vals.length,c,vals,false⟩::Rs):=by
 obtain rfl:=am.lenI;obtain rfl:=wd.lenI;refine fn2 func136 Z Z Z<|wq<|dX ⟨22,1,none,0,0,[],false⟩<|aB Z<|aA<|aK 2 Z<|wy (Yl.f (iL Z Z))<|bH 3 Z<|aN Z Z<|wy (Yl.f (iL Z Z))<|aB Z<|aM Z<|aG<|aK 1 Z<|wa (aH bXj Z (Ct.fresh (λw d=>aIt ((am.c _) w d) D G))) ?_;rintro _ _⟨_,rfl,P,O,r,ye,rfl,Hv,rfl⟩;have Ok:=Hv.1;refine gZ (R1:=(⟨22,1,P,r.length,O,r,false⟩::⟨22,1,none,0,0,[],false⟩::ye)) (Sub.refl _) (λ_ h=>Hp.toTail0 (X:=[_]) (Y:=[_]) h)<|aB Z<|wq<|aX (jD [] dm pF Z Z Z Z) λrv=>aB Z<|aD Z<|aD Z<|aA<|aD Z<|aF<|aZh (λ(i:Int) (A1:AF) (g:Nat) (c1:Nat) (vals:AG) (ls:AD) (m:AF) (n6:Nat) (j:Nat) (l:AG) (md:AD) (o:AF) (q:Nat) (last:AH) (kf:Int) (Rs:List Row)=>[(6,sl m n6 j),(7,sl A1 g c1),(8,sl o last.length q),(9,I kf),(24,sl K tm.length L),(25,I (tm.length:Int)),(26,I i)]) (λi A1 g c1 vals ls m n6 j l md o q last kf Rs=>(⟨22,1,A1,g,c1,vals,false⟩::⟨22,1,none,0,0,[],false⟩::Rs)) (λi A1 g c1 vals ls m n6 j l md o q last kf Rs=>(0<=i)/\(i<=tm.length)/\(g=vals.length)/\(SlR .u8 Rs vals ls)/\((ls.length:Int)=i)/\(n6=l.length)/\(∀(B:Nat) (w0 w:World),Hp B w0 w Rs->Rd w m n6 j 1 l)/\(SlR .u8 Rs l md)/\(∀(B:Nat) (w0 w:World),Hp B w0 w Rs->Rd w o last.length q 1 (ints .u8 last))/\(∀a∈md,aI a/\0<a.length/\a.length<=8000)/\(aI last)/\(md.Pairwise λa b=>cmpL a b<=0)/\(md.flatten.length<=8000)/\(md.length<=8000)/\((eY ((bR (fsL u)).map (bS u)) [] 0 tm)=(eY md last kf (tm.drop i.toNat)).map λp=>ls++p)) (λi A1 g c1 vals ls m n6 j l md o q last kf Rs=>(tm.length-i).toNat) ?_ ?_
 ·exact⟨0,GG rv,0,0,[],[],P,r.length,O,r,((bR (fsL u)).map (bS u)),none,0,[],0,(⟨22,1,P,r.length,O,r,false⟩::ye),⟨G,G,(Z),(SlR.nilR _ _),(Z),(Z),(λ_ _ _ h=>rdr 0 Z _ h),(Hv.right [_]),(λ_ _ _ _=>aQx .u8),(λa S=>bJb D G S),(aI.nil),(II D),(by have:=ES D;show(((bR (fsL u)).map (bS u))).flatten.length<=8000;exact pq (Nat.le_of_eq this) G),(by rw[bn];have:=xS (p:=fsL u);have:=oG u;omega),cD⟩,SA,λ_ h=>h.selR (F:=[_,_,_]) (F':=[_,_,_]) [0,2,1] cC Z⟩
 intro i A1 g c1 vals ls m n6 j l md o q last kf Rs ⟨M,gn,bx,iz,ub,Zw,y,Fr,rg,N,T,k,ua,ha8,x⟩;have Oy:=iz.1;have han:=Fr.1;refine aD Z<|aA<|aR Z ?_ ?_<;>intro ap
 ·refine aG<|aA<|aF<|wq<|wy (aC ak sz3 Z Z (wd.c _))<|wy (aQ av Z Z (wd.c _))<|aB Z<|aA<|aK 3 Z<|bD 5 [6,7,8,9,11,24,25,26] 37 (.bool (decide (((rd tm i)<1)\/((n6:Int)<(rd tm i))))) Z ?_ ?_
  ·refine bB 32 Z ?_ ?_<;>intro bp
   ·exact aB Z<|KP
   exact aB Z<|KP
  refine aJ<|aR Z ?_ ?_<;>intro db
  ·refine aD Z<|aL [1] 2<|⟨_,_,Z,Z,?_⟩;have hO:(eY ((bR (fsL u)).map (bS u)) [] 0 tm)=none:=by rw[x,bNt M G G];rfl
   rw[hO];exact⟨none,0,[],_,Z,SlR.nilR _ _,Z⟩
  have kp: ¬(rd tm i<1\/(md.length:Int)<rd tm i):=G
  have C:=N _ (iO (ws:=md) (i:=0) G G);have hrn:=N _ (iO (ws:=md) (i:=rd tm i-1) G G);refine aG<|aK 1 Z<|wy (aC dm iZ Z Z (λ_ h=>y _ _ _ (h.right (R':=[_,_])))) ?_;obtain⟨jn,cm,Pd,H⟩:=Fr.at (i:=0) G G;refine wy (kS ai Z Z Z (λ_ h=>y _ _ _ (h.right (R':=[_,_]))) Pd)<|aB Z<|aA<|aK 2 Z<|wS Z Z<|wy (aC dm iZ Z Z (λ_ h=>y _ _ _ (h.right (R':=[_,_])))) ?_;obtain⟨dy,ef,Pe,g9⟩:=Fr.at (i:=(rd tm i)-1) G G;refine wy (kS ai Z Z Z (λ_ h=>y _ _ _ (h.right (R':=[_,_]))) Pe)<|wm Z<|dZ bGg Z (λw d=>MZ ((λ_ h=>g9 _ _ _ (h.right (R':=[_,_]))) w d) ((λ_ h=>H _ _ _ (h.right (R':=[_,_]))) w d) hrn.1 C.1)<|wy (pO Z)<|wm Z<|bD 9 [6,7,11,12,24,25,26] 58 (.bool (decide ((¬((rdl md ((rd tm i)-1))=(rdl md 0)))\/((last=(rdl md 0))/\((rd tm i)<kf))))) Z ?_ ?_
  ·refine bB 49 Z ?_ ?_<;>intro dj
   ·exact aB Z<|KP
   refine bH 2 Z<|aN Z Z<|dZ bGg Z (λw d=>MZ ((λ_ h=>rg _ _ _ (h.right (R':=[_,_]))) w d) ((λ_ h=>H _ _ _ (h.right (R':=[_,_]))) w d) T C.1)<|bH 1 Z<|bD 4 [6,7,11,12,24,25,26,49] 57 (.bool (decide ((last=(rdl md 0))/\((rd tm i)<kf)))) Z ?_ ?_
   ·refine bB 53 Z ?_ ?_<;>intro ff
    ·exact aB Z<|KP
    exact aB Z<|KP
   exact aB Z<|KP
  refine aJ<|aR Z ?_ ?_<;>intro pi
  ·have J:rdl md (rd tm i-1)≠rdl md 0\/last=rdl md 0/\rd tm i<kf:=pi;refine aD Z<|aL [1] 2<|⟨_,_,Z,Z,?_⟩;have hO:(eY ((bR (fsL u)).map (bS u)) [] 0 tm)=none:=by rw[x,bNs M G J];rfl
   rw[hO];exact⟨none,0,[],_,Z,SlR.nilR _ _,Z⟩
  have J: ¬(rdl md (rd tm i-1)≠rdl md 0\/last=rdl md 0/\rd tm i<kf):=pi;have hq:rdl md (rd tm i-1)=rdl md 0:=Decidable.byContradiction λe=>J (.inl e);have hblk:=bHv k G G hq;refine aG<|aK 3 Z<|bZ bVx Z (λw d=>TJ ((λ_ h=>H _ _ _ (h.right (R':=[_,_]))) w d) C.2.1 G (pq (aXy hblk) ua)) λQ R=>aX (jD [Value.slice Q ((rep (rdl md 0) (rd tm i)).length) R] dm pF Z Z Z Z) λQh=>dG (fO 2 Z Z dm yG Z Z Z Z Z (rdr 0 Z) (by simp[Value.oneCell']) (by dsimp only;omega)) λsd sf=> ?_;exact bC (v:=sl sd (g+1) sf) Z<|aB Z<|bE mixed<|bF 0 4 Z<|wD 4 Z (dE dm iZ Z Z)<|bF 5 3 Z<|wN<|bK<|wA Z Z<|aB Z<|⟨i+1,sd,g+1,sf,vals++([Value.slice Q ((rep (rdl md 0) (rd tm i)).length) R]),(ls++[rep (rdl md 0) (rd tm i)]),lL m (rd tm i).toNat j 1,n6-(rd tm i).toNat,j-(rd tm i).toNat,(l.drop (rd tm i).toNat),(md.drop (rd tm i).toNat),jn,cm,(rdl md 0),rd tm i,(⟨5,1,Q,(rep (rdl md 0) (rd tm i)).length,R,ints .u8 (rep (rdl md 0) (rd tm i)),true⟩::Rs),⟨G,G,(by rw[aa,bx];rfl),(iz.snoc Z),(by rw[aa,dw];omega),(by rw[az,Zw]),(λB w0 w h=>(RdC.fromV (λw h=>y B w0 w h) G) w h.tail),((Fr.drop _).right [_]),(λB w0 w h=>H B w0 w h.tail),(λa S=>N a (lu S)),(C.1),(k.sublist (xw _ _)),(drop_flat ua),(by rw[az];omega),(bZl M G kp J x)⟩,G,SA,λ_ h=>h.selR (F:=[_,_,_,_]) (F':=[_,_,_]) [2,3,1] cC Z⟩
 refine aP<|aA<|aD Z<|aR Z ?_ ?_<;>intro b9
 ·refine aD Z<|aL [1] 2<|⟨_,_,Z,Z,?_⟩;have hO:(eY ((bR (fsL u)).map (bS u)) [] 0 tm)=none:=(bIc G x).1 G;rw[hO];exact⟨none,0,[],_,Z,SlR.nilR _ _,Z⟩
 refine aG<|aD Z<|aL [0] 2<|⟨_,_,Z,Z,?_⟩;have hO:(eY ((bR (fsL u)).map (bS u)) [] 0 tm)=some ls:=(bIc G x).2 G;rw[hO];subst bx;exact⟨_,_,vals,Rs,Z,iz,Z⟩
end
section
variable {ws md ls:AD} {i:Int} {w:World} {tm u L TS:AH}
theorem aOk (b:0<=i) (h1:i<ws.length):(gQ (ws.take i.toNat)\/((rdl ws i).length:Int)=0)↔gQ (ws.take (i+1).toNat):=by
 rw[gH b h1];constructor
 ·rintro (⟨w,a,e⟩|h)
  ·exact⟨w,ek.2 (.inl a),e⟩
  exact⟨_,ek.2 (.inr (gz.2 rfl)),G⟩
 rintro ⟨w,a,e⟩;rcases ek.1 a with a|a
 ·exact .inl ⟨w,a,e⟩
 obtain rfl:=gz.1 a;exact .inr G
theorem YU {w:World} {bl:AF} {cg bm:Nat} {aq:AG} {ws:AD} (a:Rd w bl cg bm 1 aq) (d:SlW .u8 w aq ws) (p:(∀w∈ws,w.length<=8000)/\ws.length<=100000):
  CF 30 #[sl bl cg bm] w (λv R'=> ∃(A A2:AF) (c c2:Nat) (L TS:AH) (e:Int),v= .tuple #[sl A L.length c,sl A2 TS.length c2,I e]/\ExtR ws L TS e/\R'=[(ru 5 A L.length c L),(ri 3 A2 TS.length c2 TS)]):=by
 obtain rfl:cg=ws.length:=by have:=a.len;have:=d.1;omega
 refine fn3 Tryz.func30 Z Z Z<|wq<|dX (ru 5 none 0 0 ([]))<|wg Z<|dX (ri 3 none 0 0 ([]))<|aB Z<|aD Z<|aA<|aD Z<|aF<|dF (λ(i:Int) (z:Int)=>[(0,sl bl ws.length bm),(5,I z),(6, .bool (decide (gQ (ws.take i.toNat)))),(7,I i)]) (λi z=>((ri 3 none 0 0 ([]))::(ru 5 none 0 0 ([]))::[])) (λi z=>(0<=i)/\(i<=ws.length)/\(z=((ws.take i.toNat).flatten.length:Int))/\(0<=z/\z<=i*8000)) (λi z=>(ws.length-i).toNat) ?_ ?_
 ·exact⟨0,0,⟨G,G,(Z),G⟩,KP⟩
 intro i z ⟨g,gn,q,O⟩;have J:0<=i->i<ws.length->(rdl ws i).length<=8000:=λh C=>p.1 _ (iO h C);refine aA<|aD Z<|aR Z ?_ ?_<;>intro ap
 ·have Q:=J g G;refine aG<|aA<|aF<|aK 3 Z<|wy (aC dm iZ Z Z (a.c _))<|d.elim (i:=i) G G (λcv T K yq l3 yy=> ?_);refine wy (kS ai Z Z Z (a.c _) K)<|wy (sO ai Z)<|wA Z Z<|aB Z<|aT 2 Z<|bD 7 [0,5,7] 31 (.bool (decide ((gQ (ws.take i.toNat))\/((((rdl ws i).length:Nat):Int)=0)))) Z ?_ ?_
  ·refine bB 24 Z ?_ ?_<;>intro S
   ·exact aB Z<|KP
   refine bH 2 Z<|aN Z Z<|wy (aC dm iZ Z Z (a.c _))<|aN Z Z<|d.elim (i:=i) G G (λjp mj r sq N P=> ?_);exact wy (kS ai Z Z Z (a.c _) r)<|aB Z<|KP
  exact wy (Yl.is (bY Z) (show Value.bool (decide (gQ (ws.take i.toNat)\/((rdl ws i).length:Int)=0))=Value.bool (decide (gQ (ws.take (i+1).toNat))) from bi Value.bool (sw.2 (aOk g G))))<|aJ<|aT 1 Z<|wA Z Z<|aB Z<|⟨i+1,z+(((rdl ws i).length:Nat):Int),⟨G,G,(by rw[gJ g G,aa,q];omega),G⟩,G,KP⟩
 obtain rfl:i=ws.length:=G
 rw[bu,qa] at q;have k:ws.take (ws.length:Int).toNat=ws:=by rw[bu,qa]
 refine aP<|aA<|aK 4 Z<|bD 3 [0,6] 38 (.bool (decide ((1000<(ws.length:Int))\/(100000<z)))) Z ?_ ?_
 ·refine bB 35 Z ?_ ?_<;>intro db
  ·exact aB Z<|KP
  exact aB Z<|KP
 refine aJ<|aR Z ?_ ?_<;>intro dj
 ·refine aD Z<|gN (R1:=[(ru 5 none 0 0 ([])),(ri 3 none 0 0 ([]))]) (λ_ h=>(h.selR (F:=[_,_]) (F':=[_,_]) [1,0] cC Z).left (X:=[_,_]))<|⟨_,_,_,Z,Z,Z,?_⟩;exact⟨_,_,_,_,[],[],2,Z, .inl ⟨Z,G,rfl,rfl⟩,rfl⟩
 refine aG<|aA<|aD Z<|aR Z ?_ ?_<;>intro j
 ·refine aD Z<|gN (R1:=[(ru 5 none 0 0 ([])),(ri 3 none 0 0 ([]))]) (λ_ h=>(h.selR (F:=[_,_]) (F':=[_,_]) [1,0] cC Z).left (X:=[_,_]))<|⟨_,_,_,Z,Z,Z,?_⟩;exact⟨_,_,_,_,[],[],1,Z, .inr (.inl ⟨G,rfl,by rw[k] at j;exact j,rfl,rfl⟩),rfl⟩
 refine aG<|aK 1 Z<|wa (aH cAt Z (Ct.fresh (λw b=>aUv ((a.c _) w b) (d.c b) p))) ?_;rintro _ _⟨_,rfl,B,y,m,o,l,x,rfl,u,rfl⟩;have R:=u.1;refine gZ (R1:=(⟨22,1,B,l.length,y,l,false⟩::(ri 3 m (((fQ ws).map Prod.snd).length) o ((fQ ws).map Prod.snd))::(ri 3 none 0 0 ([]))::(ru 5 none 0 0 ([]))::x)) (Sub.refl _) (λ_ h=>Hp.toTail0 (X:=[_,_]) (Y:=[_,_]) h)<|aB Z<|aK 1 Z<|wa (aH bVv Z (Ct.fresh (λw b=>aAn ((a.c _) w b) (d.c b) ⟨G,G⟩))) ?_;rintro _ _⟨_,rfl,l2,D,H,rfl,M,d8,rfl⟩;refine aB Z<|gN (R1:=[(ru 5 D l2.length H (l2.map (lastB ws))),(ri 3 m (((fQ ws).map Prod.snd).length) o ((fQ ws).map Prod.snd))]) (λ_ h=>(h.selR (F:=[_,_,_,_,_]) (F':=[_,_]) [0,2] cC Z).left (X:=[_,_]))<|⟨_,_,_,Z,Z,Z,?_⟩;rw[show l2.length=(l2.map (lastB ws)).length from(bn _).symm];exact⟨_,_,_,_,l2.map (lastB ws),_,0,Z, .inr (.inr ⟨G,rfl,λw b=>Bh λe=>j (by rw[k];exact⟨w,b,e⟩),⟨l2,M,d8,rfl⟩,rfl⟩),rfl⟩
theorem bSb (a:0<=i) (h1:i<tm.length) (hb:rd tm i<1\/(md.length:Int)<rd tm i):wU md (tm.drop i.toNat)=none:=by
 rw[fK a h1,wU,cz hb]
theorem bVe {w:AH} {o:Option (AD × AD)} (a:0<=i) (h1:i<tm.length) (hb: ¬(rd tm i<1\/(md.length:Int)<rd tm i)) (b:w=(md.take (rd tm i).toNat).flatten) (h:o=(wU md (tm.drop i.toNat)).map λp=>(ls++p.1,p.2)):
  o=(wU (md.drop (rd tm i).toNat) (tm.drop (i+1).toNat)).map λp=>((ls++[w])++p.1,p.2):=by
 rw[h,fK a h1,wU,bq hb,Option.map_map,b];congr 1;funext p;simp
theorem bCh {o:Option (AD × AD)} (hi:(tm.length:Int)<=i) (h:o=(wU md (tm.drop i.toNat)).map λp=>(ls++p.1,p.2)):o=some (ls,md):=by
 rw[og G,wU] at h;rw[h];simp
theorem bRc {cls:AD} {k:Int} {acc:AH} (a:0<=k) (h1:k<cls.length) (h:acc=((cls.take k.toNat).map (bS u)).flatten):acc++bS u (rdl cls k)=((cls.take (k+1).toNat).map (bS u)).flatten:=by
 rw[QQ (bS u) a h1,lq,h];simp
theorem RD (cs:AD):(cs.map (bS u)).flatten.length=cs.flatten.length:=by
 induction cs with
 |nil=>rfl
 |cons c cs ih=>rw[jg,jv,jv,aa,aa,ih,kG]
theorem aKx (h:aI u) (cs:AD):aI (cs.map (bS u)).flatten:=λx d=>by
 obtain⟨w,b,a⟩:=ny.1 d;obtain⟨c,_,rfl⟩:=gq.1 b;obtain⟨y,_,rfl⟩:=gq.1 a;exact h.rd y
theorem ZB {k M:Nat} (h:ws.flatten.length<=M):(ws.take k).flatten.length<=M:=pq (EN k) h
theorem aYm {ao:AF} {ar an:Nat} {J:AF} {Pk K:Nat} (am:R4 w ao ar an u) (wd:R5 w J Pk K tm) (C:aI u) (hN:u.length<=8000/\tm.length<=1000):
  CF 88 #[sl ao ar an,sl J Pk K] w (λv R'=> ∃(A:AF) (c:Nat) (vals:AG) (Rs:List Row),v= .tuple #[sl A vals.length c,I (oE (eY ((bR (fsL u)).map (bS u)) [] 0 tm))]/\SlR .u8 Rs vals ((eY ((bR (fsL u)).map (bS u)) [] 0 tm).getD [])/\R'=⟨22,1,A,vals.length,c,vals,false⟩::Rs):=by
 obtain rfl:=am.lenI;obtain rfl:=wd.lenI;refine fn2 Tryz.func88 Z Z Z ?_;have O:=BR C;have hfl0:=oG u;have Za:=CB O;have hcf:=xS (p:=fsL u);refine wq<|dX ⟨22,1,none,0,0,[],false⟩<|aB Z<|aA<|aK 2 Z<|wy (Yl.f (iL Z Z))<|bH 3 Z<|aN Z Z<|wy (Yl.f (iL Z Z))<|aB Z<|aM Z<|aG<|aK 1 Z<|bZ bQf Z (λw a=>aAm ((am.c _) w a) C G) λQ P=>wa (aH bQg Z (Ct.fresh (λw a=>OS ((rdr 0 Z) w a) O G))) ?_;rintro _ _⟨_,rfl,T,me,D,Nj,rfl,l6,rfl⟩;have Ol:=l6.1;refine gZ (R1:=(⟨73,1,T,D.length,me,D,false⟩::(ri 3 Q ((fsL u).length) P (fsL u))::⟨22,1,none,0,0,[],false⟩::Nj)) (Sub.refl _) (λ_ h=>Hp.toTail0 (X:=[_]) (Y:=[_,_]) h)<|aB Z<|wq<|dX ⟨22,1,none,0,0,[],false⟩<|aB Z<|aA<|aD Z<|aF<|aZk (λ(i:Int) (A1:AF) (d:Nat) (c1:Nat) (vals:AG) (ls:AD) (o:AF) (n6:Nat) (g:Nat) (q:AG) (cls:AD) (Rs:List Row)=>[(0,sl ao u.length an),(1,sl J tm.length K),(6,sl o n6 g),(8,sl A1 d c1),(9,I i)]) (λi A1 d c1 vals ls o n6 g q cls Rs=>(⟨22,1,A1,d,c1,vals,false⟩::(ri 3 Q ((fsL u).length) P (fsL u))::⟨22,1,none,0,0,[],false⟩::Rs)) (λi A1 d c1 vals ls o n6 g q cls Rs=>(0<=i)/\(i<=tm.length)/\(d=vals.length)/\(SlR .u8 Rs vals ls)/\((ls.length:Int)=i)/\(n6=q.length)/\(∀(B:Nat) (w0 w:World),Hp B w0 w Rs->Rd w o n6 g 1 q)/\(SlR .i64 Rs q cls)/\(∀c∈cls,c∈bR (fsL u))/\(cls.flatten.length<=8000)/\(cls.length<=8000)/\(∀w∈ls,aI w/\w.length<=8000)/\(wU ((bR (fsL u)).map (bS u)) tm=(wU (cls.map (bS u)) (tm.drop i.toNat)).map λp=>(ls++p.1,p.2))) (λi A1 d c1 vals ls o n6 g q cls Rs=>(tm.length-i).toNat) ?_ ?_
 ·exact⟨0,none,0,0,[],[],T,D.length,me,D,(bR (fsL u)),(⟨73,1,T,D.length,me,D,false⟩::Nj),⟨G,G,(Z),(SlR.nilR _ _),(Z),(Z),(λ_ _ _ h=>rdr 0 Z _ h),(l6.right [_]),(λc hc=>hc),G,G,(λw a=>by cases a),cD⟩,SA,λ_ h=>h.selR (F:=[_,_,_,_]) (F':=[_,_,_,_]) [0,2,3,1] cC rfl⟩
 intro i A1 d c1 vals ls o n6 g q cls Rs ⟨bb,gn,bx,L,ub,Zw,S,Fr,dp,ua,ha8,y,j⟩;have Oy:=L.1;have han:=Fr.1;refine aA<|aD Z<|aR Z ?_ ?_<;>intro ap
 ·refine aG<|aA<|aF<|aA<|aK 2 Z<|wy (aC ak sz3 Z Z (wd.c _))<|wy (aQ av Z Z (wd.c _))<|bH 2 Z<|bD 8 [0,1,6,8,9] 48 (.bool (decide (((rd tm i)<1)\/((n6:Int)<(rd tm i))))) Z ?_ ?_
  ·refine bB 40 Z ?_ ?_<;>intro bp
   ·exact aB Z<|KP
   exact bH 2 Z<|aN Z Z<|wy (aC ak sz3 Z Z (wd.c _))<|aN Z Z<|wy (aQ av Z Z (wd.c _))<|aB Z<|KP
  refine aJ<|aR Z ?_ ?_<;>intro db
  ·refine aD Z<|aL [2] 3<|⟨_,_,Z,Z,?_⟩;have hO:(eY ((bR (fsL u)).map (bS u)) [] 0 tm)=none:=MH (by rw[j,bSb bb G (by rw[bn];omega)];rfl);rw[hO];exact⟨none,0,[],_,Z,SlR.nilR _ _,Z⟩
  have kp: ¬(rd tm i<1\/(cls.length:Int)<rd tm i):=G
  refine aG<|wq<|dX (ru 5 none 0 0 ([]))<|aB Z<|aA<|aD Z<|aF<|eT (λ(k:Int) (A2:AF) (b:Nat) (c2:Nat) (acc:AH)=>[(0,sl ao u.length an),(1,sl J tm.length K),(6,sl o n6 g),(8,sl A1 d c1),(9,I i),(10,sl A2 b c2),(11,I k)]) (λk A2 b c2 acc=>((ru 5 A2 b c2 acc)::⟨22,1,A1,d,c1,vals,false⟩::(ri 3 Q ((fsL u).length) P (fsL u))::⟨22,1,none,0,0,[],false⟩::Rs)) (λk A2 b c2 acc=>(0<=k)/\(k<=rd tm i)/\(b=acc.length)/\(acc=((cls.take k.toNat).map (bS u)).flatten)) (λk A2 b c2 acc=>(rd tm i-k).toNat) ?_ ?_
  ·exact⟨0,none,0,0,[],⟨G,G,(Z),(Z)⟩,KP⟩
  intro k A2 b c2 acc ⟨R,mu,ov,H⟩;have hacl:acc.length<=8000:=by rw[H,RD];exact ZB ua
  refine aA<|aK 3 Z<|wy (aC ak sz3 Z Z (wd.c _))<|wy (aQ av Z Z (wd.c _))<|aB Z<|aR Z ?_ ?_<;>intro dj
  ·have wi:=dp _ (iO (ws:=cls) (i:=k) R G);have Zb:(rdl cls k).length<=8000:=by have:=ng (jo (iO (ws:=cls) (i:=k) R G));omega
   have hcw:=kG u (rdl cls k);refine aG<|aA<|aF<|aT 4 Z<|wy (aC zl XM Z Z (λ_ h=>S _ _ _ (h.right (R':=[_,_,_,_])))) ?_;obtain⟨jn,cm,Pd,ox⟩:=Fr.at (i:=k) G G;refine wy (kS ak Z Z Z (λ_ h=>S _ _ _ (h.right (R':=[_,_,_,_]))) Pd)<|bZ bQe Z (λw a=>YN ((am.c _) w a) ((λ_ h=>ox _ _ _ (h.right (R':=[_,_,_,_]))) w a) (λx hx=>by have:=KM O _ wi x hx;omega) G) λdy ef=> ?_;exact dG (aO 1 Z ai zb5 Z Z Z (rdr 0 Z)) λkl pj=>bC (v:=sl kl (b+((bS u (rdl cls k)).length)) pj) Z<|aB Z<|aT 1 Z<|wA Z Z<|aB Z<|⟨k+1,kl,b+((bS u (rdl cls k)).length),pj,acc++(bS u (rdl cls k)),⟨G,G,(by rw[aa,ov]),(bRc R G H)⟩,G,SA,λ_ h=>h.selR (F:=[_,_,_,_,_]) (F':=[_,_,_,_]) [1,2,3,4] cC Z⟩
  refine aP<|aK 3 Z<|wy (aC ak sz3 Z Z (wd.c _))<|wy (aQ av Z Z (wd.c _))<|wy (dE zl XM Z Z)<|aB Z<|aT 2 Z<|aX (jD [Value.slice A2 b c2] dm pF Z Z Z Z) λu3=>dG (fO 2 Z Z dm yG Z Z Z Z Z (rdr 0 Z) (by simp[Value.oneCell']) (by dsimp only;omega)) λka kd=> ?_;refine bC (v:=sl ka (d+1) kd) Z<|aB Z<|aT 1 Z<|wA Z Z<|aB Z ?_
  exact⟨i+1,ka,d+1,kd,vals++([Value.slice A2 b c2]),(ls++[acc]),lL o (rd tm i).toNat g 1,n6-(rd tm i).toNat,g-(rd tm i).toNat,(q.drop (rd tm i).toNat),(cls.drop (rd tm i).toNat),((ru 5 A2 b c2 acc)::Rs),⟨G,G,(by rw[aa,bx];rfl),(L.snoc ov),(by rw[aa,dw];omega),(by rw[az,Zw]),(λB w0 w h=>(RdC.fromV (λw h=>S B w0 w h) G) w h.tail),((Fr.drop _).right [_]),(λc hc=>dp c (lu hc)),(drop_flat ua),(by rw[az];omega),(λw a=>(ek.1 a).elim (y w) λh=>by
      obtain rfl:=gz.1 h
      exact⟨by rw[H];exact aKx C _,by rw[H,RD];exact ZB ua⟩),(by rw[Fy];exact bVe bb G (by rw[bn];exact kp) (by rw[H,show k=rd tm i by omega,Bt]) j)⟩,G,SA,λ_ h=>h.selR (F:=[_,_,_,_,_]) (F':=[_,_,_,_]) [2,3,4,1] cC rfl⟩
 refine aP<|aK 1 Z<|wa (aH bWf Z (Ct.fresh (λw a=>YU ((rdr 0 Z) w a) (L.slw (λw a=>⟨(y w a).1,by have:=(y w a).2;omega⟩) (Hp.right (R':=[_,_,_]) a)) ⟨λw a=>(y w a).2,G⟩))) ?_;rintro _ _⟨_,rfl,oa,nd,ob,nh,Lx,r,ex,rfl,M,rfl⟩;refine aB Z<|aA<|aK 4 Z<|bD 3 [0,1,8,12,13] 87 (.bool (decide ((0<(n6:Int))\/(ex≠0)))) Z ?_ ?_
 ·refine bB 84 Z ?_ ?_<;>intro ff
  ·exact aB Z<|KP
  exact aB Z<|KP
 refine wm Z<|bD 6 [1,8,13] 94 (.bool (decide (((0<(n6:Int))\/(ex≠0))\/(Lx≠u)))) Z ?_ ?_
 ·refine bB 88 Z ?_ ?_<;>intro pi
  ·exact aB Z<|KP
  exact bH 1 Z<|aN Z Z<|wy (gL ai ay qh Z (rdr 0 Z))<|bH 1 Z<|aN Z Z<|wy (gL ai ay qh Z (am.c _))<|aN Z Z<|wy (NM Z Z (M.bytes λw a=>(y w a).1) C)<|aB Z<|KP
 refine wm Z<|bD 5 [8] 100 (.bool (decide ((((0<(n6:Int))\/(ex≠0))\/(Lx≠u))\/(¬(r=tm))))) Z ?_ ?_
 ·refine bB 95 Z ?_ ?_<;>intro b9
  ·exact aB Z<|KP
  refine bH 2 Z<|aN Z Z<|dZ bGn Z (λw a=>VJ ((rdr 1 Z) w a) ((wd.c _) w a) (by have:=M.tlen;omega)) ?_;exact aN Z Z<|wy (pO Z)<|aB Z<|KP
 refine aJ<|aR Z ?_ ?_<;>intro N
 ·refine aD Z<|aL [4] 5<|⟨_,_,Z,Z,?_⟩;have hO:(eY ((bR (fsL u)).map (bS u)) [] 0 tm)=none:=(TL (l:=u) (m:=Lx) (t:=r) (e:=ex) C G G (bCh G j) M (λw a=>(y w a).1)).trans (bq (by rintro⟨q1,q2,q3,q4⟩;rw[bn] at q1;rcases N with((h|h)|h)|h<;>first|omega|exact h q3|exact h q4));rw[hO];exact⟨none,0,[],_,Z,SlR.nilR _ _,Z⟩
 refine aG<|aD Z<|aL [2] 5<|⟨_,_,Z,Z,?_⟩;have hO:(eY ((bR (fsL u)).map (bS u)) [] 0 tm)=some ls:=(TL (l:=u) (m:=Lx) (t:=r) (e:=ex) C G G (bCh G j) M (λw a=>(y w a).1)).trans (cz ⟨by rw[bn];omega,pg.1 λh=>N (.inl (.inl (.inr h))),pg.1 λh=>N (.inl (.inr h)),pg.1 λh=>N (.inr h)⟩);rw[hO];subst bx;exact⟨_,_,vals,Rs,Z,L,Z⟩
theorem _root_.Go.Pure.ExtR.len {e:Int} (h:ExtR ws L TS e):L.length<=ws.flatten.length:=by
 rcases h with⟨_,_,rfl,_⟩|⟨_,_,_,rfl,_⟩|⟨_,_,_,⟨T,hp,_,rfl⟩,_⟩
 ·exact oq _
 ·exact oq _
 rw[bn,LM hp];exact dn _
theorem bNw (hb:aI L) (i:L.length<=8000) {o:Option (AD)} (j:eY ((bR (fsL L)).map (bS L)) [] 0 TS=o):OkB (o.getD [])/\(o.getD []).length<=TS.length:=by
 cases o with
 |none=>exact⟨bLl,oq _⟩
 | some ws=>
  obtain⟨rs,e,h,b,p,q,_⟩:=XB (II hb) (λa _=>by cases a<;>simp[cmpL]) j
  have r:ws.flatten.length<=8000:=by
   rw[b,zV,<-e];exact pq (Nat.le_of_eq (ES hb)) i
  refine⟨λl hl=>⟨λx m=> ?_,?_⟩,by show ws.length<=_;rw[b,h,bn,bn];exact dn _⟩
  ·have d:x∈ws.flatten:=ny.2 ⟨l,hl,m⟩;rw[b,zV,<-e] at d;obtain⟨w,k,g⟩:=ny.1 d;obtain⟨c,_,rfl⟩:=gq.1 k;obtain⟨y,_,rfl⟩:=gq.1 g;exact hb.rd y
  have:=ng (jo (show l∈ws from hl));omega
end
end Go.Proofs.YtkfngcfpmilfiaaGreat
