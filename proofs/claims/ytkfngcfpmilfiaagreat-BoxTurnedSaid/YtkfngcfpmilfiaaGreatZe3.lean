/- Own work. -/
import Derived.Lib.BitFns
import Derived.Test.YtkfngcfpmilfiaaGreatZe2
set_option linter.unusedVariables false
set_option linter.unusedSimpArgs false
set_option maxHeartbeats 8000000
namespace Go.Pure
open Go Go.Eng
section
variable {s:AH} {k:Int}
section
variable {p q x y z:Int} {nx:AH}
theorem xP (n:Nat):(iota n).Pairwise (· < ·):=by
 unfold iota;refine iv.2 (List.Pairwise.imp (λh=> ?_) List.pairwise_lt_range);omega
def kk (s:AH) (p:Int):Int:=if p<s.length then 2*rd s p+(if smB s p=true then 1 else 0) else -1
theorem BM (h:(s.length:Int)<=p):kk s p= -1:=bq G
theorem JY (h:p<s.length):kk s p=2*rd s p+(if smB s p=true then 1 else 0):=cz h
theorem aDj (h:isL s p):kk s p=2*rd s p:=by rw[JY h.1.2,h.2];simp
theorem aDi (h:isS s p):kk s p=2*rd s p+1:=by rw[JY h.1.2,h.2];simp
def Nn (s:AH):Prop:= ∀x∈s,0<=x
theorem bEh (hs:Nn s) (a:0<=p) (h:p<s.length):0<=kk s p:=by
 have:=hs _ (bM a h);rw[JY h];split<;>omega
theorem bVh (hs:Nn s) (a:0<=p): -1<=kk s p:=by
 rcases bz p s.length with h|h
 ·have:=bEh hs a h;omega
 rw[BM h];omega
theorem sZ (hs:Nn s) (p0:0<=p) (g:0<=q) (e:kk s p=kk s q) (h:p<s.length):q<s.length/\rd s p=rd s q/\smB s p=smB s q:=by
 have d:q<s.length:=by
  rcases bz q s.length with a|a
  ·exact a
  have:=bEh hs p0 h;rw[BM a] at e;omega
 rw[JY h,JY d] at e;cases a:smB s p<;>cases b:smB s q<;>simp[a,b] at e<;>exact⟨d,G,by first|rfl|omega⟩
theorem bMf (hs:Nn s) (p0:0<=p) (g:0<=q) (h:kk s p<kk s q) (hp:p<s.length):dA s p q:=by
 have d:q<s.length:=by
  rcases bz q s.length with a|a
  ·exact a
  have:=bEh hs p0 hp;rw[BM a] at h;omega
 rcases uU (s:=s) ⟨p0,hp⟩ with a|a<;>rcases uU (s:=s) ⟨g,d⟩ with b|b
 ·rw[aDj a,aDj b] at h;exact xL ⟨p0,hp⟩ ⟨g,d⟩ G
 ·rw [aDj a,aDi b] at h;by_cases e:rd s p=rd s q
  ·exact aNj a b e
  exact xL ⟨p0,hp⟩ ⟨g,d⟩ G
 ·rw[aDi a,aDj b] at h;exact xL ⟨p0,hp⟩ ⟨g,d⟩ G
 rw[aDi a,aDi b] at h;exact xL ⟨p0,hp⟩ ⟨g,d⟩ G
theorem EG (b:0<=q) (a:q<s.length) (hp:(s.length:Int)<=p):dA s p q:=by
 rw[<-jK,BZ hp,jN b a];simp[cmpL]
theorem bEg (hs:Nn s): ∀(d:Nat) (x y:Int),0<=x->0<=y->(∀i:Nat,i<d->kk s (x+i)=kk s (y+i))->kk s (x+d)<kk s (y+d)->dA s x y
 | 0,x,y,x0,y0,_,h=>by
  simp only[Cn,yw] at h;rcases bz x s.length with a|a
  ·exact bMf hs x0 y0 h a
  have j:y<s.length:=by
   rcases bz y s.length with b|b
   ·exact b
   rw[BM a,BM b] at h;omega
  exact EG y0 j a
 | d+1,x,y,x0,y0,he,h=>by
  have g:=he 0 G;simp only[Cn,yw] at g
  have k:=bEg hs d (x+1) (y+1) G G (λi hi=>by
   have:=he (i+1) G
   rwa[show x+((i+1:Nat):Int)=x+1+i by omega,show y+((i+1:Nat):Int)=y+1+i by omega] at this) (by rwa[show x+((d+1:Nat):Int)=x+1+d by omega,show y+((d+1:Nat):Int)=y+1+d by omega] at h)
  rcases bz x s.length with a|a
  ·obtain ⟨j,e,_⟩:=sZ hs x0 y0 g a;rw[qD x0 a y0 j];exact .inr ⟨e,jK.2 k⟩
  have b:(s.length:Int)<=y:=by
   rcases bz y s.length with b|b
   ·have:=(sZ hs y0 x0 g.symm b).1;omega
   exact b
  rw[BM (by omega:(s.length:Int)<=x+((d+1:Nat):Int)),BM (by omega:(s.length:Int)<=y+((d+1:Nat):Int))] at h;omega
theorem WV: ∀(d:Nat) (x y:Int),0<=x->0<=y->x+d<s.length->y+d<s.length->(∀i:Nat,i<d->rd s (x+i)=rd s (y+i))->dA s (x+d) (y+d)->dA s x y
 |0,x,y,_,_,_,_,_,h=>by simpa using h
 | d+1,x,y,x0,y0,hx,hy,he,h=>by
  have a:=he 0 G;simp only[Cn,yw] at a;refine UN x0 G y0 G a (WV d (x+1) (y+1) G G G G (λi hi=> ?_) ?_)
  ·have:=he (i+1) G;rwa[show x+((i+1:Nat):Int)=x+1+i by omega,show y+((i+1:Nat):Int)=y+1+i by omega] at this
  rwa[show x+((d+1:Nat):Int)=x+1+d by omega,show y+((d+1:Nat):Int)=y+1+d by omega] at h
def pcL (s:AH) (x y:Int):Prop:= ∀d:Nat,(∀i:Nat,i<d->kk s (x+i)=kk s (y+i)/\iU s (x+i)=false)->kk s (x+d)<=kk s (y+d)
def pcS (s:AH) (x y:Int):Prop:= ∀d:Nat,(∀i:Nat,i<d->kk s (x+i)=kk s (y+i)/\(0<i->iU s (x+i)=false))->kk s (x+d)<=kk s (y+d)
def pcE (s:AH) (x y:Int):Prop:= ∀d:Nat,(∀i:Nat,0<i->i<d->iU s (x+i)=false)->kk s (x+d)=kk s (y+d)
theorem pcS.toL (h:pcS s x y):pcL s x y:=λd a=>h d λi hi=>⟨(a i hi).1,λ_=>(a i hi).2⟩
theorem pcL.toS (h:pcL s x y) (b:iU s x=false):pcS s x y:=λd a=>h d λi hi=>⟨(a i hi).1,by
 rcases fe i with e|e
 ·subst e;simpa using b
 exact(a i hi).2 e⟩
theorem bCr (h:kk s x<kk s y):pcS s x y:=λd a=>by
 rcases fe d with e|e
 ·subst e;simp;omega
 have:=(a 0 e).1;simp at this;omega
theorem UL (e:kk s x=kk s y) (h:pcL s (x+1) (y+1)):pcS s x y:=λd a=>by
 match d with
 |0=>simp;omega
 | d+1=>
  have:=h d λi hi=>by
   have:=a (i+1) G;rw[show x+((i+1:Nat):Int)=x+1+i by omega,show y+((i+1:Nat):Int)=y+1+i by omega] at this;exact⟨this.1,this.2 G⟩
  rwa[show x+((d+1:Nat):Int)=x+1+d by omega,show y+((d+1:Nat):Int)=y+1+d by omega]
theorem isL.not_fst (h:isL s x):iU s x=false:=by
 cases e:iU s x with
 |false=>rfl
 |true=>have:=(qG.1 e).2.1;rw[h.2] at this;cases this
theorem aHe (hp:0<=p/\p<s.length) (a:0<=q/\q<s.length) (h:rd s p<rd s q):pcS s p q:=by
 refine bCr ?_;rw[JY hp.2,JY a.2];split<;>split<;>omega
theorem bCs (hp:isL s p) (a:isS s q) (e:rd s p=rd s q):pcS s p q:=bCr (by rw[aDj hp,aDi a];omega)
theorem bLe (hs:Nn s):bIs s (pcL s):=⟨λhp a h=>(aHe hp a h).toL,λhp a e=>(bCs hp a e).toL,λ{q} hn i a e b=>by
  have hl:isL s (s.length-1):=⟨G,uL G G⟩;refine(UL (by rw[aDj hl,aDj b,e]) λd g=> ?_).toL;rw[BM (by omega:(s.length:Int)<=s.length-1+1+d)]
  exact bVh hs G,λhp a _ _ e h=>(UL (by rw[aDj hp,aDj a,e]) h).toL⟩
theorem bLd:bOd s (pcS s):=⟨aHe,bCs,λhp a _ _ e h=>UL (by rw[aDi hp,aDi a,e]) h.toL⟩
theorem bSg (l:AH) (ok:mR s l) (c:Int):(fE l s c).Pairwise (pcL s):=by
 refine dz.2 λi j hi g _=> ?_;have a:=qb.1 (mg hi);have b:=qb.1 (mg g);rw[iy] at a b;intro d e
 match d with
 |0=>simp only[Cn,yw];rw[aDi (ok.small a.1),aDi (ok.small b.1)];omega
 |d+1=>
  have:=(e 0 G).2;simp only[Cn,yw] at this;rw[(ok.2 _ a.1).2] at this;cases this
theorem aNt (hk:0<=k) (hs: ∀x∈s,0<=x/\x<k) {l:AH} (hp:l.Perm (bX s)) (hn:0<s.length):(vE s k l).Perm (iota s.length)/\(vE s k l).Pairwise (pcS s):=by
 have h:=aId hk hs (bLe λx a=>(hs x a).1) bLd (λp q hp _ h=>h.toS hp.not_fst) (bSg l (nC hp)) hp hn;exact⟨h.1,h.2.2⟩
theorem bTd (hs:Nn s) (x0:0<=x) (g:0<=y) (e:kk s x=kk s y) (d:kk s (x+1)=kk s (y+1)):iU s (x+1)=iU s (y+1):=by
 unfold iU;rw[show x+1-1=x by omega,show y+1-1=y by omega];rw[nz (by omega:0<x+1),nz (by omega:0<y+1)];rcases bz (x+1) s.length with a|a
 ·rw[(sZ hs x0 g e G).2.2,(sZ hs G G d a).2.2]
 have b:(s.length:Int)<=y+1:=by
  rcases bz (y+1) s.length with b|b
  ·have:=(sZ hs G G d.symm b).1;omega
  exact b
 rw[uL (i:=x+1) G G,uL (i:=y+1) G G];simp
theorem KE (hs:Nn s) (x0:0<=x) (b:0<=y) {i:Nat} (hi:0<i) (e: ∀j:Nat,j<=i->kk s (x+j)=kk s (y+j)):iU s (x+i)=iU s (y+i):=by
 have h1:=e (i-1) G;have a:=e i (dn _);have:=bTd hs (x:=x+((i-1:Nat):Int)) (y:=y+((i-1:Nat):Int)) G G h1 (by rwa[show x+((i-1:Nat):Int)+1=x+i by omega,show y+((i-1:Nat):Int)+1=y+i by omega]);rwa[show x+((i-1:Nat):Int)+1=x+i by omega,show y+((i-1:Nat):Int)+1=y+i by omega] at this
theorem JF (hs:Nn s) {x u v y:Int} (x0:0<=x) (q:0<=u) (v0:0<=v) (h1:pcS s x u) (m:pcS s u v) (o:pcS s v y) (p:pcE s x y): ∀d:Nat,(∀i:Nat,0<i->i<d->iU s (u+i)=false)-> ∀i:Nat,i<=d->kk s (x+i)=kk s (u+i)/\kk s (u+i)=kk s (v+i)/\kk s (x+i)=kk s (y+i)
 |0,_,i,hi=>by
  obtain rfl:i=0:=G
  have a:=h1 0 (λi hi=>G);have b:=m 0 (λi hi=>G);have c:=o 0 (λi hi=>G);have d:=p 0 (λi _ hi=>G);omega
 | d+1,hd,i,hi=>by
  have k:=JF hs x0 q v0 h1 m o p d λi h hi=>hd i h G;rcases gm d i with g|g
  ·obtain rfl:i=d+1:=G
   have l: ∀i:Nat,i<d+1->0<i->iU s (u+i)=false:=λi hi h=>hd i h hi
   have r: ∀i:Nat,i<d+1->0<i->iU s (x+i)=false:=λi hi h=>by
    rw[KE hs x0 q h λj w=>(k j G).1];exact l i hi h
   have A: ∀i:Nat,i<d+1->kk s (v+i)=kk s (y+i):=λi hi=>by have:=k i G;omega
   have a:=h1 (d+1) λi hi=>⟨(k i G).1,r i hi⟩;have b:=m (d+1) λi hi=>⟨(k i G).2.1,l i hi⟩;have e:=p (d+1) λi h hi=>r i hi h
   have c:kk s (v+((d+1:Nat):Int))<=kk s (y+((d+1:Nat):Int)):=by
    refine o (d+1) λi hi=>⟨A i hi,λh=> ?_⟩;rw[<-KE hs q v0 h λj w=>(k j G).2.1];exact l i hi h
   omega
  exact k i g
theorem aMa (hs:Nn s) {u v:Int} (x0:0<=x) (e:0<=u) (v0:0<=v) (h1:pcS s x u) (g:pcS s u v) (k:pcS s v y) (l:pcE s x y):pcE s x u/\pcE s u v:=by
 refine⟨λd a=> ?_,λd a=>(JF hs x0 e v0 h1 g k l d a d (dn _)).2.1⟩
 suffices h: ∀d:Nat,(∀i:Nat,0<i->i<d->iU s (x+i)=false)-> ∀i:Nat,i<=d->kk s (x+i)=kk s (u+i) from h d a d (dn _)
 intro d
 induction d with
 |zero=>intro _ i hi;obtain rfl:i=0:=G;exact(JF hs x0 e v0 h1 g k l 0 (λi b hi=>G) 0 (dn _)).1
 |succ d ih=>
  intro a i hi;have o:=ih λi b hi=>a i b G;refine(JF hs x0 e v0 h1 g k l (d+1) (λj b p=> ?_) i hi).1;rw[<-KE hs x0 e b λm q=>o m G];exact a j b p
theorem pcE.symm (hs:Nn s) (x0:0<=x) (l:0<=y) (h:pcE s x y):pcE s y x:=by
 intro d e
 suffices g: ∀d:Nat,(∀i:Nat,0<i->i<d->iU s (y+i)=false)-> ∀i:Nat,i<=d->kk s (y+i)=kk s (x+i) from g d e d (dn _)
 intro d
 induction d with
 |zero=>intro _ i hi;obtain rfl:i=0:=G;exact(h 0 λi a hi=>G).symm
 | succ d ih=>
  intro e i hi;have b:=ih λi a hi=>e i a G;rcases gm d i with g|g
  ·obtain rfl:i=d+1:=G
   refine(h (d+1) λj a k=> ?_).symm;rw[<-KE hs l x0 a λm o=>b m G];exact e j a k
  exact b i g
theorem bLf (hs:Nn s) (x0:0<=x) (q:0<=y) (h:pcS s x y) (l: ¬pcE s x y):dA s x y:=by
 have key: ∀D:Nat,(∀i:Nat,0<i->i<D->iU s (x+i)=false)-> ¬kk s (x+D)=kk s (y+D)-> ∃d:Nat,(∀i:Nat,i<d->kk s (x+i)=kk s (y+i))/\kk s (x+d)<kk s (y+d):=by
  intro D
  induction D using Nat.strongRecOn with
  | ind D ih=>
   intro a l;by_cases k: ∀i:Nat,i<D->kk s (x+i)=kk s (y+i)
   ·have:=h D λi hi=>⟨k i hi,λb=>a i b hi⟩;exact⟨D,k,G⟩
   obtain ⟨i,hi⟩:=Gf.1 k;obtain⟨o,m⟩:=Classical.not_imp.1 hi;exact ih i o (λj b r=>a j b G) m
 obtain⟨D,a⟩:=Gf.1 l;obtain⟨e,g⟩:=Classical.not_imp.1 a;obtain⟨d,h1,p⟩:=key D e g;exact bEg hs d x y x0 q h1 p
structure NxI (s:AH) (x z:Int):Prop where
 gt:x<z
 le:z<=s.length
 no: ∀q,x<q->q<z->iU s q=false
 is:z<s.length->iU s z=true
theorem NxI.one {w:Int} (h:NxI s x z) (g:NxI s x w):z=w:=by
 rcases jf z w with a|a|a
 ·have h1:=h.is (by have:=g.le;omega);rw[g.no z h.gt a] at h1;cases h1
 ·exact a
 have h1:=g.is (by have:=h.le;omega);rw[h.no w g.gt a] at h1;cases h1
def Peq (s nx:AH) (x y:Int):Prop:=rd nx x<s.length/\rd nx y<s.length/\rd nx x-x=rd nx y-y/\ ∀i:Int,0<=i->i<=rd nx x-x->rd s (x+i)=rd s (y+i)
theorem Peq.symm (h:Peq s nx x y):Peq s nx y x:=⟨h.2.1,h.1,h.2.2.1.symm,λi a h1=>(h.2.2.2 i a (by have:=h.2.2.1;omega)).symm⟩
theorem Peq.trans (h:Peq s nx x y) (g:Peq s nx y z):Peq s nx x z:=⟨h.1,g.2.1,h.2.2.1.trans g.2.2.1,λi a h1=>(h.2.2.2 i a h1).trans (g.2.2.2 i a (by have:=h.2.2.1;omega))⟩
theorem Peq.E (x0:0<=x) (A:0<=y) (l:NxI s x (rd nx x)) (v:NxI s y (rd nx y)) (h:Peq s nx x y):pcE s x y:=by
 obtain⟨h1,r,w,k⟩:=h;have m7:=l.gt;have p:=qG.1 (l.is h1);have q:=qG.1 (v.is r)
 have kinds: ∀m:Nat,∀i:Int,0<=i->i<=rd nx x-x->rd nx x-x-i<=m->smB s (x+i)=smB s (y+i):=by
  intro m
  induction m with
  |zero=>
   intro i i0 o i2;obtain rfl:i=rd nx x-x:=G
   rw[show x+(rd nx x-x)=rd nx x by omega,show y+(rd nx x-x)=rd nx y by omega,p.2.1,q.2.1]
  | succ m ih=>
   intro i i0 o i2;rcases bz i (rd nx x-x) with g|g
   ·have e:=ih (i+1) G G G;have c0:=k i i0 o;have c1:=k (i+1) G G;have a:=zZ (s:=s) (i:=x+i) G G;have b:=zZ (s:=s) (i:=y+i) G G;rw[show x+i+1=x+(i+1) by omega] at a;rw[show y+i+1=y+(i+1) by omega,<-c0,<-c1,<-e] at b;exact Bool.eq_iff_iff.2 (a.trans b.symm)
   exact ih i i0 o G
 intro d u
 have j:(d:Int)<=rd nx x-x:=by
  rcases bz (rd nx x-x) d with g|g
  ·have:=u (rd nx x-x).toNat G G;rw[show x+(((rd nx x-x).toNat:Nat):Int)=rd nx x by omega,l.is h1] at this;cases this
  exact g
 rw[JY G,JY G,k d G j,kinds (rd nx x-x).toNat d G j G]
theorem Peq.of_E (hs:Nn s) (x0:0<=x) (B:0<=y) (C:x≠y) (a:NxI s x (rd nx x)) (m:NxI s y (rd nx y)) (h:pcE s x y):Peq s nx x y:=by
 have m7:=a.gt;have u:=m.gt;have J:=a.le;have v:=m.le
 have d: ∀i:Int,0<=i->i<=rd nx x-x->kk s (x+i)=kk s (y+i):=λi i0 o=>by
  have:=h i.toNat λj j0 H=>a.no _ G G;rwa[show((i.toNat:Nat):Int)=i by omega] at this
 have k:=d (rd nx x-x) G (ni _);have w:=d (rd nx x-x-1) G G;rw[show x+(rd nx x-x)=rd nx x by omega] at k;have hb:=(sZ hs G G w G).1
 have p:rd nx x<s.length:=by
  rcases bz (rd nx x) s.length with g|g
  ·exact g
  have:(s.length:Int)<=y+(rd nx x-x):=by
   rcases bz (y+(rd nx x-x)) s.length with b|b
   ·have:=(sZ hs G G k.symm b).1;omega
   exact b
  omega
 have A:=(sZ hs G G k p).1
 have r: ∀i:Int,0<i->i<=rd nx x-x->iU s (x+i)=iU s (y+i):=λi i0 o=>by
  have:=KE hs x0 B (i:=i.toNat) G λj F=>d j G G;rwa[show((i.toNat:Nat):Int)=i by omega] at this
 have l:NxI s y (y+(rd nx x-x)):=⟨G,G,λq h1 D=>by
  have:=r (q-y) G G;rw[show y+(q-y)=q by omega] at this;rw[<-this];exact a.no _ G G,λ_=>by
  rw[<-r _ G (ni _),show x+(rd nx x-x)=rd nx x by omega]
  exact a.is p⟩
 have e:=m.one l;refine⟨p,G,G,λi i0 o=>(sZ hs G G (d i i0 o) G).2.1⟩
end
end
end Go.Pure
namespace Go.Pure
open Go Go.Eng
section
variable {s:AH} {k:Int}
section
variable {a x i:Int}
theorem bFe (s:AH):(bX s).Pairwise (· < ·):=(xP _).sublist ve
theorem rQ (b:0<=a) (h:a<(bX s).length):(0<=rd (bX s) a/\rd (bX s) a<s.length)/\iU s (rd (bX s) a)=true:=xN.1 (bM b h)
theorem aDq (b:0<=x) (h:x<s.length) (d:iU s x=true): ∃a:Int,0<=a/\a<(bX s).length/\rd (bX s) a=x:=by
 obtain⟨u,hu,e⟩:=ib.1 (xN.2 ⟨⟨b,h⟩,d⟩);exact⟨u,G,G,by rw[jY hu];exact e⟩
theorem KF {b:Int} (d:0<=a) (m6:a<b) (h:b<(bX s).length):rd (bX s) a<rd (bX s) b:=gB (bFe s) d m6 h
theorem aWn (hn:0<s.length):(bX s).length<s.length:=by
 have:(bX s).length<=((iota s.length).erase 0).length:=rC (GU s) λx a=>by
  have h:=xN.1 a;have b:=(qG.1 h.2).1;exact(Gm G).2 (aY.2 h.1)
 rw[De (aY.2 ⟨ni 0,G⟩),bI] at this;omega
structure yD (s nx:AH) (i:Int):Prop where
 len:nx.length=s.length
 at_: ∀a:Int,0<=a->a<i->rd nx (rd (bX s) a)=if a+1<(bX s).length then rd (bX s) (a+1) else s.length
 no: ∀j:Int,0<=j->j<s.length->iU s j=false->rd nx j=0
theorem bLo:yD s (List.replicate s.length 0) 0:=⟨cD,λa b h=>G,λj _ _ _=>yO⟩
theorem yD.step {nx b:AH} {v:Int} (h:yD s nx i) (k:0<=i) (hi:i<(bX s).length) (o:v=if i+1<(bX s).length then rd (bX s) (i+1) else s.length) (hl:b.length=s.length)
  (g: ∀j:Int,0<=j->rd b j=if j=rd (bX s) i then v else rd nx j):yD s b (i+1):=by
 have m:=rQ k hi;refine⟨hl,λa a0 a1=> ?_,λj j0 p d=> ?_⟩
 ·have l:=rQ (s:=s) a0 G;rw[g _ l.1.1];by_cases e:a=i
  ·subst e;rw[cz rfl,o]
  rw [bq,h.at_ a a0 G];have:=KF (s:=s) a0 (by omega:a<i) hi;omega
 rw [g j j0,bq,h.no j j0 p d];intro e;rw[e,m.2] at d;cases d
theorem yD.step1 {nx:AH} (h:yD s nx i) (a:0<=i) (hi:i<(bX s).length) (hc: ¬i+1<(bX s).length):yD s (upd nx (rd (bX s) i) s.length) (i+1):=by
 have b:=rQ a hi;exact h.step a hi (by rw[bq hc]) (by rw[aW];exact h.len) λj j0=>iQ b.1.1 j0 (by rw[h.len];exact b.1.2)
theorem yD.step2 {nx:AH} {w:Int} (h:yD s nx i) (b:0<=i) (hi:i<(bX s).length) (hc:i+1<(bX s).length):yD s (upd (upd nx (rd (bX s) i) w) (rd (bX s) i) (rd (bX s) (i+1))) (i+1):=by
 have a:=rQ b hi;refine h.step b hi (by rw[cz hc]) (by rw[aW,aW];exact h.len) λj j0=> ?_;rw[iQ a.1.1 j0 (by rw[aW,h.len];exact a.1.2)];split
 ·rfl
 rename_i e;rw[iQ a.1.1 j0 (by rw[h.len];exact a.1.2),bq e]
theorem yD.nx {nx:AH} (h:yD s nx (bX s).length) (l:0<=x) (k:x<s.length) (o:iU s x=true):NxI s x (rd nx x):=by
 obtain⟨a,a0,a1,rfl⟩:=aDq l k o;rw[h.at_ a a0 a1];split
 ·rename_i e;have g:=rQ (s:=s) (a:=a+1) G e;refine⟨KF a0 G e,G,λq h1 m=> ?_,λ_=>g.2⟩;cases hq:iU s q with
  |false=>rfl
  | true=>
   obtain⟨b,i,j,rfl⟩:=aDq (s:=s) (x:=q) G G hq;exfalso;rcases jf b a with d|d|d
   ·have:=KF (s:=s) i d a1;omega
   ·subst d;omega
   rcases bz (a+1) b with d2|d2
   ·have:=KF (s:=s) (a:=a+1) G d2 j;omega
   obtain rfl:b=a+1:=G
   omega
 rename_i e;refine⟨k,ni _,λq h1 m=> ?_,λh=>G⟩;cases hq:iU s q with
 |false=>rfl
 |true=>
  obtain⟨b,i,j,rfl⟩:=aDq (s:=s) (x:=q) G G hq;exfalso;rcases jf b a with d|d|d
  ·have:=KF (s:=s) i d a1;omega
  ·subst d;omega
  omega
theorem yD.zero {nx:AH} (h:yD s nx (bX s).length) (a:0<=x) (b:x<s.length):rd nx x=0↔iU s x=false:=by
 cases hf:iU s x with
 |false=>exact⟨λ_=>rfl,λ_=>h.no x a b hf⟩
 |true=>exact⟨λe=>by have:=(h.nx a b hf).gt;omega,λe=>by cases e⟩
structure IA (s ord nx:AH) (t:Int) (nm:AH) (n last:Int):Prop where
 len:nm.length=s.length
 bd:0<=n/\n<=t
 start:last= -1->n=0/\ ∀q:Int,0<=q->q<t->iU s (rd ord q)=false
 last_:last= -1\/ ∃q:Int,0<=q/\q<t/\rd ord q=last/\iU s last=true/\rd nm last=n/\ ∀r:Int,q<r->r<t->iU s (rd ord r)=false
 rng: ∀q:Int,0<=q->q<t->iU s (rd ord q)=true->0<=rd nm (rd ord q)/\rd nm (rd ord q)<=n
 pair: ∀q r:Int,0<=q->q<r->r<t->iU s (rd ord q)=true->iU s (rd ord r)=true->rd nm (rd ord q)<=rd nm (rd ord r)/\(rd nm (rd ord q)=rd nm (rd ord r)->Peq s nx (rd ord q) (rd ord r))/\(rd nm (rd ord q)<rd nm (rd ord r)-> ¬pcE s (rd ord q) (rd ord r))
end
variable {ord nx nm:AH} {t n last:Int}
section
variable {x y:Int}
theorem bDm:IA s ord nx 0 (List.replicate s.length 0) 0 (-1):=⟨cD,G,λ_=>⟨rfl,λq a h=>G⟩, .inl rfl,λq a h=>G,λq r a h b=>G⟩
theorem IA.skip (h:IA s ord nx t nm n last) (g:iU s (rd ord t)=false):IA s ord nx (t+1) nm n last:=by
 have i: ∀ {q:Int},q<t+1->iU s (rd ord q)=true->q<t:=λ{q} h1 b=>by
  rcases bz q t with a|a
  ·exact a
  obtain rfl:q=t:=G
  rw[g] at b;cases b
 refine⟨h.len,by have:=h.bd;omega,λe=>⟨(h.start e).1,λq d h1=> ?_⟩,?_,λq d h1 b=>h.rng q d (i h1 b) b,λq r d h1 b f1 f2=>h.pair q r d h1 (i b f2) f1 f2⟩
 ·rcases bz q t with a|a
  ·exact(h.start e).2 q d a
  obtain rfl:q=t:=G
  exact g
 rcases h.last_ with e|⟨q,h1,b,j,k,l,m⟩
 ·exact .inl e
 refine .inr ⟨q,h1,G,j,k,l,λr o r1=> ?_⟩;rcases bz r t with a|a
 ·exact m r o a
 obtain rfl:r=t:=G
 exact g
theorem IA.last_in (h:IA s ord nx t nm n last) (hp:ord.Perm (iota s.length)) (g:t<=s.length):last= -1\/((0<=last/\last<s.length)/\iU s last=true):=by
 rcases h.last_ with e|⟨q,h1,d,a,b,_⟩
 ·exact .inl e
 rw [<-a];have hl:=hp.length_eq;rw[bI] at hl;exact .inr ⟨aY.1 (hp.subset (bM h1 G)),by rw[a];exact b⟩
theorem IA.step (hs:Nn s) (h:IA s ord nx t nm n last) (hp:ord.Perm (iota s.length)) (L:ord.Pairwise (pcS s)) (F:yD s nx (bX s).length) (t0:0<=t) (R:t<s.length) (K:iU s (rd ord t)=true) {j:Int}
  (hn:(last= -1/\j=n)\/(0<=last/\Peq s nx last (rd ord t)/\j=n)\/(0<=last/\ ¬Peq s nx last (rd ord t)/\j=n+1)):IA s ord nx (t+1) (upd nm (rd ord t) j) j (rd ord t):=by
 have hl:ord.length=s.length:=by rw[hp.length_eq,bI]
 have m:ord.Nodup:=hp.symm.nodup (fV _);have A: ∀q:Int,0<=q->q<s.length->0<=rd ord q/\rd ord q<s.length:=λq i M=>aY.1 (hp.subset (bM i G));have k:=A t t0 R
 have io: ∀q:Int,0<=q->q<t->rd (upd nm (rd ord t) j) (rd ord q)=rd nm (rd ord q):=λq i M=>by
  have o:=A q i G;rw[iQ k.1 o.1 (by rw[h.len];exact k.2),bq];intro e;have:=mJ m i G t0 G e;omega
 have C:rd (upd nm (rd ord t) j) (rd ord t)=j:=by rw[iQ k.1 k.1 (by rw[h.len];exact k.2),cz rfl]
 have Y:=h.bd;have O:n<=j:=by rcases hn with a|a|a<;>omega
 refine⟨by rw[aW];exact h.len,by rcases hn with a|a|a<;>omega,λe=>G, .inr ⟨t,t0,G,rfl,K,C,λr X r1=>G⟩,λq i M f=> ?_,λq r i qr r1 f1 f2=> ?_⟩
 ·rcases bz q t with a|a
  ·rw [io q i a];have:=h.rng q i a f;omega
  obtain rfl:q=t:=G
  rw[C];omega
 rcases bz r t with a|a
 ·rw [io q i G,io r G a];exact h.pair q r i qr a f1 f2
 obtain rfl:r=t:=G
 rw[io q i qr,C];have o:=A q i G;have T:=h.rng q i qr f1;rcases h.last_ with e|⟨z,z0,N,z2,z3,z4,z5⟩
 ·have:=(h.start e).2 q i qr;rw[f1] at this;cases this
 have Q:q<=z:=by
  rcases bz z q with b|b
  ·have:=z5 q b qr;rw[f1] at this;cases this
  exact b
 have w:=A z z0 G;have H:pcS s (rd ord z) (rd ord r):=gB L z0 N G;have x:=F.nx w.1 w.2 (by rw[z2];exact z3);have p:=F.nx k.1 k.2 K;have P:=F.nx o.1 o.2 f1;have J:rd ord z≠rd ord r:=λe=>by have:=mJ m z0 G t0 G e;omega
 have rg:(j=n->Peq s nx (rd ord z) (rd ord r))/\(n<j-> ¬Peq s nx (rd ord z) (rd ord r)):=by
  rw[z2];rcases hn with b|b|b
  ·omega
  ·exact⟨λ_=>b.2.1,λ_=>G⟩
  exact⟨λ_=>G,λ_=>b.2.1⟩
 have hE:pcE s (rd ord q) (rd ord r)->pcE s (rd ord z) (rd ord r)/\(q<z->pcE s (rd ord q) (rd ord z)):=λl=>by
  rcases bz q z with b|b
  ·have:=aMa hs (u:=rd ord z) (v:=rd ord r) (y:=rd ord r) o.1 w.1 k.1 (gB L i b G) H (λd S=>ni _) l;exact⟨this.2,λ_=>this.1⟩
  obtain rfl:q=z:=G
  exact⟨l,λh=>G⟩
 rcases bz q z with b|b
 ·have B:=h.pair q z i b N f1 (by rw[z2];exact z3);have D:rd nm (rd ord z)=n:=by rw[z2];exact z4
  rw[D] at B;refine⟨G,λe=>(B.2.1 G).trans (rg.1 G),λe l=> ?_⟩;rcases bz n j with g|g
  ·exact rg.2 g (Peq.of_E hs w.1 k.1 J x p (hE l).1)
  exact B.2.2 G ((hE l).2 b)
 obtain rfl:q=z:=G
 have D:rd nm (rd ord q)=n:=by rw[z2];exact z4
 rw[D];refine⟨O,λe=>rg.1 e.symm,λe l=>rg.2 e (Peq.of_E hs w.1 k.1 J x p l)⟩
theorem aAh (hs:Nn s) (h:IA s ord nx s.length nm n last) (hp:ord.Perm (iota s.length)) (D:ord.Pairwise (pcS s)) (v:yD s nx (bX s).length): ∀(m:Nat) (a b:Int),(bX s).length-a<=m->0<=a->a<(bX s).length->0<=b->b<(bX s).length->
  dA ((bX s).map (rd nm)) a b->dA s (rd (bX s) a) (rd (bX s) b)
 |0,a,b,hm,a0,a1,_,_,_=>G
 | m +1,a,b,hm,a0,a1,b0,b1,m6=>by
  have hl:ord.length=s.length:=by rw[hp.length_eq,bI]
  have N:((bX s).map (rd nm)).length=(bX s).length:=by rw[bn]
  have l: ∀c:Int,0<=c->c<(bX s).length->rd ((bX s).map (rd nm)) c=rd nm (rd (bX s) c):=λc c0 c1=>by
   rw[fH c0 G,yt,<-fH c0 c1]
  have J: ∀c:Int,0<=c->c<(bX s).length-> ∃q:Int,0<=q/\q<s.length/\rd ord q=rd (bX s) c:=λc c0 c1=>by
   have hc:=rQ (s:=s) c0 c1;obtain⟨u,hu,e⟩:=ib.1 (hp.symm.subset (aY.2 hc.1));exact⟨u,G,G,by rw[jY hu];exact e⟩
  have M:a≠b:=λe=>by rw[e] at m6;exact iE _ _ m6 m6
  have j:=rQ (s:=s) a0 a1;have hb:=rQ (s:=s) b0 b1;have L:rd (bX s) a≠rd (bX s) b:=λe=>M (mJ (GU s) a0 a1 b0 b1 e);obtain⟨q,A,F,eq⟩:=J a a0 a1;obtain⟨r,H,r1,g⟩:=J b b0 b1;have O:q≠r:=λe=>L (by rw[<-eq,<-g,e]);rw[qD a0 G b0 G,l a a0 a1,l b b0 b1] at m6;have o:iU s (rd ord q)=true:=by rw[eq];exact j.2
  have p:iU s (rd ord r)=true:=by rw[g];exact hb.2
  rcases m6 with ci|⟨C,K⟩
  ·rcases bz q r with c|c
   ·have d:=h.pair q r A c r1 o p;rw[eq,g] at d;have:=gB D A c G;rw[eq,g] at this;exact bLf hs j.1.1 hb.1.1 this (d.2.2 ci)
   have d:=h.pair r q H G F p o;rw[eq,g] at d;omega
  have y:Peq s nx (rd (bX s) a) (rd (bX s) b):=by
   rcases bz q r with c|c
   ·have d:=h.pair q r A c r1 o p;rw[eq,g] at d;exact d.2.1 C
   have d:=h.pair r q H G F p o;rw[eq,g] at d;exact(d.2.1 C.symm).symm
  obtain⟨p1,p2,p3,Q⟩:=y;have R:=(v.nx j.1.1 j.1.2 j.2).gt;have w:=v.at_ a a0 a1;have x:=v.at_ b b0 b1
  have B:a+1<(bX s).length:=by
   rcases bz (a+1) (bX s).length with c|c
   ·exact c
   rw[bq G] at w;omega
  have k:b+1<(bX s).length:=by
   rcases bz (b+1) (bX s).length with c|c
   ·exact c
   rw[bq G] at x;omega
  rw[cz B] at w;rw[cz k] at x;have P:=aAh hs h hp D v m (a+1) (b+1) G G B G k (jK.1 K);rw[<-w,<-x] at P;refine WV (rd nx (rd (bX s) a)-rd (bX s) a).toNat _ _ j.1.1 hb.1.1 G G (λi hi=>Q i G G) ?_;rwa[show rd (bX s) a+(((rd nx (rd (bX s) a)-rd (bX s) a).toNat:Nat):Int)=rd nx (rd (bX s) a) by omega,show rd (bX s) b+(((rd nx (rd (bX s) a)-rd (bX s) a).toNat:Nat):Int)=rd nx (rd (bX s) b) by omega]
theorem bDi (h:IA s ord nx s.length nm n last) (hp:ord.Perm (iota s.length)): ∀x∈(bX s).map (rd nm),0<=x/\x<n+1:=by
 intro x d;obtain⟨y,g,rfl⟩:=gq.1 d;obtain⟨a,b⟩:=xN.1 g;have hl:ord.length=s.length:=by rw[hp.length_eq,bI]
 obtain⟨u,hu,e⟩:=ib.1 (hp.symm.subset (aY.2 a));have:=h.rng u G G (by rw[jY hu,e];exact b);rw[jY hu,e] at this;omega
theorem bBl (hs:Nn s) (h:IA s ord nx s.length nm n last) (hp:ord.Perm (iota s.length)) (g:ord.Pairwise (pcS s)) (i:yD s nx (bX s).length) {o:AH} (op:o.Perm (iota ((bX s).map (rd nm)).length)) (j:o.Pairwise (dA ((bX s).map (rd nm)))):
  (o.map (rd (bX s))).Perm (bX s)/\(o.map (rd (bX s))).Pairwise (dA s):=by
 rw[bn] at op;refine⟨?_,?_⟩
 ·have:=op.map (rd (bX s));rwa[oU] at this
 refine iv.2 (mh (λ{a b} e hb m6=> ?_) j);have h1:=aY.1 (op.subset e);have d:=aY.1 (op.subset hb);exact aAh hs h hp g i (bX s).length a b G h1.1 h1.2 d.1 d.2 m6
theorem aRa {l:AH} {i:Int} {m:Nat} (x0:0<=x) (a:0<=i) (h:i<m):rd ((l.drop x.toNat).take m) i=rd l (x+i):=by
 unfold rd;rw[af,af,qx G,ui,show x.toNat+i.toNat=(x+i).toNat by omega]
theorem aGy (x0:0<=x) (g:0<=y) (m:x<rd nx x) (j:rd nx x<s.length) (o:y<rd nx y) (a:rd nx y<s.length):
  (s.drop x.toNat).take ((min (rd nx x+1) ((s.length:Nat):Int)).toNat-x.toNat)=(s.drop y.toNat).take ((min (rd nx y+1) ((s.length:Nat):Int)).toNat-y.toNat)↔Peq s nx x y:=by
 have b:((s.drop x.toNat).take ((min (rd nx x+1) ((s.length:Nat):Int)).toNat-x.toNat)).length=(rd nx x-x+1).toNat:=by rw[ax,az];omega
 have e:((s.drop y.toNat).take ((min (rd nx y+1) ((s.length:Nat):Int)).toNat-y.toNat)).length=(rd nx y-y+1).toNat:=by rw[ax,az];omega
 constructor
 ·intro h;have hl:=bi List.length h;rw[b,e] at hl;refine⟨j,a,G,λi i0 d=> ?_⟩;have:rd ((s.drop x.toNat).take ((min (rd nx x+1) ((s.length:Nat):Int)).toNat-x.toNat)) i=rd ((s.drop y.toNat).take ((min (rd nx y+1) ((s.length:Nat):Int)).toNat-y.toNat)) i:=by rw[h]
  rwa[aRa x0 i0 G,aRa g i0 G] at this
 rintro ⟨_,_,l,k⟩;refine bP (by rw[b,e];omega) λi i0 d=> ?_;rw[b] at d;rw[aRa x0 i0 G,aRa g i0 G];exact k i i0 G
theorem bCi {r:Int->Int->Prop}: ∀ {l:AH},l.length<2->l.Pairwise r
 |[],_=> .nil
 |[_],_=>ql _ _
 |_::_::_,h=>by simp at h;omega
theorem bDl (hl:0<=x->x<s.length/\x<rd nx x/\rd nx x<=s.length) (e:0<=y) (b:y<rd nx y) (d:rd nx y<=s.length)
  (h:0<=x/\((rd nx y=((s.length:Nat):Int)\/rd nx x=((s.length:Nat):Int))\/ ¬(s.drop x.toNat).take ((min (rd nx x+1) ((s.length:Nat):Int)).toNat-x.toNat)=(s.drop y.toNat).take ((min (rd nx y+1) ((s.length:Nat):Int)).toNat-y.toNat))):
  (x= -1/\n+1=n)\/(0<=x/\Peq s nx x y/\n+1=n)\/(0<=x/\ ¬Peq s nx x y/\n+1=n+1):=by
 refine .inr (.inr ⟨h.1,λhp=> ?_,rfl⟩);have a:=hl h.1;rcases h.2 with g|g
 ·have h1:=hp.1;have i:=hp.2.1;omega
 exact g ((aGy h.1 e a.2.1 hp.1 b hp.2.1).2 hp)
theorem bDk (l: -1<=x) (hl:0<=x->x<s.length/\x<rd nx x/\rd nx x<=s.length) (j:0<=y) (d:y<rd nx y) (i:rd nx y<=s.length)
  (h: ¬(0<=x/\((rd nx y=((s.length:Nat):Int)\/rd nx x=((s.length:Nat):Int))\/ ¬(s.drop x.toNat).take ((min (rd nx x+1) ((s.length:Nat):Int)).toNat-x.toNat)=(s.drop y.toNat).take ((min (rd nx y+1) ((s.length:Nat):Int)).toNat-y.toNat)))):
  (x= -1/\n=n)\/(0<=x/\Peq s nx x y/\n=n)\/(0<=x/\ ¬Peq s nx x y/\n=n+1):=by
 rcases bz x 0 with g|g
 ·exact .inl ⟨G,rfl⟩
 have a:=hl g;have h1: ¬rd nx y=((s.length:Nat):Int):=λe=>h ⟨g, .inl (.inl e)⟩;have k: ¬rd nx x=((s.length:Nat):Int):=λe=>h ⟨g, .inl (.inr e)⟩;have b:=pg.1 λe=>h ⟨g, .inr e⟩;exact .inr (.inl ⟨g,(aGy g j a.2.1 G d G).1 b,rfl⟩)
end
end
end Go.Pure
namespace Go.Pure
open Go Go.Eng
section
variable {n:Nat} {q:Int} {f:Int->Int}
theorem OA {T:Int->Int->Prop} [DecidableRel T] (b: ∀x y,T x y-> ¬T y x): ∀ {o:AH} {q:Nat},o.Pairwise T->(h:q<o.length)->o.countP (λx=>decide (T x o[q]))=q
 |[],q,_,h=>by simp at h
 |a::o,0,hs,h=>by
  rw[Cz];intro x d;simp only[List.getElem_cons_zero,iy];rcases il.1 d with rfl|d
  ·exact λh=>b _ _ h h
  exact b _ _ ((jb.1 hs).1 x d)
 |a::o,q+1,hs,h=>by
  obtain⟨h1,g⟩:=jb.1 hs;have e:q<o.length:=by simp only[dh] at h;omega
  simp only[List.getElem_cons_succ];rw[List.countP_cons_of_pos (by simpa using h1 _ (mg e)),OA b g e]
theorem aCx {T:Int->Int->Prop} [DecidableRel T] (a: ∀x y,T x y-> ¬T y x) {o:AH} (hp:o.Perm (iota n)) (hs:o.Pairwise T) (b:0<=q) (d:q<n):(((iota n).countP λx=>decide (T x (rd o q)):Nat):Int)=q:=by
 have hl:o.length=n:=by rw[hp.length_eq,bI]
 rw[<-hp.countP_eq,fH b G,OA a hs G];omega
theorem vN (b:0<=q) (a:q<n):rd (iota n) q=q:=by
 unfold iota;rw[jU b a];omega
theorem xZ (i: ∀x:Int,0<=x->x<n->0<=f x/\f x<n) (hi: ∀x y:Int,0<=x->x<n->0<=y->y<n->f x=f y->x=y):((iota n).map f).Perm (iota n):=by
 refine uP ?_ (λx j=> ?_) cD
 ·refine iv.2 (mh (λ{a b} g hb m6 e=> ?_) (fV n));have h1:=aY.1 g;have d:=aY.1 hb;exact m6 (hi a b h1.1 h1.2 d.1 d.2 e)
 obtain ⟨y,k,rfl⟩:=gq.1 j;have h:=aY.1 k;exact aY.2 (i y h.1 h.2)
theorem bIa (d: ∀x:Int,0<=x->x<n->0<=f x/\f x<n) (hi: ∀x y:Int,0<=x->x<n->0<=y->y<n->f x=f y->x=y) {k:Int} (k0:0<=k) (hk:k<n):(((iota n).countP λj=>decide (f j<f k):Nat):Int)=f k:=by
 have h1:=d k k0 hk;have a:=aCx (T:=(· < ·)) (λx y h=>G) (List.Perm.refl (iota n)) (xP n) h1.1 h1.2;rw[vN h1.1 h1.2] at a;have b:=(xZ d hi).countP_eq (λx=>decide (x<f k));rw[List.countP_map] at b;rw[<-b] at a;exact a
def tl (l:AH) (i k:Int):Prop:=rd l i<rd l k\/rd l i=rd l k/\i<k
instance (l:AH):DecidableRel (tl l):=λi k=>by unfold tl;infer_instance
theorem aZt {l:AH} (x y:Int) (h:tl l x y): ¬tl l y x:=by unfold tl at*;omega
def lfC (l:AH) (k:Int):Int:=((iota l.length).countP λj=>decide (tl l j k):Nat)
def Byt (l:AH):Prop:= ∀x∈l,0<=x/\x<256
end
section
variable {l:AH}
section
variable {i k:Int} {a:AH}
theorem mZ (hl:Byt l):(dN (iota l.length) l 256).Perm (iota l.length)/\(dN (iota l.length) l 256).Pairwise (tl l):=
 ⟨qW λi hi=>by have h:=aY.1 hi;exact hl _ (bM h.1 h.2),jM (xP _) 256⟩
theorem bVf (hl:Byt l) {q:Int} (b:0<=q) (a:q<l.length):lfC l (rd (dN (iota l.length) l 256) q)=q:=aCx aZt (mZ hl).1 (mZ hl).2 b a
theorem aHx (hl:Byt l) (i0:0<=i) (hi:i<l.length): ∃q:Int,0<=q/\q<l.length/\rd (dN (iota l.length) l 256) q=i/\lfC l i=q:=by
 obtain⟨u,hu,e⟩:=ib.1 ((mZ hl).1.symm.subset (aY.2 ⟨i0,hi⟩));have hlen:=(mZ hl).1.length_eq;rw[bI] at hlen;have a:rd (dN (iota l.length) l 256) (u:Int)=i:=by rw[jY hu];exact e
 refine⟨u,G,G,a,?_⟩;rw[<-a];exact bVf hl G G
theorem OG (hl:Byt l) (i0:0<=i) (hi:i<l.length):0<=lfC l i/\lfC l i<l.length:=by
 obtain⟨q,a,b,_,e⟩:=aHx hl i0 hi;omega
theorem bDz (hl:Byt l) (i0:0<=i) (hi:i<l.length) (k0:0<=k) (hk:k<l.length):lfC l i<lfC l k↔tl l i k:=by
 obtain⟨p,p0,p1,b,d⟩:=aHx hl i0 hi;obtain⟨q,g,j,eq,e⟩:=aHx hl k0 hk;have hlen:=(mZ hl).1.length_eq;rw[bI] at hlen;have hs:=(mZ hl).2;rw[d,e];constructor
 ·intro h;have:=gB hs p0 h G;rwa[b,eq] at this
 intro h;rcases jf p q with a|a|a
 ·exact a
 ·subst a;rw[<-b,<-eq] at h;exact absurd h (aZt _ _ h)
 have:=gB hs g a G;rw[b,eq] at this;exact absurd h (aZt _ _ this)
theorem bEa (hl:Byt l) (i0:0<=i) (hi:i<l.length) (k0:0<=k) (hk:k<l.length) (e:lfC l i=lfC l k):i=k:=by
 have h1:=bDz hl i0 hi k0 hk;have d:=bDz hl k0 hk i0 hi;unfold tl at h1 d;rcases jf (rd l i) (rd l k) with a|a|a
 ·have:=h1.2 (.inl a);omega
 ·rcases jf i k with b|b|b
  ·have:=h1.2 (.inr ⟨a,b⟩);omega
  ·exact b
  have:=d.2 (.inr ⟨a.symm,b⟩);omega
 have:=d.2 (.inl a);omega
def zat (a:AH):Int:=if (0:Int)∈a then(a.idxOf 0:Int)+1 else 0
def ofT (s a:AH):AH:=(a.filter λx=>decide (x≠0)).map λx=>rd s (x-1)
def ofL (s a:AH):AH:=(if 0<s.length then [rd s (s.length-1)] else [])++ofT s a
theorem aEx (k:a.Nodup) (i0:0<=i) (hi:i<a.length):zat (a.take (i+1).toNat)=if rd a i=0 then i+1 else zat (a.take i.toNat):=by
 rw[dP i0 hi];split
 ·rename_i e
  have b:(0:Int)∉a.take i.toNat:=by
   intro h;obtain⟨q,l,d⟩:=ib.1 h;rw[ax] at l;have:=mJ k (i:=(q:Int)) (j:=i) G G i0 hi (by rw[uf] at d;rw[e,fH G G];simp only[bu];exact d);omega
  unfold zat;rw[cz (by simp[e]),Ih,bq b,e];simp only[ax,List.idxOf_cons_self];omega
 rename_i e;have b:(0:Int)∉[rd a i]:=by simp;exact λh=>e h.symm
 unfold zat;by_cases h:(0:Int)∈a.take i.toNat
 ·rw[cz h,cz (Gl _ h),Ih,cz h]
 rw[bq h,bq (by rw[ek];exact λg=>g.elim h b)]
theorem aHj {s:AH} (i0:0<=i) (hi:i<a.length):ofT s (a.take (i+1).toNat)=ofT s (a.take i.toNat)++if rd a i=0 then [] else [rd s (rd a i-1)]:=by
 unfold ofT;rw[dP i0 hi,uq,jc];congr 1;by_cases h:rd a i=0
 ·rw[cz h,mf (by simpa using h)];rfl
 rw[bq h,qd (by simpa using h)];rfl
end
variable {s a:AH}
section
variable {u v:AH} {j m r q:Int}
theorem mY (a:0<=j) (h:j<u.length):rd (u++v) j=rd u j:=by
 unfold rd;rw[af,af,jh G]
theorem jP (h:(u.length:Int)<=j):rd (u++v) j=rd v (j-u.length):=by
 unfold rd;rw[af,af,ji G,show j.toNat-u.length=(j-u.length).toNat by omega]
theorem AY {f:Int->Int} (a:0<=j) (h:j<u.length):rd (u.map f) j=f (rd u j):=by
 rw[fH a (by rw[bn];exact h),yt,<-fH a h]
theorem uQ (hp:a.Perm (iota s.length)):(ofL s a).length=s.length/\(0<s.length->1<=zat a/\zat a<=s.length/\rd a (zat a-1)=0)/\(s.length=0->zat a=0)/\
  ∀j:Int,0<=j->j<s.length->rd (ofL s a) j=if j=0 then rd s (s.length-1) else if j<zat a then rd s (rd a (j-1)-1) else rd s (rd a j-1):=by
 have hl:a.length=s.length:=by rw[hp.length_eq,bI]
 rcases fe s.length with r|hn
 ·have e:a=[]:=di G;subst e;refine⟨by unfold ofL ofT;rw[bq G];simp;omega,λh=>G,λ_=>rfl,λj q h=>G⟩
 have b:a.Nodup:=hp.symm.nodup (fV _);have gs:(0:Int)∈a:=hp.symm.subset (aY.2 ⟨ni 0,G⟩);obtain⟨a1,a2,e⟩:=List.append_of_mem gs
 have g:(0:Int)∉a1:=λh=>by
  rw[e] at b;exact(yc.1 b).2.2 0 h 0 cD rfl
 have l:(0:Int)∉a2:=λh=>by
  rw[e] at b;exact(xe.1 (yc.1 b).2.1).1 h
 have m:zat a=(a1.length:Int)+1:=by
  unfold zat;rw[cz gs,e,Ih,bq g];simp
 have p:ofT s a=(a1.map λx=>rd s (x-1))++a2.map λx=>rd s (x-1):=by
  unfold ofT;have f1:a1.filter (λx=>decide (x≠0))=a1:=Da.2 λx d=>nz λh=>g (by rw[<-h];exact d);have f2:a2.filter (λx=>decide (x≠0))=a2:=Da.2 λx d=>nz λh=>l (by rw[<-h];exact d);rw[e,uq,mf cD,f1,f2,jc]
 have hlen:a1.length+a2.length+1=s.length:=by rw[<-hl,e];simp;omega
 have i:ofL s a=rd s (s.length-1)::((a1.map λx=>rd s (x-1))++a2.map λx=>rd s (x-1)):=by
  unfold ofL;rw[cz hn,p];rfl
 refine⟨by rw[i];simp;omega,λ_=>⟨G,G,?_⟩,λh=>G,λj j0 u=> ?_⟩
 ·rw [m,e,jP G,show(a1.length:Int)+1-1-a1.length=0 by omega];rfl
 rw [i];by_cases k:j=0
 ·subst k;rw[cz rfl];rfl
 rw [bq k]
 have o:rd (rd s (s.length-1)::((a1.map λx=>rd s (x-1))++a2.map λx=>rd s (x-1))) j=rd ((a1.map λx=>rd s (x-1))++a2.map λx=>rd s (x-1)) (j-1):=by
  unfold rd;rw[show j.toNat=(j-1).toNat+1 by omega];rfl
 rw[o];split
 ·rename_i h;rw[mY G (by rw[bn];omega),AY G G,e,mY G G]
 rename_i h;rw[jP (by rw[bn];omega),AY (by rw[bn];omega) (by rw[bn];omega),e,jP G];rw[bn]
 have:rd ((0:Int)::a2) (j-a1.length)=rd a2 (j-1-a1.length):=by
  unfold rd;rw[show(j-a1.length).toNat=(j-1-a1.length).toNat+1 by omega];rfl
 rw[this]
def ixr (m r:Int):Int:=if m<r then r-1 else r
def dQ (l:AH) (m:Int):Nat->Int
 |0=>0
 |t+1=>lfC l (ixr m (dQ l m t))+1
def iW (l:AH) (m:Int):AH:=(List.range l.length).map λi:Nat=>rd l (ixr m (dQ l m (l.length-1-i)))
def XJ (l:AH) (m:Int):Prop:=min (l.length:Int) 1<=m/\m<=l.length
def cBd (l:AH) (m:Int):Prop:= ∀t:Nat,t<l.length->dQ l m t≠m
def XK (l:AH) (m:Int):Prop:=XJ l m/\cBd l m/\dQ l m l.length=m
theorem oZ (l:AH) (m:Int):(iW l m).length=l.length:=by simp[iW]
theorem TY {i:Int} (i0:0<=i) (hi:i<l.length):rd (iW l m) i=rd l (ixr m (dQ l m (l.length-1-i).toNat)):=by
 unfold iW;rw[jU i0 hi,show l.length-1-i.toNat=((l.length:Int)-1-i).toNat by omega]
theorem uT {n:Nat} (b:0<=r) (h1:r<=n) (a:r≠m) (e:0<=m) (d:m<=n) (hn:0<n):0<=ixr m r/\ixr m r<n:=by
 unfold ixr;split<;>omega
theorem bEn (b:r≠m) (a:q≠m):ixr m r<ixr m q↔r<q:=by
 unfold ixr;split<;>split<;>omega
theorem aDl (b:r≠m) (a:q≠m) (h:ixr m r=ixr m q):r=q:=by
 unfold ixr at h;split at h<;>split at h<;>omega
theorem xY (hl:Byt l) {m:Int} (a:XJ l m): ∀t:Nat,(∀u:Nat,u<t->dQ l m u≠m)->t<=l.length->0<=dQ l m t/\dQ l m t<=l.length
 |0,_,_=>by unfold dQ;omega
 |t+1,h,ht=>by
  have b:=xY hl a t (λu hu=>h u G) G;have hb:=uT (n:=l.length) b.1 b.2 (h t G) (by have:=a.1;omega) a.2 G;have:=OG hl hb.1 hb.2;rw[dQ];omega
theorem OC {x:Int} (x0:0<=x) (a:x<s.length) {y:Int} (b:(s.length:Int)<=y): ¬dA s x y:=iE _ _ (EG x0 a b)
theorem aHh {k:Int} (j0:0<=j) (a:j<s.length) (k0:0<=k) (hk:k<s.length):dA s j k↔rd s j<rd s k\/rd s j=rd s k/\dA s (j+1) (k+1):=by
 rw[qD j0 a k0 hk,jK]
end
end
end Go.Pure
namespace Go.Pure
open Go Go.Eng
section
variable {l s a:AH}
section
variable {k j:Int}
def cT (s:AH) (x y:Int):Prop:=cmpL (s.drop x.toNat) (s.drop y.toNat)<0
instance (s:AH):DecidableRel (cT s):=λx y=>by unfold cT;infer_instance
theorem WX {x y:Int}:cT s x y↔dA s x y:=jK
theorem bZj (x y:Int) (h:cT s x y): ¬cT s y x:=λa=>iE _ _ (WX.1 h) (WX.1 a)
def FB (s:AH) (k:Int):Int:=((iota s.length).countP λj=>decide (cT s j k):Nat)
def nH (s:AH) (k:Int):Int:=if k<s.length then FB s k+1 else 0
theorem bCn (hp:a.Perm (iota s.length)) (b:a.Pairwise (dA s)) {q:Int} (e:0<=q) (d:q<s.length):FB s (rd a q)=q:=aCx bZj hp (b.imp λh=>WX.2 h) e d
theorem UG (hp:a.Perm (iota s.length)) (g:a.Pairwise (dA s)) (k0:0<=k) (hk:k<s.length):(0<=FB s k/\FB s k<s.length)/\rd a (FB s k)=k:=by
 obtain⟨u,hu,e⟩:=ib.1 (hp.symm.subset (aY.2 ⟨k0,hk⟩));have hlen:=hp.length_eq;rw[bI] at hlen;have b:rd a (u:Int)=k:=by rw[jY hu];exact e
 have d:=bCn hp g (q:=(u:Int)) G G;rw[b] at d;rw[d];exact⟨G,b⟩
theorem aMe (j0:0<=j) (i:j<=s.length) (k0:0<=k) (hk:k<=s.length):nH s j<nH s k↔dA s j k:=by
 obtain⟨a,hp,d⟩:=sW s;have hlen:=hp.length_eq;rw[bI] at hlen;unfold nH;rcases bz j s.length with a1|a1
 ·rw [cz a1];have g:=UG hp d j0 a1;rcases bz k s.length with b|b
  ·rw [cz b];have e:=UG hp d k0 b;constructor
   ·intro h;have:=gB d g.1.1 (by omega:FB s j<FB s k) G;rwa[g.2,e.2] at this
   intro h;rcases jf (FB s j) (FB s k) with c|c|c
   ·omega
   ·rw [c,e.2] at g;rw[<-g.2] at h;exact absurd h (iE _ _ h)
   have:=gB d e.1.1 c G;rw[g.2,e.2] at this;exact absurd h (iE _ _ this)
  rw [bq G];exact⟨λh=>G,λh=>absurd h (OC j0 a1 b)⟩
 rw [bq G];rcases bz k s.length with b|b
 ·rw [cz b];have e:=UG hp d k0 b;exact⟨λ_=>EG k0 b a1,λ_=>G⟩
 rw [bq G];obtain rfl:j=k:=G
 exact⟨λh=>G,λh=>absurd h (iE _ _ h)⟩
theorem MG (k0:0<=k):0<=nH s k/\nH s k<=s.length/\(k<s.length->1<=nH s k):=by
 obtain⟨a,hp,b⟩:=sW s;unfold nH;split
 ·rename_i h;have:=UG hp b k0 h;omega
 omega
theorem DW (j0:0<=j) (d:j<=s.length) (k0:0<=k) (hk:k<=s.length) (e:nH s j=nH s k):j=k:=by
 have h1:=aMe j0 d k0 hk;have b:=aMe k0 hk j0 d;rcases bz j s.length with a1|a1
 ·rcases bz k s.length with a|a
  ·by_cases h:j=k
   ·exact h
   rcases BC ⟨j0,a1⟩ ⟨k0,a⟩ h with c|c
   ·have:=h1.2 c;omega
   have:=b.2 c;omega
  have:=b.2 (EG j0 a1 a);omega
 rcases bz k s.length with a|a
 ·have:=h1.2 (EG k0 a a1);omega
 omega
theorem pK (hp:a.Perm (iota s.length)) (d:a.Pairwise (dA s)):zat a=nH s 0:=by
 obtain⟨_,h1,b,_⟩:=uQ hp;unfold nH;rcases fe s.length with e|hn
 ·rw[bq G,b e]
 have h:=h1 hn;rw[cz G];have:=bCn hp d (q:=zat a-1) G G;rw[h.2.2] at this;omega
theorem letter (hp:a.Perm (iota s.length)) (h:a.Pairwise (dA s)) (k0:0<=k) (hk:k<s.length):(0<=ixr (zat a) (nH s (k+1))/\ixr (zat a) (nH s (k+1))<s.length)/\rd (ofL s a) (ixr (zat a) (nH s (k+1)))=rd s k:=by
 obtain⟨_,h1,_,l⟩:=uQ hp;have m:=h1 G;have hb:=MG (s:=s) (k:=k+1) G
 have i:nH s (k+1)≠zat a:=by
  rw[pK hp h];intro e;have:=DW (s:=s) G G (ni 0) G e;omega
 have b:=uT hb.1 hb.2.1 i G m.2.1 G;refine⟨b,?_⟩;rw[l _ b.1 b.2];rcases bz (k+1) s.length with c|c
 ·have d6:=UG hp h (k:=k+1) G c;have g:nH s (k+1)=FB s (k+1)+1:=by unfold nH;rw[cz c]
  unfold ixr at b ⊢;by_cases d:zat a<nH s (k+1)
  ·rw [cz d];rw[bq G,bq G,show nH s (k+1)-1=FB s (k+1) by omega,d6.2];congr 1;omega
  rw [bq d];rw[bq G,cz G,show nH s (k+1)-1=FB s (k+1) by omega,d6.2];congr 1;omega
 have g:nH s (k+1)=0:=by unfold nH;rw[bq G]
 have j:ixr (zat a) 0=0:=by unfold ixr;rw[bq G]
 rw[g,j,cz rfl];congr 1;omega
theorem EH (hs:Byt s) (hp:a.Perm (iota s.length)):Byt (ofL s a):=by
 intro x o;obtain⟨p,_,_,m⟩:=uQ hp;obtain⟨u,hu,rfl⟩:=ib.1 o;have k:=hp.length_eq;rw[bI] at k;have e:=m u G G;rw[jY hu] at e;have g: ∀j:Int,0<=j->j<s.length->0<=rd s j/\rd s j<256:=λj j0 i=>hs _ (bM j0 i);have d: ∀j:Int,0<=j->j<s.length->0<=rd a j/\rd a j<s.length:=λj j0 i=>aY.1 (hp.subset (bM j0 G));have l: ∀j:Int,j<0->rd s j=rd s 0:=λj h=>by unfold rd;rw[show j.toNat=(0:Int).toNat by omega]
 have b: ∀j:Int,j<s.length->0<=rd s j/\rd s j<256:=λj h=>by
  rcases bz j 0 with c|c
  ·rw[l j c];exact g 0 (ni 0) G
  exact g j c h
 rw[e];split
 ·exact b _ G
 split
 ·have:=d ((u:Int)-1) G G;exact b _ G
 have:=d u G G;exact b _ G
theorem bMb (hs:Byt s) (hp:a.Perm (iota s.length)) (g:a.Pairwise (dA s)) (k0:0<=k) (hk:k<s.length):lfC (ofL s a) (ixr (zat a) (nH s (k+1)))=FB s k:=by
 obtain⟨l,h1,_,_⟩:=uQ hp
 have d: ∀j:Int,0<=j->j<s.length->nH s (j+1)≠zat a:=λj j0 h e=>by
  rw[pK hp g] at e;have:=DW (s:=s) G G (ni 0) G e;omega
 have hb:=xZ (n:=s.length) (f:=λk=>ixr (zat a) (nH s (k+1))) (λj j0 h=>(letter hp g j0 h).1) λx y x0 m o p e=>by
  have i:=aDl (d x x0 m) (d y o p) e;have:=DW (s:=s) G G G G i;omega
 unfold lfC FB;rw[l,<-hb.countP_eq,List.countP_map];congr 1;refine Ei λj b=> ?_;have b:=aY.1 b;simp only[Function.comp_apply,iy];rw[WX,aHh b.1 b.2 k0 hk,<-aMe G G G G];unfold tl;rw[(letter hp g b.1 b.2).2,(letter hp g k0 hk).2,bEn (d j b.1 b.2) (d k k0 hk)]
theorem LJ (hs:Byt s) (hp:a.Perm (iota s.length)) (b:a.Pairwise (dA s)): ∀t:Nat,t<=s.length->dQ (ofL s a) (zat a) t=nH s (s.length-t)
 |0,_=>by unfold dQ nH;rw[bq G]
 |t+1,ht=>by
  rw[dQ,LJ hs hp b t G];have:=bMb hs hp b (k:=(s.length:Int)-((t+1:Nat):Int)) G G;rw[show(s.length:Int)-((t+1:Nat):Int)+1=s.length-(t:Int) by omega] at this;rw[this];unfold nH;rw[cz G]
theorem aFj (hs:Byt s) (hp:a.Perm (iota s.length)) (d:a.Pairwise (dA s)):XK (ofL s a) (zat a)/\iW (ofL s a) (zat a)=s:=by
 obtain⟨b,h1,h,_⟩:=uQ hp;refine⟨⟨?_,λt j=> ?_,?_⟩,?_⟩
 ·unfold XJ;rw[b];rcases fe s.length with k|hn
  ·have:=h k;omega
  have:=h1 hn;omega
 ·rw [b] at j;rw[LJ hs hp d t G,pK hp d];intro e;have:=DW (s:=s) G G (ni 0) G e;omega
 ·rw [b,LJ hs hp d _ (dn _),pK hp d];congr 1;omega
 refine bP (by rw[oZ,b]) λi i0 g=> ?_;rw[oZ,b] at g;rw[TY i0 (by rw[b];exact g),b,LJ hs hp d _ G];have:=(letter hp d i0 g).2;rwa[show(s.length:Int)-(((s.length:Int)-1-i).toNat:Int)=i+1 by omega]
theorem CQ {m:Int} (hl:Byt l) (h:XK l m) (hp:a.Perm (iota (iW l m).length)) (O:a.Pairwise (dA (iW l m))):ofL (iW l m) a=l/\zat a=m:=by
 obtain⟨F,R,v⟩:=h;have A:=oZ l m;have m0:0<=m:=by have:=F.1;omega
 have Q: ∀k:Int,0<=k->k<=l.length->0<=dQ l m (l.length-k).toNat/\dQ l m (l.length-k).toNat<=l.length:=λk k0 hk=>xY hl F _ (λu hu=>R u G) G;have r: ∀k:Int,0<=k->k<l.length->dQ l m (l.length-(k+1)).toNat≠m:=λk k0 hk=>R _ G
 have p: ∀k:Int,0<=k->k<l.length->0<=ixr m (dQ l m (l.length-(k+1)).toNat)/\ixr m (dQ l m (l.length-(k+1)).toNat)<l.length:=λk k0 hk=>by
  have:=Q (k+1) G G;exact uT this.1 this.2 (r k k0 hk) m0 F.2 G
 have hR: ∀k:Int,0<=k->k<l.length->dQ l m (l.length-k).toNat=lfC l (ixr m (dQ l m (l.length-(k+1)).toNat))+1:=λk k0 hk=>by
  rw[show((l.length:Int)-k).toNat=(l.length-(k+1)).toNat+1 by omega,dQ]
 have q: ∀k:Int,0<=k->k<l.length->1<=dQ l m (l.length-k).toNat:=λk k0 hk=>by
  have h1:=p k k0 hk;have:=OG hl h1.1 h1.2;rw[hR k k0 hk];omega
 have o: ∀k:Int,(l.length:Int)<=k->dQ l m (l.length-k).toNat=0:=λk hk=>by rw[show((l.length:Int)-k).toNat=0 by omega];rfl
 have hs: ∀k:Int,0<=k->k<l.length->rd (iW l m) k=rd l (ixr m (dQ l m (l.length-(k+1)).toNat)):=λk k0 hk=>by
  rw[TY k0 hk,show((l.length:Int)-1-k).toNat=(l.length-(k+1)).toNat by omega]
 have ord: ∀(f:Nat) (j k:Int),l.length-j<=f->0<=j->j<=l.length->0<=k->k<=l.length->(dQ l m (l.length-j).toNat<dQ l m (l.length-k).toNat↔dA (iW l m) j k):=by
  intro f
  induction f with
  | zero=>
   intro j k T j0 g k0 hk;obtain rfl:j=l.length:=G
   rw[o _ (ni _)];rcases bz k l.length with b|b
   ·have:=q k k0 b;exact⟨λ_=>EG k0 G G,λ_=>G⟩
   rw [o k b];obtain rfl:k=l.length:=G
   exact⟨λh=>G,λh=>absurd h (iE _ _ h)⟩
  | succ f ih=>
   intro j k T j0 g k0 hk;rcases bz j l.length with c|c
   ·rcases bz k l.length with b|b
    ·rw [hR j j0 c,hR k k0 b,aHh j0 G k0 G,hs j j0 c,hs k k0 b,<-ih (j+1) (k+1) G G G G G,<-bEn (r j j0 c) (r k k0 b)];have:=bDz hl (p j j0 c).1 (p j j0 c).2 (p k k0 b).1 (p k k0 b).2;unfold tl at this;omega
    rw [o k b];have:=q j j0 c;exact⟨λh=>G,λh=>absurd h (OC j0 G G)⟩
   exact ih j k G j0 g k0 hk
 have B:=λj k=>ord l.length j k
 have K: ∀j k:Int,0<=j->j<l.length->0<=k->k<l.length->dQ l m (l.length-j).toNat=dQ l m (l.length-k).toNat->j=k:=λj k j0 g k0 hk e=>by
  by_cases h:j=k
  ·exact h
  rcases BC (s:=iW l m) ⟨j0,G⟩ ⟨k0,G⟩ h with c|c
  ·have:=(B j k G j0 G k0 G).2 c;omega
  have:=(B k j G k0 G j0 G).2 c;omega
 have M: ∀k:Int,0<=k->k<=l.length->nH (iW l m) k=dQ l m (l.length-k).toNat:=λk k0 hk=>by
  unfold nH;rw[A];split
  ·rename_i Y;have:=bIa (n:=l.length) (f:=λk=>dQ l m (l.length-k).toNat-1) (λx x0 w=>by have h1:=Q x x0 G;have S:=q x x0 w;show 0<=_-1/\_-1<_;omega) (λx y x0 w H J e=>K x y x0 w H J (by have:dQ l m (l.length-x).toNat-1=dQ l m (l.length-y).toNat-1:=e;omega)) k0 Y
   have e:FB (iW l m) k=dQ l m (l.length-k).toNat-1:=by
    unfold FB;rw[A,<-this];congr 1;refine Ei λj g=> ?_;have g:=aY.1 g;simp only[iy];rw[WX,<-B j k G g.1 G k0 G];omega
   omega
  exact(o k G).symm
 obtain⟨N,h1,S,_⟩:=uQ hp
 have L:zat a=m:=by
  rw[pK hp O,M 0 (ni 0) G,<-v];congr 1
 refine⟨bP (by rw[N,A]) λi i0 P=> ?_,L⟩;rw[N,A] at P
 have hb:=xZ (n:=l.length) (f:=λk=>ixr m (dQ l m (l.length-(k+1)).toNat)) (λj j0 X=>p j j0 X) λx y x0 w H J e=>by
  have D:=aDl (r x x0 w) (r y H J) e;rcases bz (x+1) l.length with c|c
  ·rcases bz (y+1) l.length with d|d
   ·have:=K (x+1) (y+1) G c G d D;omega
   rw [o _ d] at D;have:=q (x+1) G c;omega
  rcases bz (y+1) l.length with d|d
  ·rw [o _ c] at D;have:=q (y+1) G d;omega
  omega
 obtain⟨k,hk,e⟩:=gq.1 (hb.symm.subset (aY.2 ⟨i0,P⟩));have hk:=aY.1 hk;have C:=(letter hp O (k:=k) hk.1 G).2;rw[L,M (k+1) G G] at C;have e':ixr m (dQ l m (l.length-(k+1)).toNat)=i:=e;rw[e',hs k hk.1 hk.2,e'] at C;exact C
theorem bDh (hp:a.Perm (iota s.length)) (d:a.Pairwise (dA s)):((iota s.length).map λk=>ixr (zat a) (nH s (k+1))).Perm (iota s.length):=by
 have b: ∀j:Int,0<=j->j<s.length->nH s (j+1)≠zat a:=λj j0 g e=>by
  rw[pK hp d] at e;have:=DW (s:=s) G G (ni 0) G e;omega
 exact xZ (n:=s.length) (f:=λk=>ixr (zat a) (nH s (k+1))) (λj j0 g=>(letter hp d j0 g).1) λx y x0 i l m e=>by
  have h:=aDl (b x x0 i) (b y l m) e;have:=DW (s:=s) G G G G h;omega
theorem UT (hp:a.Perm (iota s.length)) (b:a.Pairwise (dA s)):(ofL s a).Perm s:=by
 have g:=(uQ hp).1;have h1:=(bDh hp b).map (rd (ofL s a));rw[qp] at h1
 have d:(iota s.length).map (rd (ofL s a) ∘ λk=>ixr (zat a) (nH s (k+1)))=s:=by
  conv=>rhs;rw[<-oU s]
  refine vg λk hk=> ?_;have hk:=aY.1 hk;exact(letter hp b hk.1 hk.2).2
 have e:(iota s.length).map (rd (ofL s a))=ofL s a:=by
  have:=oU (ofL s a);rwa[g] at this
 rw[d,e] at h1;exact h1.symm
end
end
end Go.Pure
namespace Go.Pure
open Go Go.Eng
section
section
variable {n r m j:Nat} {x b i k:Int} {s:AH} {U V:Nat->Int}
theorem aHc {l m:AH} (hl:l.Nodup) (a:m.Nodup) (e: ∀x,x∈l↔x∈m):l.Perm m:=
 uP hl (λx h=>(e x).1 h) (rC a λx h=>(e x).2 h)
def XX (r k:Nat):AH:=(List.range k).map λt:Nat=>(r+3*t:Int)
theorem aGu (r k:Nat):(XX r k).length=k:=by simp[XX]
theorem aVk (r k:Nat):XX r (k+1)=XX r k++[(r+3*k:Int)]:=by
 unfold XX;rw[Ae,jc];rfl
def plc (n r:Nat):AH:=XX r ((n+2-r)/3)
theorem lX (n r:Nat):(plc n r).length=(n+2-r)/3:=aGu _ _
theorem aCv {t:Int} (a:0<=t) (h:t<(plc n r).length):rd (plc n r) t=r+3*t:=by
 rw[lX] at h;unfold plc XX;rw[jU a G];omega
theorem mP (e:r<=2):x∈plc n r↔0<=x/\x<n/\x%3=r:=by
 unfold plc XX;rw[gq];constructor
 ·rintro ⟨t,a,rfl⟩;have:=jr.1 a;omega
 rintro ⟨b,h1,d⟩;exact⟨((x-r)/3).toNat,jr.2 G,G⟩
theorem ED (n r:Nat):(plc n r).Nodup:=by
 unfold plc XX;exact iv.2 (xm.imp λ{x y} h a=>h G)
def smp (n:Nat):AH:=plc n 1++plc n 2
theorem oD:x∈smp n↔0<=x/\x<n/\x%3≠0:=by
 unfold smp;rw[ek,mP G,mP G];omega
theorem JE (n:Nat):(smp n).length=(n+1)/3+n/3:=by
 unfold smp;rw[aa,lX,lX];omega
theorem tK (n:Nat):(smp n).Nodup:=by
 unfold smp;refine yc.2 ⟨ED _ _,ED _ _,λa d b hb e=> ?_⟩;rw[mP G] at d hb;omega
theorem bJx (n:Nat):(smp n++plc n 0).Perm (iota n):=by
 refine aHc (yc.2 ⟨tK _,ED _ _,λa d b hb e=> ?_⟩) (fV n) λx=> ?_
 ·rw [oD] at d;rw[mP G] at hb;omega
 rw [ek,oD,mP G,aY];omega
def kC (s:AH) (i:Int):Int:=if (s.length:Int)<=i then 0 else rd s i+1
def jC (s:AH) (b:Int):AH:=(List.range s.length).map λi:Nat=>kC s ((i:Int)+b)
theorem MV (s:AH) (b:Int):(jC s b).length=s.length:=by simp[jC]
theorem JN (a:0<=i) (h:i<s.length):rd (jC s b) i=kC s (i+b):=by
 unfold jC;rw[jU a G];congr 1;omega
theorem bPa: ∀ {s:AH},Nn s->lo s=0
 |[],_=>rfl
 |a::s,h=>by
  have:=bPa (s:=s) λx b=>h x (fw _ b);have d:=h a cD;unfold lo at this ⊢;rw[List.foldr_cons,this];omega
theorem zA (hs:Nn s) (i d:Nat):eu s i d=kC s ((i+d:Nat):Int):=by
 unfold eu kC;rw[bPa hs];by_cases h:i+d<s.length
 ·rw [cz h,bq G];unfold rd lt;rw[bu];omega
 rw[bq h,cz G]
theorem aRs {s:AH} (hs: ∀x∈s,0<=x/\x<k) (hk:0<=k) (a:0<=i):0<=kC s i/\kC s i<k+1:=by
 unfold kC;split
 ·omega
 have:=hs _ (bM (L:=s) a G);omega
theorem aIa {s:AH} {b:Int} (hs: ∀x∈s,0<=x/\x<k) (hk:0<=k) (hb:0<=b): ∀x∈jC s b,0<=x/\x<k+1:=by
 intro x a;obtain⟨i,_,rfl⟩:=gq.1 a;exact aRs hs hk G
theorem bFq (s:AH) (i d:Nat):0<=eu s i d:=by
 rcases gm (i+d) s.length with h|h
 ·exact Be (wY h)
 rw[kU h];exact ni 0
def LtO (U V:Nat->Int):Prop:= ∃k,(∀i,i<k->U i=V i)/\U k<V k
theorem GQ:LtH m U V->LtO U V:=λ⟨k,_,h1,a⟩=>⟨k,h1,a⟩
theorem bLx {x y:Nat}:LtO (eu s x) (eu s y)↔LtH s.length (eu s x) (eu s y):=by
 refine⟨λ⟨k,h1,a⟩=>⟨k,?_,h1,a⟩,GQ⟩;have:=bFq s x k;rcases gm (y+k) s.length with h|h
 ·omega
 rw[kU h] at a;omega
theorem qY {y:Int}:dA s x y↔LtO (eu s x.toNat) (eu s y.toNat):=bLx.symm
theorem aVs (h:LtO U V): ¬LtO V U:=by
 rintro⟨d,b,e⟩;obtain⟨k,h1,g⟩:=h;rcases yg k d with a|a|a
 ·have:=b k a;omega
 ·subst a;omega
 have:=h1 d a;omega
theorem aVr (e:EqH m U V):LtO (λd=>U (m+d)) (λd=>V (m+d))↔LtO U V:=by
 constructor
 ·rintro ⟨k,h1,b⟩;refine⟨m+k,λi hi=> ?_,b⟩;rcases gm i m with a|a
  ·exact e i a
  have:=h1 (i-m) G;simp only[show m+(i-m)=i by omega] at this;exact this
 rintro ⟨k,h1,b⟩
 have hk:m<=k:=by
  rcases gm k m with a|a
  ·have:=e k a;omega
  exact a
 refine⟨k-m,λi hi=>h1 (m+i) G,?_⟩;simp only[show m+(k-m)=k by omega];exact b
theorem aIu (s:AH) (i m:Nat):(λd=>eu s i (m+d))=eu s (i+m):=funext λd=>(BV s i m d).symm
theorem VF {i:Nat} (e:EqH m (eu s i) (eu s j)):LtO (eu s (i+m)) (eu s (j+m))↔LtO (eu s i) (eu s j):=by
 rw[<-aIu,<-aIu];exact aVr e
theorem zB {i:Nat} (hi:i<s.length) (k:j<s.length) (l:i≠j) (e:EqH m (eu s i) (eu s j)):j+m<=s.length:=by
 refine Hq.1 λh=> ?_;have a:=e (s.length-j) G;rw[kU (s:=s) (i:=j) G] at a;have h1:s.length<=i+(s.length-j):=Hq.1 λg=>by have:=wY g;omega
 have b:=e (s.length-i) G;rw[kU (s:=s) (i:=i) G] at b;have:=wY (s:=s) (i:=j) (d:=s.length-i) G;omega
def bRk (s:AH) (k:Int):AH:=dN (dN (dN (smp s.length) (jC s 2) (k+1).toNat) (jC s 1) (k+1).toNat) (jC s 0) (k+1).toNat
end
section
variable {s:AH} {k:Int}
theorem tO {o:AH} {b:Int} (hs: ∀x∈s,0<=x/\x<k) (hk:0<=k) (hb:0<=b) (a: ∀x∈o,0<=x/\x<s.length):(dN o (jC s b) (k+1).toNat).Perm o:=
 qW λi hi=>by
  have:=a i hi;rw[JN this.1 this.2];have:=aRs hs hk (i:=i+b) G;omega
theorem qR {x:Int} (h:x∈smp s.length):0<=x/\x<s.length:=by rw[oD] at h;omega
theorem bOv (hs: ∀x∈s,0<=x/\x<k) (hk:0<=k):(dN (smp s.length) (jC s 2) (k+1).toNat).Perm (smp s.length):=tO hs hk G λ_ h=>qR h
theorem bOu (hs: ∀x∈s,0<=x/\x<k) (hk:0<=k):(dN (dN (smp s.length) (jC s 2) (k+1).toNat) (jC s 1) (k+1).toNat).Perm (smp s.length):=
 (tO hs hk G λ_ h=>qR ((bOv hs hk).subset h)).trans (bOv hs hk)
theorem bOt (hs: ∀x∈s,0<=x/\x<k) (hk:0<=k):(bRk s k).Perm (smp s.length):=
 (tO hs hk G λ_ h=>qR ((bOu hs hk).subset h)).trans (bOu hs hk)
theorem aLk (hs: ∀x∈s,0<=x/\x<k) (hk:0<=k):(bRk s k).Pairwise λx y=> ¬LtH 3 (eu s y.toNat) (eu s x.toNat):=by
 have v:(smp s.length).Pairwise λ_ _=>True:=(tK s.length).imp λ_=>trivial;have w:=jM (keys:=jC s 0) (jM (keys:=jC s 1) (jM (keys:=jC s 2) v (k+1).toNat) (k+1).toNat) (k+1).toNat;refine mh (λ{x y} o B h=> ?_) w;have r:=qR ((bOt hs hk).subset o);have u:=qR ((bOt hs hk).subset B);have nn:Nn s:=λx o=>(hs x o).1
 have e: ∀ {z:Int} (p:0<=z/\z<s.length) (b:Nat),rd (jC s (b:Int)) z=eu s z.toNat b:=λ{z} p b=>by
  rw[JN p.1 p.2,zA nn];congr 1;omega
 have d:rd (jC s 0) x=eu s x.toNat 0:=e r 0;have g:rd (jC s 1) x=eu s x.toNat 1:=e r 1;have i:rd (jC s 2) x=eu s x.toNat 2:=e r 2;have j:rd (jC s 0) y=eu s y.toNat 0:=e u 0;have l:rd (jC s 1) y=eu s y.toNat 1:=e u 1;have m:rd (jC s 2) y=eu s y.toNat 2:=e u 2;rw[d,g,i,j,l,m] at h;rintro⟨q,A,h1,a⟩
 match q,A,h1,a with
 |0,_,h1,a=>omega
 |1,_,h1,a=>have:=h1 0 G;omega
 |2,_,h1,a=>have:=h1 0 G;have:=h1 1 G;omega
end
section
variable {m:Nat} {U V W:Nat->Int}
structure RkI (s o V:AH) (q n:Int):Prop where
 len:V.length=s.length+3
 n0:0<=n
 nq:n<=q
 bd: ∀p,0<=p->p<q->1<=rd V (rd o p)/\rd V (rd o p)<=n
 last:0<q->rd V (rd o (q-1))=n
 lt: ∀p p',0<=p->p<p'->p'<q->(EqH 3 (eu s (rd o p).toNat) (eu s (rd o p').toNat)/\rd V (rd o p)=rd V (rd o p'))\/(LtH 3 (eu s (rd o p).toNat) (eu s (rd o p').toNat)/\rd V (rd o p)<rd V (rd o p'))
 full:n=q-> ∀p,0<=p->p<q->rd V (rd o p)=p+1
 out: ∀j:Int,0<=j->j<s.length+3->(∀p:Int,0<=p->p<q->rd o p≠j)->rd V j=0
theorem EqH.trans' (h:EqH m U V) (g:EqH m V W):EqH m U W:=λi hi=>(h i hi).trans (g i hi)
theorem EqH.ltH (h:EqH m U V) (g:LtH m V W):LtH m U W:=by
 obtain⟨k,hk,a,b⟩:=g;exact⟨k,hk,λi hi=>(h i G).trans (a i hi),by rw[h k hk];exact b⟩
theorem LtH.eqH (h:LtH m U V) (g:EqH m V W):LtH m U W:=by
 obtain⟨k,hk,a,b⟩:=h;exact⟨k,hk,λi hi=>(a i hi).trans (g i G),by rw[<-g k hk];exact b⟩
end
section
variable {s o V:AH} {q n:Int}
section
variable {t:Int} {i:Nat} {sb:AH}
theorem bBh:RkI s o (List.replicate (s.length+3) 0) 0 0:=
 ⟨df,G,G,λp h1 a=>G,λh=>G,λp p' h1 a b=>G,λ_ p h1 a=>G,λj _ _ _=>yO⟩
theorem RkI.step (h:RkI s o V q n) (hp:o.Perm (smp s.length)) (r:0<=q) (x:q<o.length) {m:Int}
  (d:(m=n+1/\(q=0\/LtH 3 (eu s (rd o (q-1)).toNat) (eu s (rd o q).toNat)))\/(m=n/\0<q/\EqH 3 (eu s (rd o (q-1)).toNat) (eu s (rd o q).toNat))):
  RkI s o (upd V (rd o q) m) (q+1) m:=by
 have u: ∀p:Int,0<=p->p<o.length->0<=rd o p/\rd o p<s.length:=λp p0 p1=>qR (hp.subset (bM p0 p1));have i:o.Nodup:=hp.symm.nodup (tK _);have y:=h.len;have k:=u q r x;have same:rd (upd V (rd o q) m) (rd o q)=m:=fZ k.1 G
 have other: ∀p,0<=p->p<q->rd (upd V (rd o q) m) (rd o p)=rd V (rd o p):=λp p0 p1=>by
  have ip:=u p p0 G;exact iD k.1 ip.1 λe=>by have:=mJ i r x p0 G e;omega
 have C:=h.n0;have A:=h.nq;refine⟨by rw[aW];exact y,G,G,λp p0 p1=> ?_,λ_=>by rw[show q+1-1=q by omega];exact same,λp p' p0 l p1=> ?_,λe p p0 p1=> ?_,λj j0 B w=> ?_⟩
 ·rcases bz p q with a|a
  ·rw [other p p0 a];have:=h.bd p p0 a;omega
  rw [show p=q by omega,same];rcases d with⟨a,_⟩|⟨a,b,_⟩
  ·omega
  have:=h.bd (q-1) G G;have:=h.last b;omega
 ·rcases bz p' q with a|a
  ·rw [other p p0 G,other p' G a];exact h.lt p p' p0 l a
  obtain rfl:p'=q:=G
  rw[other p p0 l,same];have hl:=h.last G;have hb:=h.bd p p0 l;rcases bz p (p'-1) with c|c
  ·have h1:=h.lt p (p'-1) p0 c G;rcases d with⟨rfl,z|g⟩|⟨rfl,_,g⟩
   ·omega
   ·refine .inr ⟨?_,G⟩;rcases h1 with⟨e,_⟩|⟨e,_⟩
    ·exact e.ltH g
    exact e.trans g
   rcases h1 with⟨e,v⟩|⟨e,v⟩
   ·exact .inl ⟨e.trans' g,G⟩
   exact .inr ⟨e.eqH g,G⟩
  obtain rfl:p=p'-1:=G
  rcases d with⟨rfl,z|g⟩|⟨rfl,_,g⟩
  ·omega
  ·exact .inr ⟨g,G⟩
  exact .inl ⟨g,hl⟩
 ·rcases d with⟨a,_⟩|⟨a,_,_⟩
  ·rcases bz p q with c|c
   ·rw [other p p0 c];exact h.full G p p0 c
   rw [show p=q by omega,same];omega
  omega
 rw [iD k.1 j0 (w q r G)];exact h.out j j0 B λp p0 p1=>w p p0 G
theorem aNu {l:AH} {x:Int} (h:x∈l): ∃p:Int,0<=p/\p<l.length/\rd l p=x:=by
 obtain⟨i,hi,rfl⟩:=ib.1 h;exact⟨i,G,G,jY hi⟩
structure RkF (s V:AH) (n:Int):Prop where
 len:V.length=s.length+3
 bd: ∀i:Nat,i<s.length->i%3≠0->1<=rd V i/\rd V i<=n
 lt: ∀i j:Nat,i<s.length->i%3≠0->j<s.length->j%3≠0->(rd V i<rd V j↔LtH 3 (eu s i) (eu s j))
 eq: ∀i j:Nat,i<s.length->i%3≠0->j<s.length->j%3≠0->(rd V i=rd V j↔EqH 3 (eu s i) (eu s j))
 out: ∀j:Int,0<=j->j<s.length+3->(j%3=0\/s.length<=j)->rd V j=0
theorem RkI.done (h:RkI s o V o.length n) (hp:o.Perm (smp s.length)):RkF s V n:=by
 have at_: ∀i:Nat,i<s.length->i%3≠0-> ∃p:Int,0<=p/\p<o.length/\rd o p=i:=λi h1 q=>aNu (hp.symm.subset (oD.2 ⟨G,G,G⟩))
 have key: ∀i j:Nat,i<s.length->i%3≠0->j<s.length->j%3≠0->(EqH 3 (eu s i) (eu s j)/\rd V i=rd V j)\/(LtH 3 (eu s i) (eu s j)/\rd V i<rd V j)\/(LtH 3 (eu s j) (eu s i)/\rd V j<rd V i):=by
  intro i j b i2 d k;obtain⟨p,p0,p1,g⟩:=at_ i b i2;obtain⟨r,m,r1,l⟩:=at_ j d k;rcases jf p r with a|a|a
  ·have:=h.lt p r p0 a r1;rw[g,l,bu,bu] at this;exact this.elim .inl λh=> .inr (.inl h)
  ·subst a;have e:(i:Int)=j:=g.symm.trans l;have e:i=j:=G
   subst e;exact .inl ⟨λ_ _=>rfl,rfl⟩
  have:=h.lt r p m a p1;rw[g,l,bu,bu] at this;exact this.elim (λh=> .inl ⟨h.1.symm,h.2.symm⟩) λh=> .inr (.inr h)
 refine⟨h.len,λi b i2=> ?_,λi j b i2 d k=> ?_,λi j b i2 d k=> ?_,λj j0 d u=>h.out j j0 d λp p0 p1 e=> ?_⟩
 ·obtain ⟨p,p0,p1,g⟩:=at_ i b i2;have:=h.bd p p0 p1;rwa[g] at this
 ·rcases key i j b i2 d k with⟨e,v⟩|⟨e,v⟩|⟨e,v⟩
  ·exact⟨λh=>G,λh=>absurd e h.not_eq⟩
  ·exact⟨λ_=>e,λ_=>v⟩
  exact⟨λh=>G,λh=>absurd h e.asymm⟩
 ·rcases key i j b i2 d k with⟨e,v⟩|⟨e,v⟩|⟨e,v⟩
  ·exact⟨λ_=>e,λ_=>v⟩
  ·exact⟨λh=>G,λh=>absurd h e.not_eq⟩
  exact⟨λh=>G,λh=>absurd h.symm e.not_eq⟩
 have:=oD.1 (hp.subset (e▸bM (L:=o) p0 p1));omega
structure RkO (s o V:AH):Prop where
 perm:o.Perm (smp s.length)
 sorted:o.Pairwise (dA s)
 len:V.length=s.length+3
 rk: ∀p:Int,0<=p->p<o.length->rd V (rd o p)=p+1
 out: ∀j:Int,0<=j->j<s.length+3->(j%3=0\/s.length<=j)->rd V j=0
theorem RkI.all (h:RkI s o V o.length n) (hp:o.Perm (smp s.length)) (hn:n=o.length):RkO s o V:=by
 have a:=h.full hn;refine⟨hp,?_,h.len,a,(h.done hp).out⟩;refine dz.2 λi j hi b g=> ?_;have:=h.lt i j G G G;have d:=a i G G;have e:=a j G G;rw[jY hi,jY b] at this;rw[jY hi] at d;rw[jY b] at e;rcases this with⟨_,v⟩|⟨v,_⟩
 ·omega
 exact qY.2 (GQ v)
def blw (s V:AH):AH:=(plc s.length 1).map (rd V)++[0]++(plc s.length 2).map (rd V)
theorem zG (s V:AH):(blw s V).length=(s.length+1)/3+1+s.length/3:=by
 unfold blw;rw[aa,aa,bn,bn,lX,lX,dw];omega
def xX (s:AH) (i:Nat):Nat:=if i%3=1 then i/3 else(s.length+1)/3+1+i/3
theorem bNq (a:0<=t) (h:t<(plc s.length 1).length):rd (blw s V) t=rd V (1+3*t):=by
 unfold blw;rw[mY a (by rw[aa,bn];omega),mY a (by rw[bn];exact h),AY a h,aCv a h];rfl
theorem bNp:rd (blw s V) (plc s.length 1).length=0:=by
 unfold blw;rw[mY G (by rw[aa,bn,dw];omega),jP (by rw[bn];omega),bn,Jm];rfl
theorem bNo (a:0<=t) (h:t<(plc s.length 2).length):rd (blw s V) ((plc s.length 1).length+1+t)=rd V (2+3*t):=by
 unfold blw;have e:(((plc s.length 1).map (rd V)++[0]).length:Int)=(plc s.length 1).length+1:=by rw[aa,bn,dw];rfl
 rw[jP (by rw[e];omega),e,show((plc s.length 1).length+1+t:Int)-((plc s.length 1).length+1)=t by omega,AY a h,aCv a h];rfl
theorem RkF.nn (h:RkF s V n): ∀i:Nat,i<s.length->i%3≠0->0<=rd V i:=λi a b=>by have:=h.bd i a b;omega
theorem bHu (h:RkF s V n) (hn:0<=n): ∀x∈blw s V,0<=x/\x<n+1:=by
 intro x a;unfold blw at a
 have g: ∀r:Nat,r=1\/r=2->x∈(plc s.length r).map (rd V)->0<=x/\x<n+1:=λr b a=>by
  obtain⟨i,hi,rfl⟩:=gq.1 a;rw[mP G] at hi;have:=h.bd i.toNat G G;rw[show((i.toNat:Nat):Int)=i by omega] at this;omega
 rcases ek.1 a with a|a
 ·rcases ek.1 a with a|a
  ·exact g 1 (.inl rfl) a
  rw[gz.1 a];omega
 exact g 2 (.inr rfl) a
theorem bHt (h:RkF s V n) (hn:0<=n):Nn (blw s V):=λx a=>(bHu h hn x a).1
theorem NK (h:RkF s V n) (hn:0<=n) (hi:i<s.length) (a:i%3≠0):eu (blw s V) (xX s i) 0=rd V i+1:=by
 have l1:=lX s.length 1;have l2:=lX s.length 2;rw[zA (bHt h hn)];unfold kC;rw[zG];unfold xX;by_cases c:i%3=1
 ·rw[cz c,bq G,qw,bNq G (by rw[l1];omega),show(1+3*((i/3:Nat):Int))=i by omega]
 rw[bq c,bq G,qw,show(((s.length+1)/3+1+i/3:Nat):Int)=(plc s.length 1).length+1+(i/3:Nat) by rw[l1];omega,bNo G (by rw[l2];omega),show(2+3*((i/3:Nat):Int))=i by omega]
theorem aTd (h:RkF s V n) (hn:0<=n) (a:s.length%3≠0):eu (blw s V) (xX s s.length) 0<=1:=by
 have l1:=lX s.length 1;rw[zA (bHt h hn)];unfold kC;rw[zG];unfold xX;by_cases c:s.length%3=1
 ·rw [cz c,bq G,qw,show((s.length/3:Nat):Int)=(plc s.length 1).length by rw[l1];omega,bNp];omega
 rw [bq c,cz G];omega
theorem bHr (a:i%3≠0):xX s (i+3)=xX s i+1:=by
 unfold xX;by_cases c:i%3=1
 ·rw[cz c,cz G];omega
 rw[bq c,bq G];omega
theorem bNr (h:RkF s V n) (hn:0<=n): ∀(k i j:Nat),i%3≠0->j%3≠0->i<=s.length->j<=s.length->i≠j->
  (∀d,d<k->eu (blw s V) (xX s i) d=eu (blw s V) (xX s j) d)->eu (blw s V) (xX s i) k<eu (blw s V) (xX s j) k->LtO (eu s i) (eu s j):=by
 intro k
 induction k with
 | zero=>
  intro i j i3 a hi p m _ ci;rcases gm j s.length with g|g
  ·rcases gm i s.length with b|b
   ·rw [NK h hn b i3,NK h hn g a] at ci;exact GQ ((h.lt i j b i3 g a).1 G)
   exact⟨0,λi hi=>G,by rw[kU G];exact wY G⟩
  have e:j=s.length:=G
  rw[e] at ci a;have h1:=aTd h hn a;rw[NK h hn G i3] at ci;have:=h.bd i G i3;omega
 | succ k ih=>
  intro i j i3 a hi p m o ci;have l:=o 0 G;rcases gm j s.length with g|g
  ·rcases gm i s.length with b|b
   ·rw [NK h hn b i3,NK h hn g a] at l;have e:=(h.eq i j b i3 g a).1 G;have r1:=zB b g m e;have r2:=zB g b (Ik m) e.symm
    have sh: ∀ {x d:Nat},x%3≠0->eu (blw s V) (xX s (x+3)) d=eu (blw s V) (xX s x) (d+1):=λ{x d} q=>by
     rw[bHr q,BV,ut]
    have:=ih (i+3) (j+3) G G r2 r1 G (λd r=>by rw[sh i3,sh a];exact o (d+1) G) (by rw[sh i3,sh a];exact ci);exact(VF e).1 this
   exact⟨0,λi hi=>G,by rw[kU G];exact wY G⟩
  exfalso;have e:j=s.length:=G
  rw[e] at l a;have h1:=aTd h hn a;rw[NK h hn G i3] at l;have:=h.bd i G i3;omega
def bk (s:AH) (t:Int):Int:=if t<(plc s.length 1).length then 1+3*t else 2+3*(t-(plc s.length 1).length-1)
theorem aKg (b:0<=t) (h:t<(blw s V).length) (a:t≠(plc s.length 1).length):(0<=bk s t/\bk s t<s.length)/\bk s t%3≠0/\xX s (bk s t).toNat=t.toNat:=by
 have l1:=lX s.length 1;rw[zG] at h;unfold bk;by_cases c:t<(plc s.length 1).length
 ·rw [cz c];refine⟨G,G,?_⟩;unfold xX;rw[cz G];omega
 rw [bq c];refine⟨G,G,?_⟩;unfold xX;rw[bq G];omega
def ofB (s sb:AH):AH:=(sb.filter λt:Int=>decide (t≠(plc s.length 1).length)).map (bk s)
theorem aHk (h:t=(plc s.length 1).length):ofB s (sb++[t])=ofB s sb:=by
 unfold ofB;rw[uq,mf (by simpa using h)];simp
theorem aHl (h:t≠(plc s.length 1).length):ofB s (sb++[t])=ofB s sb++[bk s t]:=by
 unfold ofB;rw[uq,qd (by simpa using h),jc];rfl
theorem bLn (sb:AH):(ofB s sb).length<=sb.length:=by
 unfold ofB;rw[bn];exact yo _ _
end
variable {sb:AH}
section
variable {a i j k:Int} {c:Nat}
theorem JR (hb:sb.Perm (iota (blw s V).length)) {t:Int} (a:t∈sb.filter λt:Int=>decide (t≠(plc s.length 1).length)):(0<=t/\t<(blw s V).length)/\t≠(plc s.length 1).length:=by
 rw[qb] at a;exact⟨aY.1 (hb.subset a.1),by simpa using a.2⟩
theorem bDg (hb:sb.Perm (iota (blw s V).length)):(ofB s sb).Perm (smp s.length):=by
 have i:(sb.filter λt:Int=>decide (t≠(plc s.length 1).length)).Nodup:=(hb.symm.nodup (fV _)).sublist ve;refine aHc ?_ (tK _) λx=>⟨λd=> ?_,λd=> ?_⟩
 ·unfold ofB;refine iv.2 (i.imp_of_mem λ{x y} d k p e=> ?_);obtain⟨⟨x0,g⟩,h⟩:=JR hb d;obtain⟨⟨l,m⟩,o⟩:=JR hb k;have a:=(aKg x0 g h).2.2;have b:=(aKg l m o).2.2;rw[e,b] at a;omega
 ·obtain ⟨t,j,rfl⟩:=gq.1 d;obtain⟨⟨x0,g⟩,h⟩:=JR hb j;have:=aKg x0 g h;exact oD.2 ⟨this.1.1,this.1.2,this.2.1⟩
 obtain ⟨x0,g,q⟩:=oD.1 d;have l1:=lX s.length 1;refine gq.2 ⟨xX s x.toNat,qb.2 ⟨hb.symm.subset (aY.2 ⟨G,?_⟩),?_⟩,?_⟩
 ·rw [zG];unfold xX;split<;>omega
 ·rw [iy,l1];unfold xX;split<;>omega
 unfold bk xX;rw[l1];by_cases c:x.toNat%3=1
 ·rw[cz c,cz G];omega
 rw[bq c,bq G];omega
theorem aNe (h:RkF s V n) (hn:0<=n) (hb:sb.Perm (iota (blw s V).length)) (hs:sb.Pairwise (dA (blw s V))):(ofB s sb).Pairwise (dA s):=by
 unfold ofB;refine iv.2 ((hs.filter _).imp_of_mem λ{x y} j l g=> ?_);obtain⟨⟨x0,m⟩,o⟩:=JR hb j;obtain⟨⟨p,q⟩,r⟩:=JR hb l;obtain⟨a1,a2,a3⟩:=aKg x0 m o;obtain⟨u,v,b⟩:=aKg p q r;rw[qY] at g ⊢;obtain⟨k,h1,a⟩:=g;rw[<-a3,<-b] at a;refine bNr h hn k _ _ G G G G ?_ (λd i=>by rw[a3,b];exact h1 d i) a;intro e;rw[e] at a;omega
structure RkN (s o V:AH) (q:Int):Prop where
 len:V.length=s.length+3
 rk: ∀p,0<=p->p<q->rd V (rd o p)=p+1
 out: ∀j:Int,0<=j->j<s.length+3->(j%3=0\/s.length<=j)->rd V j=0
theorem RkF.zero (h:RkF s V n) (o:AH):RkN s o V 0:=⟨h.len,λp h1 a=>G,h.out⟩
theorem RkN.step (h:RkN s o V q) (hp:o.Perm (smp s.length)) (k:0<=q) (i:q<o.length):RkN s o (upd V (rd o q) (q+1)) (q+1):=by
 have g: ∀p:Int,0<=p->p<o.length->rd o p∈smp s.length:=λp p0 p1=>hp.subset (bM p0 p1);have b:o.Nodup:=hp.symm.nodup (tK _);have d:=oD.1 (g q k i);have hl:=h.len;refine⟨by rw[aW];exact hl,λp p0 p1=> ?_,λj j0 m l=> ?_⟩
 ·rcases bz p q with a|a
  ·have ip:=oD.1 (g p p0 G);rw[iD d.1 ip.1 λe=>by have:=mJ b k i p0 G e;omega];exact h.rk p p0 a
  rw[show p=q by omega,fZ d.1 G]
 rw [iD d.1 j0 G];exact h.out j j0 m l
theorem RkN.done (h:RkN s o V o.length) (hp:o.Perm (smp s.length)) (hs:o.Pairwise (dA s)):RkO s o V:=⟨hp,hs,h.len,h.rk,h.out⟩
def aUg (s:AH) (a:Int):Prop:=0<=a/\(a<s.length/\a%3≠0\/a=s.length)
theorem RkO.at_ (h:RkO s o V) (b:aUg s a) (hl:a<s.length): ∃p:Int,(0<=p/\p<o.length)/\rd o p=a/\rd V a=p+1:=by
 obtain⟨p,p0,p1,e⟩:=aNu (h.perm.symm.subset (oD.2 ⟨b.1,hl,b.2.elim (·.2) λh=>G⟩));exact⟨p,⟨p0,p1⟩,e,by rw[<-e];exact h.rk p p0 p1⟩
theorem RkO.end_ (h:RkO s o V):rd V (s.length:Int)=0:=h.out _ G G (.inr G)
theorem RkO.bd (h:RkO s o V) (b:aUg s a):0<=rd V a/\rd V a<=o.length:=by
 rcases bz a s.length with c|c
 ·obtain ⟨p,hp,_,e⟩:=h.at_ b c;omega
 have e:a=s.length:=b.2.elim (λh=>G) id;rw[e,h.end_];omega
theorem RkO.cmp (h:RkO s o V) {b:Int} (q:aUg s a) (hb:aUg s b) (v:a≠b):rd V a<rd V b↔LtO (eu s a.toNat) (eu s b.toNat):=by
 rcases bz a s.length with m|m
 ·obtain ⟨p,hp,g,u⟩:=h.at_ q m;rcases bz b s.length with cb|cb
  ·obtain ⟨r,j,d,l⟩:=h.at_ hb cb;rw[u,l];constructor
   ·intro ci;have:=gB h.sorted hp.1 (show p<r by omega) j.2;rw[g,d] at this;exact qY.1 this
   intro ci;rcases jf p r with c|c|c
   ·omega
   ·subst c;exact absurd (g.symm.trans d) v
   have:=gB h.sorted j.1 c hp.2;rw[g,d] at this;exact absurd ci (aVs (qY.1 this))
  have e:b=s.length:=hb.2.elim (λh=>G) id;rw[e,h.end_,u];refine⟨λh=>G,λ⟨k,_,w⟩=> ?_⟩;rw[kU (s:=s) (i:=(s.length:Int).toNat) G] at w;have:=bFq s a.toNat k;omega
 have e:a=s.length:=q.2.elim (λh=>G) id;rw[e,h.end_];have cb:b<s.length:=hb.2.elim (·.1) λh=>G
 obtain⟨r,j,d,l⟩:=h.at_ hb cb;rw[l];refine⟨λ_=>⟨0,λi hi=>G,?_⟩,λ_=>G⟩;rw[kU G];exact wY (by have:=hb.1;omega)
def bhd (s V:AH):AH:=(List.range s.length).map λi:Nat=>rd V ((i:Int)+1)
theorem aTf (s V:AH):(bhd s V).length=s.length:=by simp[bhd]
theorem aMo (a:0<=i) (h:i<s.length):rd (bhd s V) i=rd V (i+1):=by
 unfold bhd;rw[jU a G];congr 1;omega
theorem RkO.all_bd (h:RkO s o V) (j0:0<=j) (b:j<=s.length):0<=rd V j/\rd V j<=s.length:=by
 have d:o.length<=s.length:=by rw[h.perm.length_eq,JE];omega
 by_cases c:j%3=0
 ·rw[h.out j j0 G (.inl c)];omega
 have:=h.bd (a:=j) ⟨j0,G⟩;omega
theorem bIb (h:RkO s o V): ∀x∈bhd s V,0<=x/\x<(s.length:Int)+1:=by
 intro x a;obtain⟨i,hi,rfl⟩:=gq.1 a;have:=jr.1 hi;have:=h.all_bd (j:=(i:Int)+1) G G;omega
def oth (s V:AH) (k:Int):AH:=dN (dN (plc s.length 0) (bhd s V) ((s.length:Int)+1).toNat) (jC s 0) (k+1).toNat
theorem bCv (h:RkO s o V):(dN (plc s.length 0) (bhd s V) ((s.length:Int)+1).toNat).Perm (plc s.length 0):=
 qW λi hi=>by
  rw[mP G] at hi;have:=bIb h _ (bM (L:=bhd s V) hi.1 (by rw[aTf];exact hi.2.1));omega
theorem UM (h:RkO s o V) (hs: ∀x∈s,0<=x/\x<k) (hk:0<=k):(oth s V k).Perm (plc s.length 0):=
 (tO hs hk G λx a=>by have:=(bCv h).subset a;rw[mP G] at this;omega).trans (bCv h)
theorem aMy (h:RkO s o V) (hs: ∀x∈s,0<=x/\x<k) (hk:0<=k):(oth s V k).Pairwise (dA s):=by
 have q:=jM (keys:=jC s 0) (jM (keys:=bhd s V) (ED s.length 0) ((s.length:Int)+1).toNat) (k+1).toNat;refine mh (λ{x y} j r g=> ?_) q;have b:=(UM h hs hk).subset j;have d:=(UM h hs hk).subset r;rw[mP G] at b d;have nn:Nn s:=λx j=>(hs x j).1
 have e: ∀ {z:Int},0<=z->z<s.length->rd (jC s 0) z=eu s z.toNat 0:=λ{z} p h1=>by
  rw[JN p h1,zA nn];congr 1;omega
 rw[e b.1 b.2.1,e d.1 d.2.1,aMo b.1 b.2.1,aMo d.1 d.2.1] at g;have l:aUg s (x+1):=⟨G,G⟩;have sy:aUg s (y+1):=⟨G,G⟩;rw[qY];rcases g with g|⟨g1,g2|⟨g2,g3⟩⟩
 ·exact⟨0,λi hi=>G,g⟩
 ·have:=(h.cmp l sy λe=>by rw[e] at g2;omega).1 g2;refine(VF (m:=1) λi hi=> ?_).1 ?_
  ·rw[show i=0 by omega];exact g1
  rw [show x.toNat+1=(x+1).toNat by omega,show y.toNat+1=(y+1).toNat by omega];exact this
 exfalso;have u:x≠y:=g3;have t:=h.cmp l sy G;have t':=h.cmp sy l G;rcases tri s.length (eu s (x+1).toNat) (eu s (y+1).toNat) with a|a|a
 ·have:=t.2 (GQ a);omega
 ·have a0:EqH s.length (eu s x.toNat) (eu s y.toNat):=λi hi=>by
   cases i with
   |zero=>exact g1
   |succ i=>
    have:=a i G;rw[show(x+1).toNat=x.toNat+1 by omega,show(y+1).toNat=y.toNat+1 by omega,BV,BV,ut] at this;exact this
  have:=aOe G G a0;omega
 have:=t'.2 (GQ a);omega
theorem bEb (nn:Nn s) (i0:0<=i) (j0:0<=j) (e:EqH c (eu s i.toNat) (eu s j.toNat)) (b:kC s (i+c)≠kC s (j+c)):kC s (i+c)<kC s (j+c)↔dA s i j:=by
 have k1:kC s (i+c)=eu s i.toNat c:=by rw[zA nn];congr 1;omega
 have k2:kC s (j+c)=eu s j.toNat c:=by rw[zA nn];congr 1;omega
 rw[k1,k2] at b ⊢;rw[qY];refine⟨λh=>⟨c,e,h⟩,λ⟨k,h1,d⟩=> ?_⟩;rcases yg k c with a|a|a
 ·have:=e k a;omega
 ·rw[<-a];exact d
 exact absurd (h1 c a) b
theorem bMc (nn:Nn s) (i0:0<=i) (j0:0<=j) (e:EqH c (eu s i.toNat) (eu s j.toNat)) (h:kC s (i+c)=kC s (j+c)):EqH (c+1) (eu s i.toNat) (eu s j.toNat):=λd b=>by
 rcases gm d c with a|a
 ·exact e d a
 have k1:kC s (i+c)=eu s i.toNat c:=by rw[zA nn];congr 1;omega
 have k2:kC s (j+c)=eu s j.toNat c:=by rw[zA nn];congr 1;omega
 rw[show d=c by omega,<-k1,<-k2,h]
theorem aVw (h:RkO s o V) (hi:0<=i/\i<s.length) (a:0<=j/\j<s.length) (d:i≠j) (e:EqH c (eu s i.toNat) (eu s j.toNat)) (i3:(i+c)%3≠0) (b:(j+c)%3≠0):
  (i+c<=s.length/\j+c<=s.length)/\(rd V (i+c)<rd V (j+c)↔dA s i j):=by
 have r1:=zB (s:=s) (i:=i.toNat) (j:=j.toNat) G G G e;have r2:=zB (s:=s) (i:=j.toNat) (j:=i.toNat) G G G e.symm;refine⟨G,?_⟩;rw[h.cmp ⟨G,G⟩ ⟨G,G⟩ G,qY,<-VF e,show(i+c).toNat=i.toNat+c by omega,show(j+c).toNat=j.toNat+c by omega]
structure MgI (s o t acc:AH) (a q:Int):Prop where
 perm:acc.Perm (o.take a.toNat++t.take q.toNat)
 sorted:acc.Pairwise (dA s)
 ahead: ∀x∈acc,∀y,y∈o.drop a.toNat\/y∈t.drop q.toNat->dA s x y
end
variable {t acc:AH} {a:Int}
theorem bDp:MgI s o t [] 0 0:=⟨.refl _, .nil,λx a=>by cases a⟩
theorem MgI.len (h:MgI s o t acc a q) (a0:0<=a) (b:a<=o.length) (e:0<=q) (d:q<=t.length):(acc.length:Int)=a+q:=by
 rw[h.perm.length_eq,aa,ax,ax];omega
theorem aQm {r:Int->Int->Prop} {l:AH} {x:Int} (h:l.Pairwise r) (a: ∀y∈l,r y x):(l++[x]).Pairwise r:=by
 rw[kv];exact⟨h,ql _ _,λy b z d=>by rw[gz.1 d];exact a y b⟩
theorem MgI.left (h:MgI s o t acc a q) (j:o.Pairwise (dA s)) (l:t.Pairwise (dA s)) (a0:0<=a) (i:a<o.length) (m:0<=q) (k:q<t.length) (hl:dA s (rd o a) (rd t q)):MgI s o t (acc++[rd o a]) (a+1) q:=by
 have e:=jN (s:=o) a0 i;have g:=jN (s:=t) m k;refine⟨?_,aQm h.sorted λy b=>h.ahead y b _ (.inl (by rw[e];simp)),λx d y b=> ?_⟩
 ·rw [dP a0 i];refine(h.perm.append_right _).trans ?_;rw[dx,dx];exact ym _ ul
 rcases ek.1 d with d|d
 ·exact h.ahead x d y (b.imp_left λb=>by rw[e];exact fw _ b)
 rw [gz.1 d];have so:(o.drop a.toNat).Pairwise (dA s):=j.sublist (xw _ _);have st:(t.drop q.toNat).Pairwise (dA s):=l.sublist (xw _ _);rw[e,jb] at so;rw[g,jb] at st;rcases b with b|b
 ·exact so.1 y b
 rw [g] at b;rcases il.1 b with rfl|b
 ·exact hl
 exact GN _ _ _ hl (st.1 y b)
theorem MgI.right (h:MgI s o t acc a q) (k:o.Pairwise (dA s)) (l:t.Pairwise (dA s)) (a0:0<=a) (j:0<=q) (i:q<t.length) (hl:a<o.length->dA s (rd t q) (rd o a)):MgI s o t (acc++[rd t q]) a (q+1):=by
 have e:=jN (s:=t) j i;refine⟨?_,aQm h.sorted λy b=>h.ahead y b _ (.inr (by rw[e];simp)),λx d y b=> ?_⟩
 ·rw [dP j i,<-dx];exact h.perm.append_right _
 rcases ek.1 d with d|d
 ·exact h.ahead x d y (b.imp_right λb=>by rw[e];exact fw _ b)
 rw [gz.1 d];have st:(t.drop q.toNat).Pairwise (dA s):=l.sublist (xw _ _);rw[e,jb] at st;rcases b with b|b
 ·rcases bz a o.length with c|c
  ·have g:=jN (s:=o) a0 c;have so:(o.drop a.toNat).Pairwise (dA s):=k.sublist (xw _ _);rw[g,jb] at so;rw[g] at b;rcases il.1 b with rfl|b
   ·exact hl c
   exact GN _ _ _ (hl c) (so.1 y b)
  rw [og G] at b;cases b
 exact st.1 y b
theorem MgI.done (h:MgI s o t acc a q) (b:o.Pairwise (dA s)) (i:(t.length:Int)<=q) (hp:o.Perm (smp s.length)) (g:t.Perm (plc s.length 0)):(acc++o.drop a.toNat).Perm (iota s.length)/\(acc++o.drop a.toNat).Pairwise (dA s):=by
 refine⟨?_,?_⟩
 ·have h1:=h.perm;rw[bg (l:=t) G] at h1;refine((h1.append_right _).trans ?_).trans (((hp.append_right _).trans (g.append_left _)).trans (bJx _));refine(ul.append_right _).trans ?_;rw[dx,ed];exact ul
 rw [kv];exact⟨h.sorted,b.sublist (xw _ _),λx d y e=>h.ahead x d y (.inl e)⟩
end
section
variable {s:AH} {m c x y i j:Int}
def thr (s:AH) (m:Int):AH:=(List.range (m+1).toNat).map λc:Nat=>if (c:Int)∈s then 1 else 0
theorem mK (s:AH) (m:Int):(thr s m).length=(m+1).toNat:=by simp[thr]
theorem TR (a:0<=c) (h:c<=m):rd (thr s m) c=if c∈s then 1 else 0:=by
 unfold thr;rw[jU a G,show((c.toNat:Nat):Int)=c by omega]
theorem bJo (m:Int):thr [] m=List.replicate (m+1).toNat 0:=by
 refine bP (by rw[mK,df]) λj a h1=> ?_;rw[mK] at h1;rw[TR a G,yO];rfl
theorem aZu (a:0<=x) (h:x<=m):upd (thr s m) x 1=thr (s++[x]) m:=by
 refine bP (by rw[aW,mK,mK]) λj j0 b=> ?_;rw[aW,mK] at b;rw[iQ a j0 (by rw[mK];omega),TR j0 G,TR j0 G];by_cases e:j=x
 ·rw[cz e,cz (by rw[e];simp)]
 rw [bq e];by_cases c:j∈s
 ·rw[cz c,cz (Gl _ c)]
 rw[bq c,bq (by rw[ek,gz];exact λh=>h.elim c e)]
theorem aZv (s:AH) (m:Int): ∀x∈thr s m,0<=x:=by
 intro x a;obtain⟨c,_,rfl⟩:=gq.1 a;split<;>omega
theorem bCk {s:AH} {m:Int}: ∀x:Nat,(x:Int)<=m+1->ps (thr s m) x=((List.range x).filter λc:Nat=>decide ((c:Int)∈s)).length
 |0,_=>rfl
 | x+1,h=>by
  rw[show((x+1:Nat):Int)=(x:Int)+1 by omega,nY G (by rw[mK];omega),bCk x G,TR G G,Ae,uq,aa];by_cases c:(x:Int)∈s
  ·rw [cz c,qd (by simpa using c)];simp
  rw [bq c,mf (by simpa using c)];simp
theorem bKy {L:AH} (h: ∀x∈L,0<=x) {a b:Int} (e:0<=a) (m6:a<=b) (hb:b<=L.length):ps L a<=ps L b:=by
 obtain⟨d,rfl⟩: ∃d:Nat,b=a+d:=⟨(b-a).toNat,G⟩
 induction d with
 |zero=>simp
 |succ d ih=>
  have:=ih G G;rw[show a+((d+1:Nat):Int)=a+(d:Int)+1 by omega,nY G G];have:=h _ (bM (L:=L) (k:=a+d) G G);omega
theorem aQj (d:x∈s) (x0:0<=x) (e:x<y) (h:y<=m):ps (thr s m) x<ps (thr s m) y:=by
 have h1:=nY (L:=thr s m) (k:=x) x0 (by rw[mK];omega);rw[TR x0 G,cz d] at h1;have g:=bKy (aZv s m) (a:=x+1) (b:=y) G G (by rw[mK];omega);omega
theorem bVc (i:x∈s) (x0:0<=x) (k:x<=m):0<=ps (thr s m) x/\ps (thr s m) x<s.length:=by
 have e:ps (thr s m) x=((List.range x.toNat).filter λc:Nat=>decide ((c:Int)∈s)).length:=by
  have:=bCk (s:=s) (m:=m) x.toNat G;rwa[show((x.toNat:Nat):Int)=x by omega] at this
 rw[e];have hl:=rC (l:=(((List.range x.toNat).filter λc:Nat=>decide ((c:Int)∈s)).map λc:Nat=>(c:Int))++[x]) (m:=s) ?_ ?_
 ·rw [aa,bn,dw] at hl;omega
 ·refine yc.2 ⟨iv.2 ((xm.sublist ve).imp λ{x y} h j=>h G),ql _ _,λa g b hb e=> ?_⟩;obtain⟨c,hc,rfl⟩:=gq.1 g;have:=jr.1 (qb.1 hc).1;rw[gz] at hb;omega
 intro z d;rcases ek.1 d with d|d
 ·obtain ⟨c,hc,rfl⟩:=gq.1 d;simpa using (qb.1 hc).2
 rw[gz.1 d];exact i
def sqz (s:AH) (m:Int):AH:=s.map λx=>ps (thr s m) x
theorem QA (s:AH) (m:Int):(sqz s m).length=s.length:=by simp[sqz]
theorem bRo {s:AH} {m:Int} (hs: ∀x∈s,0<=x/\x<=m): ∀x∈sqz s m,0<=x/\x<s.length:=by
 intro y b;obtain⟨x,a,rfl⟩:=gq.1 b;exact bVc a (hs x a).1 (hs x a).2
theorem WP {P:Int->Prop} {f:Int->Int} (d: ∀x y:Int,P x->P y->(x<y↔f x<f y)): ∀a b:AH,(∀x∈a,P x)->(∀x∈b,P x)->cmpL (a.map f) (b.map f)=cmpL a b
 |[],[],_,_=>rfl
 |[],b::v,_,_=>rfl
 |a::u,[],_,_=>rfl
 |a::u,b::v,ha,hb=>by
  have g:=ha a cD;have h:=hb b cD;simp only[jg,cmpL,<-d a b g h,<-d b a h g];rw[WP d u v (λx e=>ha x (fw _ e)) λx e=>hb x (fw _ e)]
theorem bJu {s:AH} (hs: ∀x∈s,0<=x/\x<=m):dA (sqz s m) x y↔dA s x y:=by
 rw[<-jK,<-jK];unfold sqz;rw[<-Fy,<-Fy,WP (P:=λx=>x∈s) (λx y a b=>⟨λh=>aQj a (hs x a).1 h (hs y b).2,λh=> ?_⟩) _ _ (λx a=>lu a) λx a=>lu a];refine Int.not_le.1 λc=> ?_;rcases bz y x with d|d
 ·have:=aQj b (hs y b).1 d (hs x a).2;omega
 rw [show x=y by omega] at h;omega
theorem aUb {s b:AH} (hs: ∀x∈s,0<=x/\x<=m) (hp:b.Perm (iota (sqz s m).length)) (a:b.Pairwise (dA (sqz s m))):b.Perm (iota s.length)/\b.Pairwise (dA s):=by
 rw[QA] at hp;exact⟨hp,a.imp λh=>(bJu hs).1 h⟩
def bRj (s:AH) (k:Int):Nat->AH
 |0=>smp s.length
 |j+1=>dN (bRj s k j) (jC s (2-(j:Int))) (k+1).toNat
theorem ME {s:AH} {k:Int} (hs: ∀x∈s,0<=x/\x<k) (hk:0<=k): ∀j:Nat,j<=3->(bRj s k j).Perm (smp s.length)
 |0,_=> .refl _
 |j+1,h=>(tO hs hk G λx a=>qR ((ME hs hk j G).subset a)).trans (ME hs hk j G)
def YG (s:AH) (i j:Int):Prop:=kC s (i+0)=kC s (j+0)/\kC s (i+1)=kC s (j+1)/\kC s (i+2)=kC s (j+2)
instance (s:AH) (i j:Int):Decidable (YG s i j):=by unfold YG;exact inferInstance
theorem aKm (nn:Nn s) (i0:0<=i) (j0:0<=j):YG s i j↔EqH 3 (eu s i.toNat) (eu s j.toNat):=by
 have e: ∀(z:Int) (b:Nat),0<=z->kC s (z+b)=eu s z.toNat b:=λz b p=>by rw[zA nn];congr 1;omega
 have a0:kC s (i+0)=eu s i.toNat 0:=e i 0 i0;have a1:kC s (i+1)=eu s i.toNat 1:=e i 1 i0;have a2:kC s (i+2)=eu s i.toNat 2:=e i 2 i0;have a:kC s (j+0)=eu s j.toNat 0:=e j 0 j0;have g:kC s (j+1)=eu s j.toNat 1:=e j 1 j0;have k:kC s (j+2)=eu s j.toNat 2:=e j 2 j0;unfold YG;rw[a0,a1,a2,a,g,k];constructor
 ·rintro ⟨l,h1,m⟩ d o
  match d,o with
  |0,_=>exact l
  |1,_=>exact h1
  |2,_=>exact m
 intro h;exact⟨h 0 G,h 1 G,h 2 G⟩
theorem bOa (h: ∀c:Int,0<=c->c<3->kC s (i+c)=kC s (j+c)):YG s i j:=⟨h 0 G G,h 1 G G,h 2 G G⟩
theorem bIk (c0:0<=c) (d:c<3) (h:kC s (i+c)≠kC s (j+c)): ¬YG s i j:=by
 rintro⟨a,h1,b⟩;rcases(by omega:c=0\/c=1\/c=2) with rfl|rfl|rfl
 ·exact h a
 ·exact h h1
 exact h b
end
section
variable {s o V:AH} {q n:Int}
section
variable {t:Int} {W:AH}
theorem bSq (nn:Nn s) (hp:o.Perm (smp s.length)) (hs:o.Pairwise λx y=> ¬LtH 3 (eu s y.toNat) (eu s x.toNat)) (k:0<=q) (e:q<o.length) (h:q=0\/ ¬YG s (rd o (q-1)) (rd o q)):
  q=0\/LtH 3 (eu s (rd o (q-1)).toNat) (eu s (rd o q).toNat):=by
 rcases bz 0 q with c|c
 ·rcases h with h|h
  ·exact .inl h
  have d: ∀p:Int,0<=p->p<o.length->0<=rd o p:=λp a b=>(qR (hp.subset (bM a b))).1;rw[aKm nn (d (q-1) G G) (d q k e)] at h;have g:=gB hs (i:=q-1) (j:=q) G G e;rcases tri 3 (eu s (rd o (q-1)).toNat) (eu s (rd o q).toNat) with a|a|a
  ·exact .inr a
  ·exact absurd a h
  exact absurd a g
 exact .inl G
theorem bSn (nn:Nn s) (hp:o.Perm (smp s.length)) (i:0<=q) (e:q<o.length) (h: ¬(q=0\/ ¬YG s (rd o (q-1)) (rd o q))):0<q/\EqH 3 (eu s (rd o (q-1)).toNat) (eu s (rd o q).toNat):=by
 have c:0<q:=G
 have d: ∀p:Int,0<=p->p<o.length->0<=rd o p:=λp a b=>(qR (hp.subset (bM a b))).1;refine⟨c,(aKm nn (d (q-1) G G) (d q i e)).1 (pg.1 λg=>h (.inr g))⟩
theorem RkI.short (h:RkI s o V o.length n) (hp:o.Perm (smp s.length)) (r:2<=s.length) (u:s.length<=3):n=o.length:=by
 have hl:o.length=(s.length+1)/3+s.length/3:=by rw[hp.length_eq,JE]
 have d: ∀p:Int,0<=p->p<o.length->(0<=rd o p/\rd o p<s.length/\rd o p%3≠0):=λp a b=>oD.1 (hp.subset (bM a b));have k:=h.nq;have l:=h.bd 0 G G;rcases(by omega:o.length=1\/o.length=2) with e|e
 ·omega
 have m:=h.bd 1 G G;have i0:=d 0 G G;have v:=d 1 G G;rcases h.lt 0 1 G G G with⟨a,_⟩|⟨_,a⟩
 ·exfalso;have q:rd o 0≠rd o 1:=λg=>by have:=mJ (hp.symm.nodup (tK _)) (i:=0) (j:=1) G G G G g;omega
  have:=zB (s:=s) (i:=(rd o 0).toNat) (j:=(rd o 1).toNat) G G G a;omega
 omega
theorem bTx (a:0<=t) (h:t<(plc s.length 1).length):rd (plc s.length 1) t=bk s t:=by
 unfold bk;rw[cz h,aCv a h];rfl
theorem bTw (h:(plc s.length 1).length<t) (a:t-1<(smp s.length).length):rd (smp s.length) (t-1)=bk s t:=by
 unfold bk;rw[bq G];unfold smp at a ⊢;rw[aa] at a;rw[jP G,aCv G G];omega
theorem aVj (h:s.length<2):plc s.length 0=iota s.length:=by
 rcases(by omega:s.length=0\/s.length=1) with e|e<;>rw[e]<;>rfl
theorem bSc (h:s.length<2):(iota s.length).Pairwise (dA s):=by
 rcases(by omega:s.length=0\/s.length=1) with e|e
 ·rw[e];exact .nil
 rw[e];exact ql _ _
theorem bTy (hl:W.length=s.length) (h: ∀j:Int,0<=j->j<s.length->rd W j=rd V (j+1)):W=bhd s V:=
 bP (hl.trans (aTf s V).symm) λj a h1=>by rw[aMo a G];exact h j a G
theorem bEj {b:Int} (hl:W.length=s.length) (h: ∀j:Int,0<=j->j<s.length->rd W j=kC s (j+b)):W=jC s b:=
 bP (hl.trans (MV s b).symm) λj a h1=>by rw[JN a G];exact h j a G
end
end
theorem SI: ∀ {L:AH},(∀x∈L,x<=1)->L.sum<=L.length
 |[],_=>cD
 |a::L,h=>by
  have:=SI (L:=L) λx b=>h x (fw _ b);have:=h a cD;rw[uy,dh];omega
theorem bJn (s:AH) (m:Int):(thr s m).sum<=(m+1).toNat:=by
 rw[<-mK s m];refine SI λx a=> ?_;obtain⟨c,_,rfl⟩:=gq.1 a;split<;>omega
theorem bRn {s W:AH} {m:Int} (hs: ∀x∈s,0<=x/\x<=m) (hl:W.length=s.length) (h: ∀j:Int,0<=j->j<s.length->rd W j=rd (eF (thr s m)) (rd s j)):W=sqz s m:=
 bP (hl.trans (QA s m).symm) λj a h1=>by
  have b:=hs _ (bM (L:=s) a G);unfold sqz;rw[AY a G,h j a G,qV b.1 (by rw[mK];omega)]
end
section
section
variable {s:AH} {i j:Int} {n:Nat}
def NA (s:AH) (i j:Nat) (d:Nat):Prop:=(i+d<s.length/\j+d<s.length)/\lt s (i+d)=lt s (j+d)
instance (s:AH) (i j d:Nat):Decidable (NA s i j d):=by unfold NA;exact inferInstance
def aJs (s:AH):Nat->Nat->Nat->Nat
 |0,_,_=>0
 |f+1,i,j=>if NA s i j 0 then aJs s f (i+1) (j+1)+1 else 0
def com (s:AH) (i j:Int):Nat:=aJs s s.length i.toNat j.toNat
theorem aIx {i j m d:Nat}:NA s (i+m) (j+m) d↔NA s i j (m+d):=by
 unfold NA;rw[ow,ow]
theorem aJr {s:AH}: ∀(f i j:Nat),∀d,d<aJs s f i j->NA s i j d
 |0,i,j,d,h=>by simp[aJs] at h
 | f+1,i,j,d,h=>by
  unfold aJs at h;split at h
  ·rename_i c;cases d with
   |zero=>exact c
   |succ d=>
    have:=aJr (s:=s) f (i+1) (j+1) d G;rwa[aIx,ut] at this
  omega
theorem aJq {s:AH}: ∀(f i j:Nat),s.length<=i+f-> ¬NA s i j (aJs s f i j)
 |0,i,j,h=>by
  unfold aJs NA;omega
 | f+1,i,j,h=>by
  unfold aJs;by_cases c:NA s i j 0
  ·rw [cz c];have:=aJq (s:=s) f (i+1) (j+1) G;rwa[aIx,ut] at this
  rw[bq c];exact c
theorem aSw: ∀d,d<com s i j->NA s i.toNat j.toNat d:=aJr _ _ _
theorem bNg: ¬NA s i.toNat j.toNat (com s i j):=aJq _ _ _ G
theorem bTq:n<=com s i j↔ ∀d,d<n->NA s i.toNat j.toNat d:=by
 refine⟨λh d a=>aSw d G,λh=>Hq.1 λc=> ?_⟩;exact bNg (h _ c)
theorem bTr (i0:0<=i) (hi:i<=s.length) (j0:0<=j) (a:j<=s.length):i+com s i j<=s.length/\j+com s i j<=s.length:=by
 rcases fe (com s i j) with z|z
 ·omega
 have:=(aSw (s:=s) (i:=i) (j:=j) (com s i j-1) G).1;omega
theorem aSv (hi:0<=i/\i<s.length) (g:0<=j/\j<s.length) (k:i≠j):n<=com s i j↔EqH n (eu s i.toNat) (eu s j.toNat):=by
 rw[bTq];constructor
 ·intro h d e;obtain⟨⟨a,b⟩,c⟩:=h d e;unfold eu;rw[cz a,cz b,c]
 intro h d e;have r1:=zB (s:=s) (i:=i.toNat) (j:=j.toNat) G G G h;have r2:=zB (s:=s) (i:=j.toNat) (j:=i.toNat) G G G h.symm;refine⟨⟨G,G⟩,?_⟩;have:=h d e;unfold eu at this;rw[cz G,cz G] at this;omega
theorem eq_between {U V W:Nat->Int} (e:EqH n U W) (h1: ¬LtO V U) (b: ¬LtO W V):EqH n U V:=by
 rcases tri n U V with a|a|a
 ·exact absurd (GQ (e.symm.ltH a)) b
 ·exact a
 exact absurd (GQ a) h1
structure zJ (s a R:AH):Prop where
 perm:a.Perm (iota s.length)
 sorted:a.Pairwise (dA s)
 len:R.length=s.length
 inv: ∀r:Int,0<=r->r<s.length->rd R (rd a r)=r
end
section
variable {s a R:AH}
section
variable {r i:Int}
theorem zJ.alen (h:zJ s a R):a.length=s.length:=by rw[h.perm.length_eq,bI]
theorem zJ.ain (h:zJ s a R) (d:0<=r) (b:r<s.length):0<=rd a r/\rd a r<s.length:=aY.1 (h.perm.subset (bM d (by rw[h.alen];exact b)))
theorem zJ.at_ (h:zJ s a R) (i0:0<=i) (hi:i<s.length):(0<=rd R i/\rd R i<s.length)/\rd a (rd R i)=i:=by
 obtain⟨p,p0,p1,e⟩:=aNu (h.perm.symm.subset (aY.2 ⟨i0,hi⟩));rw[h.alen] at p1;have:=h.inv p p0 p1;rw[e] at this;rw[this];exact⟨⟨p0,p1⟩,e⟩
theorem zJ.ord (h:zJ s a R) {p q:Int} (p0:0<=p) (b:p<q) (d:q<s.length):dA s (rd a p) (rd a q):=gB h.sorted p0 b (by rw[h.alen];exact d)
theorem zJ.rank (h:zJ s a R) {j:Int} (hi:0<=i/\i<s.length) (g:0<=j/\j<s.length):rd R i<rd R j↔dA s i j:=by
 obtain⟨a1,a2⟩:=h.at_ hi.1 hi.2;obtain⟨e,b⟩:=h.at_ g.1 g.2;constructor
 ·intro c;have:=h.ord a1.1 c e.2;rwa[a2,b] at this
 intro c;rcases jf (rd R i) (rd R j) with d|d|d
 ·exact d
 ·rw [d,b] at a2;rw[a2] at c;exact absurd c (iE _ _ c)
 have:=h.ord e.1 d a1.2;rw[a2,b] at this;exact absurd c (iE _ _ this)
theorem aNo (h:zJ s a R) (i0:0<=i) (hi:i+1<s.length) (h1:0<rd R i) (K:0<rd R (i+1)):
  com s i (rd a (rd R i-1))-1<=com s (i+1) (rd a (rd R (i+1)-1)):=by
 rcases gm 1 (com s i (rd a (rd R i-1))) with c|c
 ·obtain ⟨C,D⟩:=h.at_ i0 G;obtain⟨F,sb⟩:=h.at_ (i:=i+1) G hi;generalize v:rd a (rd R i-1)=j at c ⊢;generalize hp:rd a (rd R (i+1)-1)=p;have l:=h.ain (r:=rd R i-1) G G;have m:=h.ain (r:=rd R (i+1)-1) G G;rw[v] at l;rw[hp] at m;have b:=h.ord (p:=rd R i-1) (q:=rd R i) G G C.2;rw[v,D] at b;have k:=h.ord (p:=rd R (i+1)-1) (q:=rd R (i+1)) G G F.2;rw[hp,sb] at k;have x:j≠i:=λe=>by rw[e] at b;exact iE _ _ b b
  have y:p≠i+1:=λe=>by rw[e] at k;exact iE _ _ k k
  have J:=bTr (s:=s) (i:=i) (j:=j) G G G G;have v6:j+1<s.length:=G
  have e:=(aSv (n:=com s i j) ⟨i0,G⟩ l (Ik x)).1 (dn _);have A:EqH 1 (eu s j.toNat) (eu s i.toNat):=(e.mono G).symm
  have B:LtO (eu s (j+1).toNat) (eu s (i+1).toNat):=by
   rw[show(j+1).toNat=j.toNat+1 by omega,show(i+1).toNat=i.toNat+1 by omega,VF A];exact qY.1 b
  have r1:=(h.rank (i:=j+1) (j:=i+1) ⟨G,v6⟩ ⟨G,hi⟩).2 (qY.2 B);obtain⟨H,w⟩:=h.at_ (i:=j+1) G v6
  have o:EqH (com s i j-1) (eu s (i+1).toNat) (eu s (j+1).toNat):=λd L=>by
   have:=e (d+1) G;rw[show(j+1).toNat=j.toNat+1 by omega,show(i+1).toNat=i.toNat+1 by omega,BV,BV,ut 1 d];exact this
  refine(aSv ⟨G,hi⟩ m (Ik y)).2 ?_
  have u:j+1=p\/dA s (j+1) p:=by
   rcases bz (rd R (j+1)) (rd R (i+1)-1) with d|d
   ·have:=h.ord H.1 d G;rw[w,hp] at this;exact .inr this
   refine .inl ?_;rw[<-w,<-hp];congr 1;omega
  rcases u with rfl|u
  ·exact o
  refine o.trans' (eq_between o.symm (λg=> ?_) λg=> ?_)
  ·exact iE _ _ u (qY.2 g)
  exact iE _ _ k (qY.2 g)
 omega
def aWa (s a:AH):AH:=(List.range a.length).map λr:Nat=>if r=0 then 0 else(com s (rd a r) (rd a ((r:Int)-1)):Int)
theorem bEd (s a:AH):(aWa s a).length=a.length:=by simp[aWa]
theorem aQz (b:0<=r) (h:r<a.length):rd (aWa s a) r=if r=0 then 0 else(com s (rd a r) (rd a (r-1)):Int):=by
 unfold aWa;rw[jU b G,show((r.toNat:Nat):Int)=r by omega];by_cases c:r=0
 ·rw[cz c,cz G]
 rw[bq c,bq G]
structure aKq (s a R V:AH) (i n:Int):Prop where
 len:V.length=s.length
 n0:0<=n
 nl:i<s.length->0<rd R i->n.toNat<=com s i (rd a (rd R i-1))
 val: ∀p:Int,0<=p->p<i->rd V (rd R p)=rd (aWa s a) (rd R p)
 zero:0<s.length->rd V 0=0
end
variable {V:AH} {i n:Int}
theorem aKq.skip (k:aKq s a R V i n) (h:zJ s a R) (i0:0<=i) (hi:i<s.length) (b:rd R i=0):aKq s a R V (i+1) 0:=by
 refine⟨k.len,G,λ_ _=>oq _,λp p0 p1=> ?_,k.zero⟩;rcases bz p i with c|c
 ·exact k.val p p0 c
 rw [show p=i by omega,b,aQz G (by rw[h.alen];omega),cz rfl];exact k.zero G
theorem aKq.put (k:aKq s a R V i n) (h:zJ s a R) (i0:0<=i) (hi:i<s.length) (d:rd R i≠0) {m:Int} (l:m=com s i (rd a (rd R i-1))):aKq s a R (upd V (rd R i) m) (i+1) (max (m-1) 0):=by
 obtain⟨b,g⟩:=h.at_ i0 hi;have hl:=k.len;refine⟨by rw[aW];exact hl,G,λh1 j=> ?_,λp p0 p1=> ?_,λhs=> ?_⟩
 ·have:=aNo h i0 h1 G j;omega
 ·obtain ⟨o,q⟩:=h.at_ p0 (show p<s.length by omega);rcases bz p i with c|c
  ·rw [iD b.1 o.1 λe=>by rw[<-e,g] at q;omega];exact k.val p p0 c
  rw[show p=i by omega,fZ b.1 G,aQz b.1 (by rw[h.alen];exact b.2),bq d,g,l]
 rw [iD b.1 G d];exact k.zero hs
theorem aKq.done (k:aKq s a R V s.length n) (h:zJ s a R):V=aWa s a:=by
 refine bP (by rw[k.len,bEd,h.alen]) λj j0 b=> ?_;rw[k.len] at b;have e:=k.val (rd a j) (h.ain j0 b).1 (h.ain j0 b).2;rwa[h.inv j j0 b] at e
def UH (s a R:AH):AH:=(List.range s.length).map λi:Nat=>if rd R i=0 then 0 else(com s i (rd a (rd R i-1)):Int)
theorem aVi:(UH s a R).length=s.length:=by simp[UH]
theorem bCb (b:0<=i) (h:i<s.length):rd (UH s a R) i=if rd R i=0 then 0 else(com s i (rd a (rd R i-1)):Int):=by
 unfold UH;rw[jU b G,show((i.toNat:Nat):Int)=i by omega]
theorem zJ.next (h:zJ s a R) {r:Int} (m:1<=r) (j:r<s.length):rd s (rd a (r-1))<rd s (rd a r)\/rd s (rd a (r-1))=rd s (rd a r)/\
  ((rd a (r-1)+1=s.length/\rd a r+1<s.length)\/(rd a (r-1)+1<s.length/\rd a r+1<s.length/\rd R (rd a (r-1)+1)<rd R (rd a r+1))):=by
 have o:=h.ord (p:=r-1) (q:=r) G G j;have x:=h.ain (r:=r-1) G G;have y:=h.ain (r:=r) G j;generalize rd a (r-1)=p at o x ⊢;generalize rd a r=q at o y ⊢;rw[qY] at o
 have b: ∀z:Int,0<=z->z<s.length->eu s z.toNat 0=rd s z-lo s+1:=λz z0 u=>by
  unfold eu;rw[cz G];rfl
 obtain⟨k,h1,g⟩:=o;cases k with
 |zero=>rw[b p x.1 x.2,b q y.1 y.2] at g;exact .inl G
 | succ k=>
  have e:=h1 0 G;rw[b p x.1 x.2,b q y.1 y.2] at e;refine .inr ⟨G,?_⟩
  have i:q+1<s.length:=by
   rcases gm (q.toNat+(k+1)) s.length with c|c
   ·omega
   rw [kU c] at g;have:=bFq s p.toNat (k+1);omega
  rcases bz (p+1) s.length with c|c
  ·refine .inr ⟨c,i,(h.rank ⟨G,c⟩ ⟨G,i⟩).2 (qY.2 ?_)⟩;rw[show(p+1).toNat=p.toNat+1 by omega,show(q+1).toNat=q.toNat+1 by omega,VF (λd l=>by rw[show d=0 by omega];exact h1 0 G)];exact⟨k+1,h1,g⟩
  exact .inl ⟨G,i⟩
end
section
variable {a V s:AH} {B:List Bool} {q:Int}
structure aEt (a V:AH) (B:List Bool) (q:Int):Prop where
 len:V.length=a.length
 blen:B.length=a.length
 val: ∀p:Int,0<=p->p<q->rd V (rd a p)=p
 seen: ∀x:Int,0<=x->x<a.length->(rdb B x=true↔ ∃p:Int,0<=p/\p<q/\rd a p=x)
theorem aEt.fresh (h:aEt a V B q) (hp:a.Perm (iota a.length)) (g:0<=q) (d:q<a.length):(0<=rd a q/\rd a q<a.length)/\ ¬rdb B (rd a q)=true:=by
 have b:=aY.1 (hp.subset (bM g d));refine⟨b,λhs=> ?_⟩;obtain⟨p,p0,p1,e⟩:=(h.seen _ b.1 b.2).1 hs;have:=mJ (hp.symm.nodup (fV _)) p0 G g d e;omega
theorem aEt.step (h:aEt a V B q) (hp:a.Perm (iota a.length)) (g:0<=q) (j:q<a.length):aEt a (upd V (rd a q) q) (sV B (rd a q) true) (q+1):=by
 obtain⟨⟨x0,l⟩,_⟩:=h.fresh hp g j;have hl:=h.len;have hb:=h.blen;have b:=hp.symm.nodup (fV a.length);refine⟨by rw[aW];exact hl,by rw[mW];exact hb,λp p0 p1=> ?_,λx i h1=> ?_⟩
 ·rcases bz p q with c|c
  ·have k:=aY.1 (hp.subset (bM (L:=a) p0 G));rw[iD x0 k.1 λe=>by have:=mJ b g j p0 G e;omega];exact h.val p p0 c
  rw[show p=q by omega,fZ x0 G]
 rw [EB x0 G i];by_cases c:x=rd a q
 ·rw [cz c];exact⟨λ_=>⟨q,g,G,c.symm⟩,λ_=>rfl⟩
 rw [bq c,h.seen x i h1];exact⟨λ⟨p,p0,p1,e⟩=>⟨p,p0,G,e⟩,λ⟨p,p0,p1,e⟩=>⟨p,p0,(bz p q).elim id λd=>absurd (by rw[<-e,show p=q by omega]) c,e⟩⟩
theorem aEt.done (h:aEt a V B a.length) (hp:a.Perm (iota s.length)) (hs:a.Pairwise (dA s)):zJ s a V:=by
 have hl:a.length=s.length:=by rw[hp.length_eq,bI]
 exact⟨hp,hs,by rw[h.len,hl],λr b d=>h.val r b G⟩
def bUf (a V:AH):Prop:=V.length=a.length/\ ∀r:Int,0<=r->r<a.length->rd V (rd a r)=r
theorem aEt.all (h:aEt a V B a.length):bUf a V:=⟨h.len,h.val⟩
theorem bUf.ord (h:bUf a V) (hp:a.Perm (iota s.length)) (hs:a.Pairwise (dA s)):zJ s a V:=by
 have hl:a.length=s.length:=by rw[hp.length_eq,bI]
 exact⟨hp,hs,by rw[h.1,hl],λr b d=>h.2 r b G⟩
end
section
variable {s a R:AH}
structure AhI (a V:AH) (q l:Int):Prop where
 len:V.length=a.length
 last:l=if q=0 then -1 else rd a (q-1)
 val: ∀p:Int,0<=p->p<q->rd V (rd a p)=if p=0 then -1 else rd a (p-1)
def AhF (a V:AH):Prop:=V.length=a.length/\ ∀p:Int,0<=p->p<a.length->rd V (rd a p)=if p=0 then -1 else rd a (p-1)
variable {V:AH} {q l:Int}
theorem AhI.step (h:AhI a V q l) (hp:a.Perm (iota a.length)) (i:0<=q) (g:q<a.length):AhI a (upd V (rd a q) l) (q+1) (rd a q):=by
 have d:=aY.1 (hp.subset (bM i g));have b:=hp.symm.nodup (fV a.length);have hl:=h.len;refine⟨by rw[aW];exact hl,by rw[bq G,show q+1-1=q by omega],λp p0 p1=> ?_⟩;rcases bz p q with c|c
 ·have ip:=aY.1 (hp.subset (bM (L:=a) p0 G));rw[iD d.1 ip.1 λe=>by have:=mJ b i g p0 G e;omega];exact h.val p p0 c
 rw [show p=q by omega,fZ d.1 G];exact h.last
theorem AhI.done (h:AhI a V a.length l):AhF a V:=⟨h.len,h.val⟩
theorem AhF.at_ (h:AhF a V) (o:zJ s a R) {i:Int} (b:0<=i) (hi:i<s.length):rd V i=if rd R i=0 then -1 else rd a (rd R i-1):=by
 obtain⟨x,y⟩:=o.at_ b hi;have:=h.2 (rd R i) x.1 (by rw[o.alen];exact x.2);rwa[y] at this
structure PlI (s a R V:AH) (i n:Int):Prop where
 len:V.length=s.length
 n0:0<=n
 nl:i<s.length->0<rd R i->(n-1).toNat<=com s i (rd a (rd R i-1))
 val: ∀p:Int,0<=p->p<i->rd V p=rd (UH s a R) p
variable {i n:Int}
theorem PlI.put (k:PlI s a R V i n) (i0:0<=i) (hi:i<s.length) {m:Int} (d:m=rd (UH s a R) i) (b:0<=m) (hn:i+1<s.length->0<rd R (i+1)->(m-1).toNat<=com s (i+1) (rd a (rd R (i+1)-1))):PlI s a R (upd V i m) (i+1) m:=by
 have hl:=k.len;refine⟨by rw[aW];exact hl,b,hn,λp p0 p1=> ?_⟩;rcases bz p i with c|c
 ·rw [iD i0 p0 G];exact k.val p p0 c
 rw [show p=i by omega,fZ i0 G];exact d
theorem PlI.zero (k:PlI s a R V i n) (i0:0<=i) (hi:i<s.length) (b:rd R i=0):PlI s a R (upd V i 0) (i+1) 0:=
 k.put i0 hi (by rw[bCb i0 hi,cz b]) G λ_ _=>oq _
theorem PlI.done (k:PlI s a R V s.length n):V=UH s a R:=
 bP (by rw[k.len,aVi]) λj j0 b=>k.val j j0 (by have:=k.len;omega)
end
end
section
variable {l b V:AH} {k c i:Int}
def mtf (l:AH) (k:Int):AH:=rd l k::(l.take k.toNat++l.drop (k.toNat+1))
def idx (l:AH) (c:Int):Int:=(l.findIdx (λx=>x==c):Nat)
def dY (l:AH):AH->AH
 |[]=>[]
 |c::b=>idx l c::dY (mtf l (idx l c)) b
def zM (l:AH):AH->AH
 |[]=>l
 |c::b=>zM (mtf l (idx l c)) b
def kR (l:AH):AH->AH
 |[]=>[]
 |k::b=>rd l k::kR (mtf l k) b
def EZ (l:AH):AH->AH
 |[]=>l
 |k::b=>EZ (mtf l k) b
theorem UX (c:Int): ∀(b l:AH),dY l (b++[c])=dY l b++[idx (zM l b) c]
 |[],l=>rfl
 |x::b,l=>by simp only[je,dY,zM,UX c b]
theorem ZT (c:Int): ∀(b l:AH),zM l (b++[c])=mtf (zM l b) (idx (zM l b) c)
 |[],l=>rfl
 |x::b,l=>by simp only[je,zM,ZT c b]
theorem RU (k:Int): ∀(b l:AH),kR l (b++[k])=kR l b++[rd (EZ l b) k]
 |[],l=>rfl
 |x::b,l=>by simp only[je,kR,EZ,RU k b]
theorem ZP (k:Int): ∀(b l:AH),EZ l (b++[k])=mtf (EZ l b) k
 |[],l=>rfl
 |x::b,l=>by simp only[je,EZ,ZP k b]
theorem jR: ∀(b l:AH),(dY l b).length=b.length
 |[],_=>rfl
 |x::b,l=>by simp only[dY,dh,jR b]
theorem qO: ∀(b l:AH),(kR l b).length=b.length
 |[],_=>rfl
 |x::b,l=>by simp only[kR,dh,qO b]
theorem BG (a:0<=k) (h:k<l.length):(mtf l k).Perm l:=by
 have e:=jN (s:=l) a h;rw[show(k+1).toNat=k.toNat+1 by omega] at e;unfold mtf
 conv=>rhs;rw[<-ed k.toNat l,e]
 exact List.perm_middle.symm
theorem BP (h:c∈l):0<=idx l c/\idx l c<l.length:=by
 unfold idx;have:=List.findIdx_lt_length_of_exists (xs:=l) (p:=λx=>x==c) ⟨c,h,cD⟩;omega
theorem aMn (h:c∈l):rd l (idx l c)=c:=by
 have hi:=BP h;have ci:l.findIdx (λx=>x==c)<l.length:=by unfold idx at hi;omega
 have:=Gi (xs:=l) (p:=λx=>x==c) (w:=ci);unfold idx;rw[jY ci];simpa using this
theorem ZU: ∀(b l:AH),(∀c∈b,c∈l)->(zM l b).Perm l
 |[],l,_=> .refl _
 |c::b,l,h=>by
  have hc:=BP (h c cD);have hp:=BG hc.1 hc.2;exact(ZU b _ λx a=>hp.symm.subset (h x (fw _ a))).trans hp
theorem ZQ: ∀(b l:AH),(∀k∈b,0<=k/\k<l.length)->(EZ l b).Perm l
 |[],l,_=> .refl _
 |k::b,l,h=>by
  have hk:=h k cD;have hp:=BG hk.1 hk.2;exact(ZQ b _ λx a=>by rw[hp.length_eq];exact h x (fw _ a)).trans hp
theorem aHr: ∀(b l:AH),(∀c∈b,c∈l)-> ∀k∈dY l b,0<=k/\k<l.length
 |[],l,_=>λk hk=>by cases hk
 | c::b,l,h=>by
  have hc:=BP (h c cD);have hp:=BG hc.1 hc.2;intro k hk;rcases il.1 hk with rfl|hk
  ·exact hc
  have:=aHr b _ (λx a=>hp.symm.subset (h x (fw _ a))) k hk;rwa[hp.length_eq] at this
theorem YQ: ∀(b l:AH),(∀c∈b,c∈l)->kR l (dY l b)=b
 |[],_,_=>rfl
 |c::b,l,h=>by
  have hc:=BP (h c cD);have hp:=BG hc.1 hc.2;simp only[dY,kR];rw[aMn (h c cD),YQ b _ λx a=>hp.symm.subset (h x (fw _ a))]
theorem YR: ∀(b l:AH),(∀k∈b,0<=k/\k<l.length)-> ∀c∈kR l b,c∈l
 |[],_,_=>λc hc=>by cases hc
 |k::b,l,h=>by
  have hk:=h k cD;have hp:=BG hk.1 hk.2;intro c hc;rcases il.1 hc with rfl|hc
  ·exact bM hk.1 hk.2
  exact hp.subset (YR b _ (λx a=>by rw[hp.length_eq];exact h x (fw _ a)) c hc)
def bQ:AH:=iota 256
theorem GK:bQ.length=256:=bI _
theorem GJ {b:AH} (h:aI b): ∀c∈b,c∈bQ:=λc hc=>by
 have:=h c hc;exact aY.2 G
theorem oM (h:aI b):aI (dY bQ b):=λk hk=>by
 have:=aHr b _ (GJ h) k hk;rw[GK] at this;omega
theorem RS (h:aI b):aI (kR bQ b):=λc hc=>by
 have:=aY.1 (YR b _ (λk hk=>by have:=h k hk;rw[bI];omega) c hc);omega
theorem GA (h:aI b):kR bQ (dY bQ b)=b:=YQ b _ (GJ h)
theorem aAi: ∀(x y l:AH),dY l (x++y)=dY l x++dY (zM l x) y
 |[],_,_=>rfl
 |c::x,y,l=>by simp only[je,dY,zM,aAi x y]
theorem YS: ∀(x y l:AH),kR l (x++y)=kR l x++kR (EZ l x) y
 |[],_,_=>rfl
 |c::x,y,l=>by simp only[je,kR,EZ,YS x y]
theorem bCc (a:0<=i) (h:i<b.length):rd (dY l b) i=idx (zM l (b.take i.toNat)) (rd b i):=by
 have e:b=b.take i.toNat++(rd b i::b.drop (i+1).toNat):=by rw[<-jN a h,ed]
 have hl:((dY l (b.take i.toNat)).length:Int)=i:=by rw[jR,ax];omega
 conv=>lhs;rw[e,aAi]
 rw[jP G,hl,Jm];rfl
theorem bCa (a:0<=i) (h:i<b.length):rd (kR l b) i=rd (EZ l (b.take i.toNat)) (rd b i):=by
 have e:b=b.take i.toNat++(rd b i::b.drop (i+1).toNat):=by rw[<-jN a h,ed]
 have hl:((kR l (b.take i.toNat)).length:Int)=i:=by rw[qO,ax];omega
 conv=>lhs;rw[e,YS]
 rw[jP G,hl,Jm];rfl
theorem ZR (a:0<=i) (h:i<b.length):zM l (b.take (i+1).toNat)=mtf (zM l (b.take i.toNat)) (idx (zM l (b.take i.toNat)) (rd b i)):=by
 rw[dP a h,ZT]
theorem ZO (a:0<=i) (h:i<b.length):EZ l (b.take (i+1).toNat)=mtf (EZ l (b.take i.toNat)) (rd b i):=by
 rw[dP a h,ZP]
theorem aNh (a:0<=i) (h:i<b.length):dY l (b.take (i+1).toNat)=dY l (b.take i.toNat)++[idx (zM l (b.take i.toNat)) (rd b i)]:=by
 rw[dP a h,UX]
theorem aLd (a:0<=i) (h:i<b.length):kR l (b.take (i+1).toNat)=kR l (b.take i.toNat)++[rd (EZ l (b.take i.toNat)) (rd b i)]:=by
 rw[dP a h,RU]
theorem bSs (a:0<=k) (h:k<l.length):upd (l.take 1++(l.take k.toNat).take (min k.toNat (l.length-1))++l.drop (1+min k.toNat (l.length-1))) 0 (rd l k)=mtf l k:=by
 have e:min k.toNat (l.length-1)=k.toNat:=G
 rw[e,List.take_take,Nat.min_self,ut 1];unfold mtf upd;cases l with
 |nil=>simp at h;omega
 |cons x l=>simp
theorem aGh (hb:aI b) (k:Nat):(zM bQ (b.take k)).Perm bQ:=ZU _ _ λc hc=>GJ hb c (ku hc)
theorem aGg (hb:aI b) (k:Nat):(EZ bQ (b.take k)).Perm bQ:=ZQ _ _ λc hc=>by
 have:=hb c (ku hc);rw[GK];omega
theorem DX (h:V.Perm bQ):V.length=256/\aI V/\ ∀c:Int,0<=c->c<256->c∈V/\0<=idx V c/\idx V c<256:=by
 have hl:V.length=256:=by rw[h.length_eq,GK]
 refine⟨hl,λx b=>by have:=aY.1 (h.subset b);omega,λc c0 c1=> ?_⟩;have a:c∈V:=h.symm.subset (aY.2 ⟨c0,c1⟩);have:=BP a;exact⟨a,this.1,G⟩
theorem aIf (d:c∈V) (h:k<=idx V c) (b:rd V k≠c):k+1<=idx V c:=by
 rcases bz k (idx V c) with a|a
 ·omega
 exact absurd (by rw[show k=idx V c by omega];exact aMn d) b
theorem bEy (k0:0<=k) (h:k<=idx V c) (d:c∈V) (b:rd V k=c):k=idx V c:=by
 have e:=BP d;rcases bz k (idx V c) with a|a
 ·exfalso;unfold idx at a;have:=Eo (xs:=V) (p:=λx=>x==c) (i:=k.toNat) G;rw[fH k0 G] at b;simp[b] at this
 omega
def NT:Nat->Nat->AH
 |0,_=>[]
 |f+1,n=>if n=0 then [] else(((n-1)%2:Nat):Int)::NT f ((n-1)/2)
def fI (n:Nat):AH:=NT n n
theorem aFk: ∀(f g n:Nat),n<=f->n<=g->NT f n=NT g n
 |0,0,n,_,_=>rfl
 |0,g+1,n,h,_=>by
  have:n=0:=G
  simp[NT,this]
 |f+1,0,n,_,h=>by
  have:n=0:=G
  simp[NT,this]
 |f+1,g+1,n,h1,h2=>by
  simp only[NT];by_cases z:n=0
  ·rw[cz z,cz z]
  rw[bq z,bq z,aFk f g _ G G]
theorem YV:fI 0=[]:=rfl
theorem IU {n:Nat} (h:0<n):fI n=(((n-1)%2:Nat):Int)::fI ((n-1)/2):=by
 obtain⟨m,rfl⟩: ∃m,n=m+1:=⟨n-1,G⟩;unfold fI;rw[NT,bq G];congr 1;exact aFk _ _ _ G (dn _)
theorem aCe: ∀(m n:Nat),n<=m-> ∀x∈fI n,0<=x/\x<=1
 |0,n,h=>by
  have:n=0:=G
  subst this;intro x a;cases a
 | m+1,n,h=>by
  rcases fe n with z|z
  ·subst z;intro x a;cases a
  rw [IU z];intro x a;rcases il.1 a with rfl|a
  ·omega
  exact aCe m _ G x a
theorem IV: ∀(m n:Nat),n<=m->(fI n).length<=n
 |0,n,h=>by
  have:n=0:=G
  subst this;exact dn _
 | m+1,n,h=>by
  rcases fe n with z|z
  ·subst z;exact dn _
  rw [IU z,dh];have:=IV m ((n-1)/2) G;omega
def dR:Nat->AH->AH
 |n,[]=>fI n
 |n,c::b=>if c=0 then dR (n+1) b else fI n++((c+1)::dR 0 b)
theorem uI: ∀(b:AH) (n:Nat),(dR n b).length<=n+b.length
 |[],n=>by
  have:=IV n n (dn _);simp only[dR,iw];omega
 | c::b,n=>by
  simp only[dR];split
  ·have:=uI b (n+1);simp only[dh];omega
  have:=uI b 0;have:=IV n n (dn _);rw[aa,dh,dh];omega
theorem PW: ∀(b:AH) (n:Nat),aI b-> ∀x∈dR n b,0<=x/\x<=256
 |[],n,_=>λx a=>by have:=aCe n n (dn _) x a;omega
 | c::b,n,h=>by
  have hc:=h c cD;have hb:aI b:=λx a=>h x (fw _ a);intro x a;simp only[dR] at a;split at a
  ·exact PW b _ hb x a
  rcases ek.1 a with a|a
  ·have:=aCe n n (dn _) x a;omega
  rcases il.1 a with rfl|a
  ·omega
  exact PW b _ hb x a
def bkL (most:Int):AH->AH->Int->Option (AH)
 |[],out,_=>some out
 |x::l,out,p=>if x<0\/257<=x then none else
  if 2<=x then(if most<out.length+1 then none else bkL most l (out++[x-1]) 1)
  else if most<p\/most-out.length<(x+1)*p then none else bkL most l (out++List.replicate ((x+1)*p).toNat 0) (p*2)
theorem aEc (most:Int) (t:AH): ∀(m n:Nat),n<=m-> ∀(out:AH) (p:Nat),0<p->(out.length:Int)+n*p<=most->
  ∃p':Nat,0<p'/\bkL most (fI n++t) out p=bkL most t (out++List.replicate (n*p) 0) p'
 |0,n,h=>by
  intro out p hp _;have:n=0:=G
  subst this;exact⟨p,hp,by simp[YV]⟩
 | m+1,n,h=>by
  intro out p hp r;rcases fe n with z|z
  ·subst z;exact⟨p,hp,by simp[YV]⟩
  rw [IU z,je];have d:n=((n-1)%2+1)+2*((n-1)/2):=G
  generalize q:(n-1)%2=a at d;generalize hb:(n-1)/2=b at d;have l:a<=1:=G
  have g:n*p=(a+1)*p+b*(p*2):=by rw[d,yj,Ai 2 b,Nat.mul_assoc,Ai 2 p]
  have i:(n:Int)*p=((n*p:Nat):Int):=cD
  have h1:(((a:Nat):Int)+1)*p=(((a+1)*p:Nat):Int):=cD
  have o:p<=(a+1)*p:=Ep _ G
  obtain⟨p',j,e⟩:=aEc most t m b G (out++List.replicate ((a+1)*p) 0) (p*2) G (by
   rw[aa,df];have:(b:Int)*((p*2:Nat):Int)=((b*(p*2):Nat):Int):=cD
   rw[this]
   omega)
  refine⟨p',j,?_⟩;rw[bkL,bq G,bq G,bq (by rw[h1];omega),h1,bu];have k:((p:Nat):Int)*2=((p*2:Nat):Int):=cD
  rw[k,e,dx,Fe,<-g]
theorem aEd (most:Int): ∀(b:AH) (n:Nat) (out:AH),aI b->(out.length:Int)+n+b.length<=most->bkL most (dR n b) out 1=some (out++List.replicate n 0++b)
 |[],n,out,_,h=>by
  obtain⟨p',g,e⟩:=aEc most [] n n (dn _) out 1 G (by simp only[iw] at h;omega);rw[ik,qy] at e;simp only[dR];have a:((1:Nat):Int)=1:=rfl;rw[a] at e;rw[e];simp[bkL]
 | c::b,n,out,hb,h=>by
  have hc:=hb c cD;have d:aI b:=λx i=>hb x (fw _ i);simp only[dh] at h;simp only[dR];split
  ·rename_i z;rw[aEd most b (n+1) out d G,z,zb];simp
  rename_i z;obtain⟨p',g,e⟩:=aEc most ((c+1)::dR 0 b) n n (dn _) out 1 G G;have a:((1:Nat):Int)=1:=rfl;rw[qy,a] at e;rw[e,bkL,bq G,cz G,bq (by rw[aa,df];omega),aEd most b 0 _ d (by rw[aa,aa,df,dw];omega)];rw[show c+1-1=c by omega];simp
theorem aPe {most:Int} (hb:aI b) (h:b.length<=most):bkL most (dR 0 b) [] 1=some b:=by
 have:=aEd most b 0 [] hb (by simpa using h);simpa using this
end
theorem aBk: ∀ {a b:AH},a.length=b.length->(cmpL a b<0↔ ∃d,d<a.length/\(∀e,e<d->lt a e=lt b e)/\lt a d<lt b d)
 |[],[],_=>by simp[cmpL]
 | x::a,y::b,h=>by
  have k:=aBk (a:=a) (b:=b) (by simpa using h);rw[cmpL];rcases jf x y with c|c|c
  ·rw [cz c];exact⟨λ_=>⟨0,cD,λe j=>G,c⟩,λ_=>G⟩
  ·subst c;rw[bq G,bq G,k];constructor
   ·rintro ⟨d,h1,i,g⟩;refine⟨d+1,by simpa using h1,λe j=> ?_,g⟩;cases e with
    |zero=>rfl
    |succ e=>exact i e G
   rintro ⟨d,h1,i,g⟩;cases d with
   |zero=>exact absurd g (by simp[lt])
   |succ d=>exact⟨d,by simpa using h1,λe j=>i (e+1) G,g⟩
  rw [bq G,cz c];refine⟨λh=>G,?_⟩;rintro⟨d,h1,i,g⟩;cases d with
  |zero=>have:x<y:=g;omega
  |succ d=>have:x=y:=i 0 G;omega
section
variable {s:AH}
def rot (s:AH) (r d:Nat):Int:=om s (r+d)
def lN (s:AH) (r:Int):AH:=s.drop r.toNat++s.take r.toNat
theorem qP (s:AH) (r:Int):(lN s r).length=s.length:=by unfold lN;rw[aa,az,ax];omega
theorem pY {r d:Nat} (b:r<=s.length) (a:d<s.length):lt (lN s r) d=rot s r d:=by
 unfold lN lt rot om;rw[bu];rcases gm (r+d) s.length with g|g
 ·rw[af,jh (by rw[az];omega),ui,lm g,<-af]
 rw[af,ji (by rw[az];omega),az,qx G,show(r+d)%s.length=d-(s.length-r) by rw[zw g,lm G];omega,<-af]
theorem aCr (r:Nat):Per (rot s r) s.length:=λd=>by
 unfold rot;rw[<-ow];exact qE s _
theorem yM (r:Nat):rot s (r%s.length)=rot s r:=by
 funext d;unfold rot om;rw[Nat.mod_add_mod]
theorem aGj {r q:Nat} (hn:0<s.length) (h: ∀d,d<s.length->rot s r d=rot s q d):rot s r=rot s q:=by
 funext d;rw[<-(aCr r).mod d,<-(aCr q).mod d];exact h _ (yh _ hn)
theorem bAy {r q:Nat} (j:r<=s.length) (i:q<=s.length):cmpL (lN s r) (lN s q)<0↔Lt (rot s r) (rot s q):=by
 rw[aBk (by rw[qP,qP]),qP];constructor
 ·rintro ⟨d,h1,b,a⟩;refine⟨d,λe h=> ?_,?_⟩
  ·rw[<-pY j G,<-pY i G];exact b e h
  rw[<-pY j h1,<-pY i h1];exact a
 rintro ⟨d,b,a⟩;rcases gm d s.length with g|g
 ·refine ⟨d,g,λe h=> ?_,?_⟩
  ·rw[pY j G,pY i G];exact b e h
  rw[pY j g,pY i g];exact a
 exfalso;rcases fe s.length with z|z
 ·have: ∀r d,rot s r d=0:=λr d=>by
   unfold rot om;rw[di z];rfl
  rw[this,this] at a;omega
 have:=aGj z λe h=>b e G;rw[this] at a;omega
structure FL (s:AH) (b:Nat):Prop where
 lt:b<s.length
 le: ∀r,r<s.length-> ¬Lt (rot s r) (rot s b)
 first: ∀r,r<b->Lt (rot s b) (rot s r)
theorem FL.any {b:Nat} (h:FL s b) (r:Nat): ¬Lt (rot s r) (rot s b):=by
 rw[<-yM r];exact h.le _ (yh _ (by have:=h.lt;omega))
theorem FL.one {b c:Nat} (h:FL s b) (g:FL s c):b=c:=by
 rcases yg b c with a|a|a
 ·exact absurd (g.first b a) (h.any c)
 ·exact a
 exact absurd (h.first c a) (g.any b)
def jW (s:AH):Nat->Nat
 |0=>0
 |r+1=>if cmpL (lN s r) (lN s (jW s r))<0 then r else jW s r
theorem aHv: ∀n:Nat,0<n->n<=s.length->jW s n<n/\(∀r,r<n-> ¬Lt (rot s r) (rot s (jW s n)))/\ ∀r,r<jW s n->Lt (rot s (jW s n)) (rot s r)
 | 1,_,h=>by
  have e:jW s 1=0:=by
   rw[jW,jW];split<;>rfl
  rw[e];exact⟨G,λr b=>by obtain rfl:r=0:=G;exact λh=>h.asymm h,λr b=>G⟩
 | n +2,_,h=>by
  have d:=aHv (n+1) G G;rw[jW];split
  ·rename_i c;rw[bAy G G] at c;refine⟨G,λr b=> ?_,λr b=> ?_⟩
   ·rcases gm r (n+1) with g|g
    ·exact λci=>d.2.1 r g (ci.trans c)
    obtain rfl:r=n+1:=G
    exact λh=>h.asymm h
   rcases BL (rot s (n+1)) (rot s r) with a|a|a
   ·exact a
   ·exact absurd (by rw[<-funext a];exact c) (d.2.1 r b)
   exact absurd (a.trans c) (d.2.1 r b)
  rename_i c;rw[bAy G G] at c;refine⟨G,λr b=> ?_,d.2.2⟩;rcases gm r (n+1) with g|g
  ·exact d.2.1 r g
  obtain rfl:r=n+1:=G
  exact c
def oN (s:AH):Int:=jW s s.length
theorem yX (hn:0<s.length):FL s (jW s s.length):=by
 have h:=aHv (s:=s) s.length hn (dn _);exact⟨h.1,h.2.1,h.2.2⟩
theorem aDh (s:AH):0<=oN s/\oN s<=s.length/\(0<s.length->oN s<s.length):=by
 unfold oN;rcases fe s.length with z|z
 ·rw[z];exact⟨G,by show((0:Nat):Int)<=_;omega,λh=>G⟩
 have:=(yX z).lt;omega
structure LA (s:AH) (b:Nat) (i j k:Int):Prop where
 i0:0<=i
 j0:0<=j
 k0:0<=k
 ne:i≠j
 agr: ∀e:Nat,(e:Int)<k->rot s i.toNat e=rot s j.toNat e
 hb:(b:Int)=i\/(b:Int)=j\/(i<b/\j<b)
theorem LA.init (b:Nat):LA s b 0 1 0:=⟨G,G,G,G,λe a=>G,G⟩
variable {b:Nat} {i j k:Int}
theorem LA.swap (h:LA s b i j k):LA s b j i k:=⟨h.j0,h.i0,h.k0,h.ne.symm,λe a=>(h.agr e a).symm,by have:=h.hb;omega⟩
theorem LA.eq (h:LA s b i j k) (a:rot s i.toNat k.toNat=rot s j.toNat k.toNat):LA s b i j (k+1):=
 ⟨h.i0,h.j0,by have:=h.k0;omega,h.ne,λe d=>by
  rcases bz e k with g|g
  ·exact h.agr e g
  have:=h.k0;obtain rfl:e=k.toNat:=G
  exact a,h.hb⟩
theorem LA.out (h:LA s b i j k) (d:FL s b) (m7:rot s j.toNat k.toNat<rot s i.toNat k.toNat): ¬(i<=b/\(b:Int)<=i+k):=λhc=>by
 have i0:=h.i0;have k0:=h.k0;obtain⟨t,a⟩: ∃t:Nat,b=i.toNat+t:=⟨b-i.toNat,G⟩;refine d.any (j.toNat+t) ⟨k.toNat-t,λe g=> ?_,?_⟩
 ·have:=h.agr (t+e) G;unfold rot at this ⊢;rw[a,ow,ow];exact this.symm
 unfold rot at m7 ⊢;rw[a,ow,ow,show t+(k.toNat-t)=k.toNat by omega];exact m7
theorem LA.gt (h:LA s b i j k) (g:FL s b) (m7:rot s j.toNat k.toNat<rot s i.toNat k.toNat):(i+(k+1)≠j->LA s b (i+(k+1)) j 0)/\(i+(k+1)=j->LA s b (i+(k+1)) (j+1) 0):=by
 have l:=h.out g m7;have hb:=h.hb;have i0:=h.i0;have j0:=h.j0;have k0:=h.k0;exact⟨λd=>⟨G,j0,G,d,λe a=>G,G⟩,λa=>⟨G,G,G,G,λe a=>G,G⟩⟩
theorem LA.lt (h:LA s b i j k) (g:FL s b) (ci:rot s i.toNat k.toNat<rot s j.toNat k.toNat):(i≠j+(k+1)->LA s b i (j+(k+1)) 0)/\(i=j+(k+1)->LA s b i (j+(k+1)+1) 0):=by
 have l:=h.swap.out g ci;have hb:=h.hb;have i0:=h.i0;have j0:=h.j0;have k0:=h.k0;exact⟨λd=>⟨i0,G,G,d,λe a=>G,G⟩,λa=>⟨G,G,G,G,λe a=>G,G⟩⟩
theorem LA.same (h:LA s b i j k) (l:FL s b) (hn:(s.length:Int)<=k):min i j=b:=by
 have i0:=h.i0;have j0:=h.j0;have ci:=l.lt;have a:rot s i.toNat=rot s j.toNat:=aGj G λd u=>h.agr d G;have o:=h.ne;have no: ∀x:Nat,x<b->rot s x≠rot s b:=λx m e=>(l.first x m).not_eq λd=>by rw[e]
 rcases h.hb with e|e|⟨p,q⟩
 ·rcases bz j i with g|g
  ·exact absurd (by rw[show b=i.toNat by omega];exact a.symm) (no j.toNat G)
  omega
 ·rcases bz i j with g|g
  ·exact absurd (by rw[show b=j.toNat by omega];exact a) (no i.toNat G)
  omega
 exfalso
 have key: ∀lo hi:Nat,lo<hi->hi<b->rot s lo=rot s hi->False:=λlo hi h1 r e=>by
  refine no (lo+(b-hi)) G ?_;funext d;have:=congrFun e ((b-hi)+d);unfold rot at this ⊢;rw[ow,this];congr 1;omega
 rcases bz i j with g|g
 ·exact key i.toNat j.toNat G G a
 exact key j.toNat i.toNat G G a.symm
theorem LA.done (h:LA s b i j k) (a:FL s b) (hc: ¬(i<s.length/\j<s.length/\k<s.length)):min i j=b:=by
 have hb:=h.hb;have ci:=a.lt;have d:=h.ne;by_cases hk:(s.length:Int)<=k
 ·exact h.same a hk
 omega
theorem bAx {i k:Int} (i0:0<=i) (k0:0<=k):rd s ((i+k)%s.length)=rot s i.toNat k.toNat:=by
 have:=UQ s (i.toNat+k.toNat);rw[show((i.toNat+k.toNat:Nat):Int)=i+k by omega] at this;exact this
end
section
def Bd (u:AH) (n k:Nat):Prop:=k<n/\ ∀e,e<k->lt u e=lt u (n-k+e)
def MB (u:AH) (n:Nat) (k:Int):Prop:=0<=k/\Bd u n k.toNat/\ ∀q:Nat,Bd u n q->(q:Int)<=k
def KI (u:AH) (i:Nat) (n:Int):Prop:=0<=n/\Bd u i n.toNat/\ ∀q:Nat,Bd u i q->n<q->lt u q≠lt u i
variable {u:AH}
theorem MB.one:MB u 1 0:=⟨G,⟨G,λe a=>by simp at a⟩,λq h=>by have:=h.1;omega⟩
theorem MB.bd {n:Nat} {k:Int} (h:MB u n k):0<=k/\k<n:=⟨h.1,by have:=h.2.1.1;have:=h.1;omega⟩
theorem KI.bd {n:Nat} {k:Int} (h:KI u n k):0<=k/\k<n:=⟨h.1,by have:=h.2.1.1;have:=h.1;omega⟩
theorem KI.init {i:Nat} {n:Int} (h:MB u i n):KI u i n:=⟨h.1,h.2.1,λq a hn=>by have:=h.2.2 q a;omega⟩
theorem KI.step {i:Nat} {n m:Int} (h:KI u i n) (j:lt u n.toNat≠lt u i) (hb:MB u n.toNat m):KI u i m:=by
 obtain⟨o,⟨h1,d⟩,k⟩:=h;obtain⟨g0,⟨g1,g2⟩,g3⟩:=hb;refine⟨g0,⟨G,λe b=> ?_⟩,λq g l=> ?_⟩
 ·rw [g2 e b,d (n.toNat-m.toNat+e) G];congr 1;omega
 rcases yg q n.toNat with a|a|a
 ·have:Bd u n.toNat q:=⟨a,λe b=>by
   rw[g.2 e b,d (n.toNat-q+e) G];congr 1
   omega⟩
  have:=g3 q this;omega
 ·subst a;exact j
 exact k q g G
theorem KI.hit {i:Nat} {n:Int} (h:KI u i n) (j:lt u n.toNat=lt u i):MB u (i+1) (n+1):=by
 obtain⟨k,⟨h1,d⟩,g⟩:=h;refine⟨G,⟨G,λe hE=> ?_⟩,λq b=> ?_⟩
 ·rcases gm e n.toNat with a|a
  ·rw[d e a];congr 1;omega
  obtain rfl:e=n.toNat:=G
  rw[j];congr 1;omega
 rcases q with _|q
 ·omega
 have hb:Bd u i q:=⟨by have:=b.1;omega,λe hE=>by rw[b.2 e G];congr 1;omega⟩;have hl:=b.2 q G;have:=b.1;rw[show i+1-(q+1)+q=i by omega] at hl;rcases bz n q with a|a
 ·exact absurd hl (g q hb a)
 omega
theorem KI.miss {i:Nat} {n:Int} (h:KI u i n) (hn:n<=0) (g:lt u n.toNat≠lt u i):MB u (i+1) n:=by
 obtain⟨j,⟨h1,k⟩,d⟩:=h;obtain rfl:n=0:=G
 refine⟨G,⟨G,λe hE=>by simp at hE⟩,λq b=> ?_⟩;rcases q with _|q
 ·omega
 have hb:Bd u i q:=⟨by have:=b.1;omega,λe hE=>by rw[b.2 e G];congr 1;omega⟩;have hl:=b.2 q G;have:=b.1;rw[show i+1-(q+1)+q=i by omega] at hl;rcases fe q with a|a
 ·subst a;exact absurd hl g
 exact absurd hl (d q hb G)
theorem aTg {n k:Nat} (hn:n=u.length) (hk:k<n):Bd u n k↔XH u (n-k):=by
 subst hn;rw[UK];constructor
 ·intro h i hi;have:=h.2 i G;unfold lt at this;rw[this];congr 1;omega
 intro h;refine⟨hk,λe a=> ?_⟩;have:=h e G;unfold lt;rw[<-this];congr 1;omega
theorem MB.least {k:Int} (hn:0<u.length) (h:MB u u.length k):(u.length:Int)-k=lp u:=by
 obtain⟨r,e,r1,r2,hp,b⟩:=QM hn;obtain⟨k0,hb,i8⟩:=h;have g:=hb.1;have h1:=i8 (u.length-r) ((aTg rfl G).2 (by rw[show u.length-(u.length-r)=r by omega];exact hp));have d:=(aTg rfl hb.1).1 hb;rcases gm (u.length-k.toNat) r with a|a
 ·exact absurd d (b _ G a)
 omega
theorem mH: ∀a b:AH,cmpL b a= -cmpL a b
 |[],[]=>rfl
 |[],_::_=>rfl
 |_::_,[]=>rfl
 |x::a,y::b=>by
  rw[cmpL,cmpL,mH a b];split<;>split<;>omega
theorem cmpL_eq: ∀a b:AH,cmpL a b=0↔a=b
 |[],[]=>by simp[cmpL]
 |[],_::_=>by simp[cmpL]
 |_::_,[]=>by simp[cmpL]
 | x::a,y::b=>by
  have d:=cmpL_eq a b;rw[cmpL];split
  ·simp;omega
  split
  ·simp;omega
  rw[d];simp;omega
theorem QS: ∀a b c:AH,cmpL a b<=0->cmpL b c<=0->cmpL a c<=0
 |[],[],_,_,h=>h
 |[],_::_,[],_,h=>by simp[cmpL] at h
 |[],_::_,_::_,_,_=>by simp[cmpL]
 |_::_,[],_,h,_=>by simp[cmpL] at h
 |_::_,_::_,[],_,h=>by simp[cmpL] at h
 | x ::a,y::b,z::c,h1,h2=>by
  have d:=QS a b c;rw[cmpL] at h1 h2 ⊢;split at h1
  ·split at h2
   ·rw[cz G];omega
   split at h2
   ·omega
   rw[cz G];omega
  split at h1
  ·omega
  split at h2
  ·rw[cz G];omega
  split at h2
  ·omega
  rw[bq G,bq G];exact d h1 h2
abbrev RT:=AH × Int
def lF (a b:RT):Int:=if cmpL a.1 b.1≠0 then cmpL a.1 b.1 else jO a.2 b.2
theorem tV (a b:RT):lF b a= -lF a b:=by
 unfold lF;rw[mH a.1 b.1,aXt a.2 b.2];split<;>split<;>omega
theorem aDk (a b:RT):lF a b=0↔a=b:=by
 unfold lF;have h1:=cmpL_eq a.1 b.1;have d:= @mI a.2 b.2;rw[Prod.ext_iff];split
 ·rename_i c;constructor
  ·intro h;exact absurd h c
  intro h;exact absurd (h1.2 h.1) c
 rename_i c;rw[d];constructor
 ·intro h;exact⟨h1.1 G,h⟩
 intro h;exact h.2
theorem bNj {a b:Int}:jO a b<=0↔a<=b:=by unfold jO;split<;>(try split)<;>omega
theorem vS {a b:RT}:lF a b<=0↔cmpL a.1 b.1<0\/a.1=b.1/\a.2<=b.2:=by
 unfold lF;have h1:=cmpL_eq a.1 b.1;have d:= @bNj a.2 b.2;split
 ·rename_i c;constructor
  ·intro h;left;omega
  rintro (h|h)
  ·omega
  exact absurd (h1.2 h.1) c
 rename_i c;rw[d];constructor
 ·intro h;exact .inr ⟨h1.1 G,h⟩
 rintro (h|h)
 ·omega
 exact h.2
theorem JZ (a b c:RT) (h1:lF a b<=0) (d:lF b c<=0):lF a c<=0:=by
 rw[vS] at h1 d ⊢;have h:=QS a.1 b.1 c.1;have j:=cmpL_eq a.1 b.1;have k:=cmpL_eq b.1 c.1;have i:=cmpL_eq a.1 c.1;rcases h1 with h1|h1
 ·rcases d with d|d
  ·have a1:=h G G;rcases zt a1 with g|g
   ·exact .inl g
   have e:=i.1 g;rw[e,mH b.1 c.1] at h1;omega
  exact .inl (by rw[<-d.1];exact h1)
 rcases d with d|d
 ·exact .inl (by rw[h1.1];exact d)
 exact .inr ⟨h1.1.trans d.1,G⟩
theorem PM {l m:List RT} (hp:l.Perm m) (hl:l.Pairwise λa b=>lF a b<=0) (e:m.Pairwise λa b=>lF a b<=0):l=m:=
 hp.eq_of_pairwise (λa b _ _ h1 d=>(aDk a b).1 (by rw[tV a b] at d;omega)) hl e
def lw (u:AH):AH:=lN u (oN u)
def jX (c:AH):AH:=c.take (rl c).toNat
def gP (c:AH):Int:=(c.length:Int)/rl c
def lT (u:AH):RT:=(jX (lw u),gP (lw u))
def dL (ws:AD):List RT:=(ws.filter λw=>decide (0<w.length)).map lT
def fQ (ws:AD):List RT:=(dL ws).mergeSort λa b=>decide (lF a b<=0)
def kL (r:RT):AH:=rep r.1 r.2
def canon (ws:AD):AD:=(fQ ws).map kL
theorem jI (ws:AD):(fQ ws).Perm (dL ws):=List.mergeSort_perm _ _
theorem qB (ws:AD):(fQ ws).Pairwise λa b=>lF a b<=0:=by
 have:=List.pairwise_mergeSort (le:=λa b:RT=>decide (lF a b<=0)) (λa b c h1 d=>nz (JZ a b c (wu h1) (wu d))) (λa b=>by
  rw[Bn,wo,wo,tV a b];omega) (dL ws)
 exact this.imp λh=>wu h
theorem EA {ws:AD} {l:List RT} (hp:l.Perm (dL ws)) (hs:l.Pairwise λa b=>lF a b<=0):l=fQ ws:=PM (hp.trans (jI ws).symm) hs (qB ws)
theorem aGp {ws xs:AD} (hp:(dL ws).Perm (dL xs)):fQ ws=fQ xs:=EA ((jI ws).trans hp) (qB ws)
theorem lD (u:AH):(lw u).length=u.length:=qP u _
theorem bSw:lw []=[]:=rfl
theorem bAw {r:Nat} (b:r<=u.length) (hn:0<u.length):om (lN u r)=rot u r:=by
 have h1:=qE (lN u r);rw[qP] at h1;funext d;rw[<-h1.mod d,<-(aCr (s:=u) r).mod d];have a:=yh d hn;have:=pY b a;rw[nU (by rw[qP];exact a)];rw[show((r:Nat):Int)=(r:Int) from rfl] at*;exact this
theorem aCp {r q:Nat} (a:r<=u.length) (hn:0<u.length):rot (lN u r) q=rot u (r+q):=by
 funext d;show om (lN u r) (q+d)=om u (r+q+d);rw[bAw a hn];show om u (r+(q+d))=_;rw[ow]
theorem bMa (u:AH):oN (lw u)=0:=by
 rcases fe u.length with z|z
 ·rw[di z];rfl
 have hl:=lD u;have a:=yX z;have hb:jW u u.length<=u.length:=by have:=a.lt;omega
 have e:lw u=lN u (jW u u.length:Nat):=rfl
 have f2:FL (lw u) 0:=⟨G,λr b=>by
  rw[e,aCp hb z,aCp hb z]
  exact a.any _,λr b=>G⟩
 have f3:=yX (s:=lw u) G;have:=f3.one f2;unfold oN;omega
theorem aLi (u:AH):lN u 0=u:=by unfold lN;simp
theorem bSm {a b:AH} (hl:a.length=b.length) (h:om a=om b):a=b:=by
 refine bP hl λj d h1=> ?_;have:=congrFun h j.toNat;rw[nU G,nU G] at this;exact this
theorem bRt {c:AH} (h:0<c.length):(c.length:Int)%rl c=0:=by
 obtain⟨r,e,r1,r2,_,_⟩:=QM h;unfold rl;split
 ·exact Int.emod_self
 omega
theorem AQ {c:AH} (h:0<c.length):((jX c).length:Int)=rl c:=by
 have:=nT h;unfold jX;rw[ax];omega
theorem YZ {c:AH} (h:0<c.length):gP c*rl c=c.length:=Int.ediv_mul_cancel (Int.dvd_of_emod_eq_zero (bRt h))
theorem qQ {c:AH} (h:0<c.length):0<gP c:=by
 have h1:=YZ h;have b:=nT h;rcases bz 0 (gP c) with a|a
 ·exact a
 have:=Int.mul_nonneg_of_nonpos_of_nonpos a (show -(rl c)<=0 by omega);rw[Int.mul_neg] at this;omega
theorem bKi {c:AH} (h:0<c.length):om (jX c)=om c:=by
 obtain⟨r,e,r1,r2,a,_⟩:=QC h;funext i;rw[a i];unfold jX;rw[e];rfl
theorem vI {c:AH} (h:0<c.length):rep (jX c) (gP c)=c:=by
 have a:=AQ h;have hp:=nT h;have b:=qQ h
 have hl:(rep (jX c) (gP c)).length=c.length:=by
  rw[lU];have h1:=YZ h
  have:((gP c).toNat*(jX c).length:Int)=c.length:=by
   rw[ky G,a,h1]
  exact_mod_cast this
 refine bSm hl ?_;rw[show gP c=((gP c).toNat:Int) by omega];funext i;rw[aNc G G,bKi h]
theorem MC {w:AH} (h:0<w.length):kL (lT w)=lw w:=vI (by rw[lD];exact h)
theorem aVp {ws:AD} {r:RT} (h:r∈dL ws): ∃w∈ws,0<w.length/\r=lT w:=by
 unfold dL at h;obtain⟨w,b,e⟩:=gq.1 h;obtain⟨h1,a⟩:=qb.1 b;exact⟨w,h1,wu a,e.symm⟩
theorem rD {ws:AD} {r:RT} (h:r∈fQ ws): ∃w∈ws,0<w.length/\r=lT w:=aVp ((jI ws).subset h)
theorem aAj {ws:AD} {c:AH} (h:c∈canon ws): ∃w∈ws,0<w.length/\c=lw w:=by
 obtain⟨r,b,rfl⟩:=gq.1 h;obtain⟨w,h1,a,rfl⟩:=rD b;exact⟨w,h1,a,MC a⟩
theorem kY (a b:AD):dL (a++b)=dL a++dL b:=by unfold dL;rw[uq,jc]
theorem aBm (ws:AD):(canon ws).length=(dL ws).length:=by
 unfold canon;rw[bn,(jI ws).length_eq]
end
section
variable {l V b C U:AH} {i v x x0 s t:Int}
def beL:Nat->Int->AH
 |0,_=>[]
 |k+1,N=>beL k (N/256)++[N%256]
theorem mQ: ∀(k:Nat) (N:Int),(beL k N).length=k
 |0,_=>rfl
 |k+1,N=>by rw[beL,aa,mQ k,dw]
theorem EX: ∀(k:Nat) (N:Int),aI (beL k N)
 |0,_=>λx h=>by cases h
 |k+1,N=>λx h=>by
  rw[beL] at h;rcases ek.1 h with h|h
  ·exact EX k _ x h
  rw[gz.1 h];omega
theorem bId (k:Nat) (M d:Int) (h:0<=d/\d<256):beL (k+1) (M*256+d)=beL k M++[d]:=by
 rw[beL,show(M*256+d)/256=M by omega,show(M*256+d)%256=d by omega]
theorem aYg (k:Nat) (N:Int):beL (k+1) (N*256)=beL k N++[0]:=by
 have:=bId k N 0 G;rwa[yw] at this
def bIl:AH->Int->AH
 |[],_=>[]
 |d::l,x=>(x+d)%256::bIl l ((x+d)/256)
def LU (l:AH) (x:Int):AH:=(bIl l.reverse x).reverse
theorem aBw (l:AH) (d x:Int):LU (l++[d]) x=LU l ((x+d)/256)++[(x+d)%256]:=by
 unfold LU;rw[List.reverse_append,List.reverse_singleton,ou,bIl,List.reverse_cons]
theorem aBy: ∀l:AH,aI l->bIl l 0=l
 |[],_=>rfl
 |d::l,h=>by
  have a:=h d cD;rw[bIl,Int.zero_add,kg a.1 a.2,Int.ediv_eq_zero_of_lt a.1 a.2,aBy l λx b=>h x (fw _ b)]
theorem aYp (h:aI l):LU l 0=l:=by
 unfold LU;rw[aBy _ λx a=>h x (yu.1 a),Gn]
theorem QV: ∀(k:Nat) (N x:Int),LU (beL k N) x=beL k (N+x)
 |0,_,_=>rfl
 |k+1,N,x=>by
  rw[beL,aBw,QV k,beL,show N/256+(x+N%256)/256=(N+x)/256 by omega,show(x+N%256)%256=(N+x)%256 by omega]
theorem aTr (i0:0<=i) (hi:i<V.length):upd V i v=V.take i.toNat++v::V.drop (i+1).toNat:=by
 unfold upd;rw[Ef,cz G,show(i+1).toNat=i.toNat+1 by omega]
def aKt (b:AH) (x0:Int) (V:AH) (i x:Int):Prop:=V.length=b.length/\aI V/\LU (V.take (i+1).toNat) x++V.drop (i+1).toNat=LU b x0
theorem aBx (hb:aI b) (hi:i=b.length-1):aKt b x b i x:=by
 refine⟨rfl,hb,?_⟩;rw[bg G,vv G,ik]
theorem aKt.step {d y:Int} (h:aKt b x0 V i x) (i0:0<=i) (hi:i<b.length) (j:d=(x+rd V i)%256) (k:y=(x+rd V i)/256):aKt b x0 (upd V i d) (i-1) y:=by
 obtain⟨hl,a,g⟩:=h;have hs:=aTr (V:=V) (v:=d) i0 G
 have h1:(upd V i d).take i.toNat=V.take i.toNat:=by
  unfold upd;rw[List.take_set_of_le (dn _)]
 have e:(upd V i d).drop i.toNat=d::V.drop (i+1).toNat:=by
  rw[hs,List.drop_append_of_le_length (by rw[ax];omega),vv (by rw[ax];omega),ig]
 refine⟨by rw[aW];exact hl,λc hc=> ?_,?_⟩
 ·rw [hs] at hc;rcases ek.1 hc with hc|hc
  ·exact a c (ku hc)
  rcases il.1 hc with rfl|hc
  ·omega
  exact a c (lu hc)
 rw [Int.sub_add_cancel,h1,e,<-g,dP i0 G,aBw,j,k,dx];rfl
theorem aKt.stop (h:aKt b x0 V i x) (a:x=0\/i<0):V=LU b x0:=by
 obtain⟨hl,d,e⟩:=h;rw[<-e];rcases a with rfl|a
 ·rw[aYp (λc hc=>d c (ku hc)),ed]
 rw [show(i+1).toNat=0 by omega];rfl
theorem bNu: ∀(k:Nat) (N:Int),beL (k+4) N=beL k (N/4294967296)++[N%4294967296/16777216,N%16777216/65536,N%65536/256,N%256]:=λk N=>by
 rw[beL,beL,beL,beL,dx,dx,dx];rw[show N/256/256/256/256=N/4294967296 by omega,show N/256/256/256%256=N%4294967296/16777216 by omega,show N/256/256%256=N%16777216/65536 by omega,show N/256%256=N%65536/256 by omega];rfl
theorem QE {k:Int} (a:0<=i) (h:i<k):rd (l.take k.toNat) i=rd l i:=by
 unfold rd;rw[af,af,qx G]
def bL (l:AH):Int:=l.sum
theorem bAf:bL []=0:=rfl
theorem xE (x:Int) (l:AH):bL (x::l)=x+bL l:=uy
theorem NV (x y:AH):bL (x++y)=bL x+bL y:=Dl
theorem aTz (l:AH) (x:Int):bL (l++[x])=bL l+x:=by rw[NV];simp[bL]
theorem kW (a:0<=i) (h:i<l.length):bL (l.take (i+1).toNat)=bL (l.take i.toNat)+rd l i:=by rw[dP a h,aTz]
theorem aQf {l:AH} (h: ∀c∈l,1<=c):(l.length:Int)<=bL l:=by
 induction l with
 |nil=>simp[bL]
 |cons x l ih=>
  have:=ih λc hc=>h c (fw _ hc);have:=h x cD;rw[xE,dh];omega
theorem vJ {l:AH} (h: ∀c∈l,1<=c):0<=bL l:=by have:=aQf h;omega
theorem GH (a:0<=i) (h:i<l.length):bL l=bL (l.take i.toNat)+rd l i+bL (l.drop (i+1).toNat):=by
 conv=>lhs;rw[<-ed i.toNat l,jN a h]
 rw[NV,xE];omega
theorem aZz {l:AH} (h: ∀c∈l,1<=c) (k:Nat): ∀c∈l.take k,1<=c:=λc hc=>h c (ku hc)
theorem bGx {l:AH} (h: ∀c∈l,1<=c) (k:Nat): ∀c∈l.drop k,1<=c:=λc hc=>h c (lu hc)
theorem tJ {l:AH} (hp: ∀c∈l,1<=c) (a:0<=i) (h:i<l.length):0<=bL (l.take i.toNat)/\1<=rd l i/\bL (l.take i.toNat)+rd l i<=bL l:=by
 have h1:=GH a h;have b:=vJ (bGx hp (i+1).toNat);have d:=vJ (aZz hp i.toNat);have e:=hp _ (bM a h);omega
theorem aFq (a:0<=i) (h:i<l.length):bL (upd l i v)=bL l-rd l i+v:=by
 have b:=GH (l:=upd l i v) a (by rw[aW];exact h);have g:=GH a h;rw[fZ a h] at b
 have d:(upd l i v).take i.toNat=l.take i.toNat:=by
  unfold upd;rw[List.take_set_of_le (dn _)]
 have e:(upd l i v).drop (i+1).toNat=l.drop (i+1).toNat:=by
  unfold upd;rw[List.drop_set_of_lt G]
 rw[d,e] at b;omega
theorem ZE {l:AH} (h: ∀c∈l,1<=c):2*bL (l.map λn=>(n+1)/2)<=bL l+l.length:=by
 induction l with
 |nil=>simp[bL]
 |cons x l ih=>
  have:=ih λc hc=>h c (fw _ hc);rw[jg,xE,xE,dh];omega
def mD (C:AH):Prop:=C.length=258/\(∀c∈C,1<=c)/\bL C<=65504
def FC:AH:=List.replicate 258 1
theorem SK (n:Nat) (x:Int):bL (List.replicate n x)=n*x:=by
 induction n with
 |zero=>simp[bL]
 |succ n ih=>rw[Gt,xE,ih];rw[Int.natCast_succ,Gg];omega
theorem aDg:mD FC:=⟨df,λc hc=>by rw[Am hc];omega,by unfold FC;rw[SK];omega⟩
def sP (C:AH):AH:=C.map λn=>(n+1)/2
def nS (C:AH) (s:Int):AH:=if 65504<bL (upd C s (rd C s+32)) then sP (upd C s (rd C s+32)) else upd C s (rd C s+32)
theorem aPy {C:AH} {s v:Int} (h: ∀c∈C,1<=c) (a:1<=v): ∀c∈upd C s v,1<=c:=λc hc=>by
 unfold upd at hc;rcases List.mem_or_eq_of_mem_set hc with h1|h1
 ·exact h c h1
 omega
theorem bKa (h:mD C) (b:0<=s) (hs:s<258):mD (nS C s):=by
 obtain⟨hl,hp,e⟩:=h;have h1:=hp _ (bM (L:=C) (k:=s) b G);have hu:=aFq (l:=C) (i:=s) (v:=rd C s+32) b G;have a:=aPy (C:=C) (s:=s) (v:=rd C s+32) hp G;unfold nS;split
 ·refine ⟨by unfold sP;rw[bn,aW];exact hl,λc hc=> ?_,?_⟩
  ·obtain ⟨x,d,rfl⟩:=gq.1 hc;have:=a x d;omega
  have:=ZE a;rw[aW,hl] at this;unfold sP;omega
 exact⟨by rw[aW];exact hl,a,G⟩
theorem bCd (a:0<=i) (h:i<C.length):rd (sP C) i=(rd C i+1)/2:=by
 unfold sP;rw[fH a (by rw[bn];exact h),fH a h,yt]
theorem MI {n:Nat} (a:0<=i) (h:i<n):rd (List.replicate n x) i=x:=by
 rw[fH a (by rw[df];exact h),El]
theorem bSv (hl:V.length=258) (h: ∀j:Int,0<=j->j<258->rd V j=1):V=FC:=
 bP (by rw[hl];exact df.symm) λj j0 a=>by
  unfold FC;rw[h j j0 G,MI j0 G]
def XI (C:AH):Prop:=C.length=258/\(∀c∈C,1<=c)/\bL C<=65536
theorem mD.le (h:mD C):XI C:=⟨h.1,h.2.1,by have:=h.2.2;omega⟩
theorem XI.part (h:XI C) (a:0<=i) (hi:i<258):(0<=bL (C.take i.toNat)/\bL (C.take i.toNat)<=65536)/\(1<=rd C i/\rd C i<=65536)/\bL (C.take i.toNat)+rd C i<=65536:=by
 have:=tJ (i:=i) h.2.1 a (by rw[h.1];omega);have:=h.2.2;omega
theorem mD.up (h:mD C) (a:0<=s) (hs:s<258):XI (upd C s (rd C s+32))/\bL (upd C s (rd C s+32))=bL C+32:=by
 have hp:=h.le.part a hs;have hu:=aFq (l:=C) (i:=s) (v:=rd C s+32) a (by rw[h.1];omega);have:=h.2.2;exact⟨⟨by rw[aW];exact h.1,aPy h.2.1 G,G⟩,G⟩
theorem XI.half (h:XI C):mD (sP C):=by
 have:=ZE h.2.1;rw[h.1] at this;have hl:=h.2.2;refine⟨by unfold sP;rw[bn];exact h.1,λc hc=> ?_,by unfold sP;omega⟩;obtain⟨x,a,rfl⟩:=gq.1 hc;have:=h.2.1 x a;omega
structure OZ (U V:AH) (i:Int) (t:Int):Prop where
 len:V.length=258
 done: ∀j:Int,0<=j->j<i->rd V j=rd (sP U) j
 left: ∀j:Int,i<=j->j<258->rd V j=rd U j
 sum:t=bL ((sP U).take i.toNat)
theorem VL (h:U.length=258):OZ U U 0 0:=⟨h,λj h1 a=>G,λj _ _=>rfl,rfl⟩
theorem OZ.step (h:OZ U V i t) (d:U.length=258) (a:0<=i) (hi:i<258):OZ U (upd V i ((rd V i+1)/2)) (i+1) (t+rd (upd V i ((rd V i+1)/2)) i):=by
 have hl:=h.len;have e:(rd V i+1)/2=rd (sP U) i:=by rw[h.left i G hi,bCd a G]
 refine⟨by rw[aW];exact hl,λj j0 b=> ?_,λj j0 b=> ?_,?_⟩
 ·rw [iQ a j0 G];by_cases c:j=i
  ·rw[cz c,e,c]
  rw[bq c];exact h.done j j0 G
 ·rw[iQ a G G,bq G];exact h.left j G b
 rw[kW a (by unfold sP;rw[bn];omega),<-h.sum,fZ a G,e]
theorem OZ.done_all (h:OZ U V 258 t) (b:U.length=258):V=sP U/\t=bL (sP U):=by
 have a:(sP U).length=258:=by unfold sP;rw[bn];exact b
 refine⟨bP (by rw[h.len,a]) λj j0 d=>h.done j j0 (by have:=h.len;omega),?_⟩;rw[h.sum,bg (by rw[a];decide)]
def shN (R:Int):Nat:=if 16777216<=R then 0 else if 65536<=R then 1 else if 256<=R then 2 else 3
theorem AA (R:Int):shN R<=3:=by unfold shN;split<;>(try split)<;>(try split)<;>omega
theorem xH {R:Int} {j:Nat} (h1:1<=R) (a:j<=shN R) (h:R*256^j<16777216):j+1<=shN R:=by
 have:=AA R;rcases(by omega:j=0\/j=1\/j=2\/j=3) with rfl|rfl|rfl|rfl<;>unfold shN at* <;>(split<;>(try split)<;>(try split)<;>omega)
end
section
variable {R low size total o x:Int} {j:Nat} {b:AH}
theorem DL (h1:1<=R) (a:j<=shN R) (h:16777216<=R*256^j):j=shN R:=by
 have:=AA R;rcases(by omega:j=0\/j=1\/j=2\/j=3) with rfl|rfl|rfl|rfl<;>unfold shN at* <;>(split at a<;>(try split at a)<;>(try split at a)<;>split<;>(try split)<;>(try split)<;>omega)
theorem xJ (h:1<=R):1<=R*256^j:=by
 have h1:(0:Int)<256^j:=Ag G;have:=Int.mul_pos (show 0<R by omega) h1;omega
theorem aUm (h:256<=R):shN R<=2:=by unfold shN;split<;>(try split)<;>(try split)<;>omega
theorem aUl (h:256<=R) (hl:R<4294967296):16777216<=R*256^shN R/\R*256^shN R<4294967296:=by
 unfold shN;split
 ·omega
 split
 ·omega
 omega
structure CdS where
 N:Int
 R:Int
 k:Nat
def cd0:CdS:=⟨0,4294967295,0⟩
def lW (s:CdS) (low size total:Int):CdS:=⟨(s.N+s.R/total*low)*256^shN (s.R/total*size),s.R/total*size*256^shN (s.R/total*size),s.k+shN (s.R/total*size)⟩
def aEv (s:CdS):Prop:=16777216<=s.R/\s.R<4294967296/\0<=s.N/\s.N+s.R<=256^(s.k+4)
theorem bTt:aEv cd0:=by unfold aEv cd0;dsimp only;omega
def rH (low size total:Int):Prop:=0<=low/\1<=size/\low+size<=total/\total<=65536
theorem mX (h:rH low size total) (hR:16777216<=R/\R<4294967296):
  256<=R/total/\R/total<=R/\0<=R/total*low/\R/total<=R/total*size/\R/total*low+R/total*size<=R:=by
 obtain⟨a,h1,b,e⟩:=h;have d:256<=R/total:=(uo G).2 G;have g:R/total*total<=R:=Int.ediv_mul_le R G;have a1:0<=R/total*low:=yz G a;have a2:R/total*1<=R/total*size:=Gh h1 G;have a3:R/total*(low+size)<=R/total*total:=Gh b G;rw[Ec] at a3;refine⟨d,?_,a1,G,G⟩;exact Cm _ G
theorem bKw {s:CdS} (h:aEv s) (hs:rH low size total):aEv (lW s low size total)/\(lW s low size total).k<=s.k+2:=by
 obtain⟨b,r1,n0,g⟩:=h;obtain⟨f1,f2,f3,f4,f5⟩:=mX hs ⟨b,r1⟩;have a:=aUl (R:=s.R/total*size) G G;have d:=aUm (R:=s.R/total*size) G;unfold lW;generalize e:s.R/total*size=R1 at*;generalize hl:s.R/total*low=x at*;generalize shN R1=j at*;refine⟨⟨a.1,a.2,yz G (wz G),?_⟩,by dsimp only;omega⟩;show(s.N+x)*256^j+R1*256^j<=256^(s.k+j+4);rw[<-Gg,show s.k+j+4=s.k+4+j by omega,za];exact ll G (wz G)
theorem aKi (m:Nat) (M:Int):beL (m+1) (M*256/4294967296)=beL m (M/4294967296)++[M%4294967296/16777216%256]:=by
 rw[beL,show M*256/4294967296/256=M/4294967296 by omega,show M*256/4294967296%256=M%4294967296/16777216%256 by omega]
theorem bNv (m:Nat) (M x:Int) (a:x=M%4294967296):beL m (M/4294967296)++[x/16777216%256]++[x/65536%256]++[x/256%256]++[x/1%256]=beL (m+4) M:=by
 rw[bNu,show x/16777216%256=M%4294967296/16777216 by omega,show x/65536%256=M%16777216/65536 by omega,show x/256%256=M%65536/256 by omega,show x/1%256=M%256 by omega];simp
structure PpS where
 c0:AH
 c1:AH
 c2:AH
 cls:Int
 cd:CdS
def pp0:PpS:=⟨FC,FC,FC,0,cd0⟩
def gU (s:Int):Int:=if s<2 then 0 else if s<6 then 1 else 2
theorem aJx (s:Int):0<=gU s/\gU s<=2:=by unfold gU;split<;>(try split)<;>omega
def dK (o:Int) (s:PpS):AH:=if s.cls*o=0 then s.c0 else if s.cls*o=1 then s.c1 else s.c2
def XR (o:Int) (s:PpS) (C:AH) (cls:Int) (cd:CdS):PpS:=if s.cls*o=0 then⟨C,s.c1,s.c2,cls,cd⟩ else if s.cls*o=1 then⟨s.c0,C,s.c2,cls,cd⟩ else⟨s.c0,s.c1,C,cls,cd⟩
def mM (c:CdS) (C:AH) (x:Int):CdS:=lW c (bL (C.take x.toNat)) (rd C x) (bL C)
def fJ (o:Int) (s:PpS) (x:Int):PpS:=XR o s (nS (dK o s) x) (gU x) (mM s.cd (dK o s) x)
def encP (o:Int) (l:AH):PpS:=l.foldl (fJ o) pp0
theorem aBb (o:Int) (l:AH) (x:Int):encP o (l++[x])=fJ o (encP o l) x:=by unfold encP;rw[Ig];rfl
def bW (b:AH):AH:=dR 0 (dY bQ b)++[257]
def bT (b:AH) (o:Int):AH:=beL ((encP o (bW b)).cd.k+4) (encP o (bW b)).cd.N
def xB (s:PpS):Prop:=(mD s.c0/\mD s.c1/\mD s.c2)/\(0<=s.cls/\s.cls<=2)/\aEv s.cd
theorem aMv:xB pp0:=⟨⟨aDg,aDg,aDg⟩,by unfold pp0;dsimp only;omega,bTt⟩
theorem DN {s:PpS} (h:xB s):mD (dK o s):=by
 unfold dK;split
 ·exact h.1.1
 split
 ·exact h.1.2.1
 exact h.1.2.2
theorem lC {C:AH} (h:mD C) (a:0<=x) (d:x<258):rH (bL (C.take x.toNat)) (rd C x) (bL C):=by
 obtain⟨hl,hp,b⟩:=h;have:=tJ (i:=x) hp a G;exact⟨G,G,G,G⟩
theorem uJ {s:PpS} (h:xB s) (b:0<=x) (d:x<258):xB (fJ o s x)/\(fJ o s x).cd.k<=s.cd.k+2:=by
 have a:=bKa (DN (o:=o) h) b d;have hc:=bKw h.2.2 (lC (DN (o:=o) h) b d);have hb:=aJx x;unfold fJ XR;split
 ·exact⟨⟨⟨a,h.1.2.1,h.1.2.2⟩,hb,hc.1⟩,hc.2⟩
 split
 ·exact⟨⟨⟨h.1.1,a,h.1.2.2⟩,hb,hc.1⟩,hc.2⟩
 exact⟨⟨⟨h.1.1,h.1.2.1,a⟩,hb,hc.1⟩,hc.2⟩
def aPp (l:AH):Prop:= ∀x∈l,0<=x/\x<258
theorem qA (h:aI b):aPp (bW b):=λx a=>by
 unfold bW at a;rcases ek.1 a with a|a
 ·have:=PW (dY bQ b) 0 (oM h) x a;omega
 rw[gz.1 a];omega
theorem DI (b:AH):(bW b).length<=b.length+1:=by
 unfold bW;have:=uI (dY bQ b) 0;rw[jR] at this;rw[aa,dw];omega
theorem aSa {o:Int}: ∀(l:AH) (s:PpS),aPp l->xB s->xB (l.foldl (fJ o) s)/\(l.foldl (fJ o) s).cd.k<=s.cd.k+2*l.length
 |[],s,_,h=>⟨h,dn _⟩
 |x::l,s,hl,h=>by
  have a:=hl x cD;have h1:=uJ (o:=o) h a.1 a.2;have b:=aSa (o:=o) l (fJ o s x) (λy d=>hl y (fw _ d)) h1.1;rw[List.foldl_cons,dh];exact⟨b.1,G⟩
theorem zD {l:AH} (h:aPp l):xB (encP o l)/\(encP o l).cd.k<=2*l.length:=by
 have:=aSa (o:=o) l pp0 h aMv;unfold encP;have e:pp0.cd.k=0:=rfl;rw[e] at this;exact⟨this.1,G⟩
theorem qX (h:aI b):(bT b o).length<=2*b.length+6:=by
 unfold bT;rw[mQ];have:=(zD (o:=o) (qA h)).2;have:=DI b;omega
theorem lQ (b:AH) (o:Int):aI (bT b o):=EX _ _
end
section
variable {x b C:AH} {m:Nat} {low size total o y i v:Int}
def lZ (l:AH):Int:=l.foldl (λa d=>a*256+d) 0
theorem MQ (l:AH) (d:Int):lZ (l++[d])=lZ l*256+d:=by unfold lZ;rw[Ig];rfl
theorem tQ (h:m<x.length):lZ (x.take (m+1))=lZ (x.take m)*256+rd x (m:Int):=by
 have e:=dP (j:=(m:Int)) (show(0:Int)<=m by omega) (show(m:Int)<x.length by omega);rw[show((m:Int)+1).toNat=m+1 by omega,bu] at e;rw[e,MQ]
theorem aHn: ∀(k:Nat) (N:Int),0<=N->N<256^k->lZ (beL k N)=N
 |0,N,h0,h1=>by rw[rz] at h1;show(0:Int)=N;omega
 |k+1,N,h0,h1=>by
  rw[tq] at h1;rw[beL,MQ,aHn k (N/256) G (zy G h1)];omega
theorem bGv (N:Int) (m:Nat):N/256/256^m=N/256^(m+1):=by
 rw[tq,xc,Int.ediv_ediv_of_nonneg G]
theorem aKh (a:Nat): ∀(m:Nat) (N:Int),(beL (a+m) N).take a=beL a (N/256^m)
 |0,N=>by rw[rz,Int.ediv_one,qw];exact bg (by rw[mQ];exact dn _)
 |m+1,N=>by
  rw[show a+(m+1)=(a+m)+1 by omega,beL,Bb (by rw[mQ];omega),aKh a m (N/256),bGv]
theorem EI: ∀(k:Nat) (l:AH),l.length=k->aI l->0<=lZ l/\lZ l<256^k
 |0,l,h,_=>by rw[di h,rz];show(0:Int)<=0/\(0:Int)<1;omega
 | k+1,l,h,hb=>by
  have hl:(k:Int)<l.length:=G
  have e:l=l.take k++[rd l (k:Int)]:=by
   have e:=dP (j:=(k:Int)) (show(0:Int)<=k by omega) hl;rw[show((k:Int)+1).toNat=k+1 by omega,bu,bg G] at e;exact e
  have b:=EI k (l.take k) (by rw[ax];omega) (hb.take _);have a:=hb.rd (k:Int);rw[e,MQ,tq];omega
structure InC (s f:CdS):Prop where
 k:s.k<=f.k
 lo:s.N*256^(f.k-s.k)<=f.N
 hi:f.N+f.R<=(s.N+s.R)*256^(f.k-s.k)
theorem InC.refl (s:CdS):InC s s:=⟨dn _,by rw[Er,rz,wh];exact ni _,by rw[Er,rz,wh];exact ni _⟩
theorem InC.trans {a b c:CdS} (h:InC a b) (g:InC b c):InC a c:=by
 have hk:=h.k;have d:=g.k;have e:c.k-a.k=(b.k-a.k)+(c.k-b.k):=G
 have hp:(0:Int)<=256^(c.k-b.k):=wz G;refine⟨G,?_,?_⟩
 ·rw [e,za,<-qc];exact Jl (ll h.lo hp) g.lo
 rw [e,za,<-qc];exact Jl g.hi (ll h.hi hp)
theorem aRc {s:CdS} (h:aEv s) (hs:rH low size total):InC s (lW s low size total):=by
 obtain⟨a,r1,n0,d⟩:=h;obtain⟨f1,f2,f3,f4,f5⟩:=mX hs ⟨a,r1⟩;unfold lW;generalize b:s.R/total*size=R1 at*;generalize hl:s.R/total*low=x at*;generalize shN R1=j at*;have hp:(0:Int)<=256^j:=wz G;refine⟨by dsimp only;omega,?_,?_⟩
 ·show s.N*256^(s.k+j-s.k)<=(s.N+x)*256^j;rw[show s.k+j-s.k=j by omega];exact ll G hp
 show (s.N+x)*256^j+R1*256^j<=(s.N+s.R)*256^(s.k+j-s.k);rw[show s.k+j-s.k=j by omega,<-Gg];exact ll G hp
theorem uK (o:Int) (s:PpS) (x:Int):(fJ o s x).cd=mM s.cd (dK o s) x:=by unfold fJ XR;split<;>(try split)<;>rfl
theorem aSb {o:Int}: ∀(l:AH) (s:PpS),aPp l->xB s->InC s.cd (l.foldl (fJ o) s).cd
 |[],s,_,_=>InC.refl _
 |x::l,s,hl,h=>by
  have a:=hl x cD;have h1:=uJ (o:=o) h a.1 a.2;have b:=aSb (o:=o) l (fJ o s x) (λy d=>hl y (fw _ d)) h1.1;rw[List.foldl_cons];refine InC.trans ?_ b;rw[uK];exact aRc h.2.2 (lC (DN (o:=o) h) a.1 a.2)
theorem bJv {s f:CdS} (h:aEv s) (hs:rH low size total) (g:InC (lW s low size total) f) (l:0<f.R):
  s.R/total*low<=f.N/256^(f.k-s.k)-s.N/\f.N/256^(f.k-s.k)-s.N<s.R/total*(low+size):=by
 obtain⟨hk,d5,d⟩:=g;unfold lW at hk d5 d;dsimp only at hk d5 d;rw[Ec];generalize s.R/total*size=R1 at*;generalize s.R/total*low=x at*;generalize shN R1=j at*;have e:f.k-s.k=j+(f.k-(s.k+j)):=G
 have hp:(0:Int)<256^(f.k-s.k):=Ag G;rw[qc,<-za,<-e] at d5;rw[<-Gg,qc,<-za,<-e] at d;have h1:=(uo (a:=s.N+x) (b:=f.N) hp).2 d5;have i:=zy (a:=f.N) (b:=s.N+x+R1) hp G;omega
theorem bFx (o:Int) (l m:AH):encP o (l++m)=m.foldl (fJ o) (encP o l):=by unfold encP;rw[Ig]
theorem bCu (h:aI b) {k:Nat} (hk:k<=(encP o (bW b)).cd.k):lZ ((bT b o).take (k+4))=(encP o (bW b)).cd.N/256^((encP o (bW b)).cd.k-k):=by
 have hc:=(zD (o:=o) (qA h)).1.2.2;unfold bT;generalize (encP o (bW b)).cd=f at*;obtain⟨d,r1,n0,a⟩:=hc;rw[show f.k+4=(k+4)+(f.k-k) by omega,aKh];refine aHn _ _ (Aa n0 (wz G))<|zy (Ag G) ?_;rw[<-za,show k+4+(f.k-k)=f.k+4 by omega];omega
def cuC (x:AH) (s:CdS):Int:=lZ (x.take (s.k+4))-s.N
theorem bGz {C q:Int} (a:0<q) (h1:q*low<=C) (b:C<q*(low+size)):low<=C/q/\C/q<low+size:=
 ⟨(uo a).2 (by rw[xc];exact h1),zy a (by rw[xc];exact b)⟩
structure wH (x:AH) (cd:CdS) (C:AH) (y:Int):Prop where
 lo:cd.R/bL C*bL (C.take y.toNat)<=cuC x cd
 hi:cuC x cd<cd.R/bL C*(bL (C.take y.toNat)+rd C y)
 c0:0<=cuC x cd
 c1:cuC x cd<4294967296
 v0:bL (C.take y.toNat)<=cuC x cd/(cd.R/bL C)
 v1:cuC x cd/(cd.R/bL C)<bL (C.take y.toNat)+rd C y
 len:(mM cd C y).k+4<=x.length
theorem bHa {l r:AH} (hb:aI b) (hl:bW b=l++y::r):wH (bT b o) (encP o l).cd (dK o (encP o l)) y:=by
 have d:=qA hb;have g:=d y (by rw[hl];simp);have C:aPp l:=λz q=>d z (by rw[hl];exact Gl _ q);have p:aPp r:=λz q=>d z (by rw[hl];exact List.mem_append_right _ (fw _ q));have h:=(zD (o:=o) C).1;have u:=lC (DN (o:=o) h) g.1 g.2;have h1:=uJ (o:=o) h g.1 g.2;have e:=aSb (o:=o) r _ p h1.1;have x:(encP o (bW b)).cd=(r.foldl (fJ o) (fJ o (encP o l) y)).cd:=by rw[hl,bFx];rfl
 have m:=(zD (o:=o) d).1.2.2;rw[<-x,uK] at e;have hc:=h.2.2;have hs:=bJv hc u e (by have:=m.1;omega);have hk:(encP o l).cd.k<=(encP o (bW b)).cd.k:=((aRc hc u).trans e).k;have a:=bCu (o:=o) hb hk;have j:cuC (bT b o) (encP o l).cd=(encP o (bW b)).cd.N/256^((encP o (bW b)).cd.k-(encP o l).cd.k)-(encP o l).cd.N:=by unfold cuC;rw[a]
 rw[<-j] at hs;have A:=mX u ⟨hc.1,hc.2.1⟩;have i:0<=cuC (bT b o) (encP o l).cd:=G
 have B:0<(encP o l).cd.R/bL (dK o (encP o l)):=G
 have v:=bGz B hs.1 hs.2;have w:=hs.2;rw[Ec] at w;exact⟨hs.1,hs.2,i,by have:=hc.2.1;omega,v.1,v.2,by unfold bT;rw[mQ];have:=e.k;omega⟩
theorem DJ {C:AH} (h: ∀c∈C,1<=c) {i:Int} (i0:0<=i): ∀k:Nat,i+k<=C.length->bL (C.take i.toNat)<=bL (C.take (i+k).toNat)
 |0,_=>by rw[show i+((0:Nat):Int)=i by omega];exact ni _
 |k+1,hk=>by
  have a:=DJ h i0 k G;have e:=kW (l:=C) (i:=i+k) G G;have:=h _ (bM (L:=C) (k:=i+k) G G);rw[show i+((k+1:Nat):Int)=i+k+1 by omega];omega
theorem aFt {C:AH} (h: ∀c∈C,1<=c) (i0:0<=i) (hi:i<C.length) (b:0<=y) (a:y<C.length) (h1:bL (C.take i.toNat)<=v) (g:v<bL (C.take i.toNat)+rd C i) (g1:bL (C.take y.toNat)<=v) (g2:v<bL (C.take y.toNat)+rd C y):i=y:=by
 have d:=kW (l:=C) i0 hi;have e:=kW (l:=C) b a;rcases jf i y with c|c|c
 ·have:=DJ h (i:=i+1) G (y-i-1).toNat G;rw[show i+1+((y-i-1).toNat:Int)=y by omega] at this;omega
 ·exact c
 have:=DJ h (i:=y+1) G (i-y-1).toNat G;rw[show y+1+((i-y-1).toNat:Int)=i by omega] at this;omega
theorem aQk {C:AH} (h: ∀c∈C,1<=c) (i0:0<=i) (hi:i<=y) (d:y<C.length) (g1:bL (C.take y.toNat)<=v) (b:v<bL (C.take i.toNat)+rd C i):i=y:=by
 have a:=kW (l:=C) i0 G;rcases zt hi with c|c
 ·have:=DJ h (i:=i+1) G (y-i-1).toNat G;rw[show i+1+((y-i-1).toNat:Int)=y by omega] at this;omega
 exact c
theorem PX (hb:aI b) (i0:0<=i) (hi:i<(bW b).length):rd (bW b) i=257↔i=(bW b).length-1:=by
 have hlen:((bW b).length:Int)=(dR 0 (dY bQ b)).length+1:=by unfold bW;rw[aa,dw];omega
 constructor
 ·intro h;rcases bz i (dR 0 (dY bQ b)).length with c|c
  ·exfalso;unfold bW at h;rw[mY i0 c] at h;have:=PW (dY bQ b) 0 (oM hb) _ (bM i0 c);omega
  omega
 intro h;unfold bW;rw[jP G,show i-(dR 0 (dY bQ b)).length=0 by omega];rfl
theorem aLo (i0:0<=i) (hi:i<(bW b).length):bW b=(bW b).take i.toNat++rd (bW b) i::(bW b).drop (i+1).toNat:=by
 conv=>lhs;rw[<-ed i.toNat (bW b),jN i0 hi]
theorem aDe {s:PpS} (hb:aI b) (d:x=bT b o) (a:s=encP o ((bW b).take i.toNat)) (i0:0<=i) (hi:i<(bW b).length):wH x s.cd (dK o s) (rd (bW b) i):=by
 subst d;subst a;exact bHa hb (aLo i0 hi)
theorem wH.w0 {s:PpS} (h:wH x s.cd (dK o s) y) (hk:s.cls*o=0):wH x s.cd s.c0 y:=by
 unfold dK at h;rwa[cz hk] at h
theorem wH.w1 {s:PpS} (h:wH x s.cd (dK o s) y) (hk:s.cls*o=1):wH x s.cd s.c1 y:=by
 unfold dK at h;rwa[bq G,cz hk] at h
theorem wH.w2 {s:PpS} (h:wH x s.cd (dK o s) y) (hk:s.cls*o=2):wH x s.cd s.c2 y:=by
 unfold dK at h;rwa[bq G,bq G] at h
theorem wH.tot {cd:CdS} (h:wH x cd C y) (a:mD C) (b:0<=y) (g:y<258):cuC x cd/(cd.R/bL C)<bL C/\1<=bL C/\bL C<=65536:=by
 have h1:=h.v1;have d:=tJ (i:=y) a.2.1 b (by rw[a.1];omega);have e:=a.2.2;omega
theorem CG {c M:Int} (a:m<x.length) (h:c=lZ (x.take m)-M):c*256+rd x (m:Int)=lZ (x.take (m+1))-M*256:=by
 rw[tQ a,h];omega
end
section
variable {p:AH}
section
variable {E E2:List Bool} {k i:Int} {f:Nat} {ls cs:AD} {acc l:AH}
def iH (p:AH):Nat->List Bool->Int->AH × List Bool
 |0,E,_=>([],E)
 |f+1,E,k=>if rdb E k=true then([],E) else(k::(iH p f (sV E k true) (rd p k)).1,(iH p f (sV E k true) (rd p k)).2)
def cntF (E:List Bool):Nat:=E.countP λb=> !b
theorem bHg (n:Nat):cntF (List.replicate n false)=n:=by unfold cntF;rw[List.countP_replicate];simp
theorem CK (k0:0<=k) (hk:k<E.length) (h:rdb E k≠true):cntF (sV E k true)+1=cntF E:=by
 have ci:k.toNat<E.length:=G
 have e:E[k.toNat]=false:=by
  have a:rdb E k=E[k.toNat]:=by unfold rdb;rw[af,au ci];rfl
  rw[a] at h;simpa using h
 unfold cntF sV;rw[List.countP_set ci,e];simp only[Fw,Bool.not_false,xg,xq,Jy,qw];have:0<E.countP λb=> !b:=List.countP_pos_iff.2 ⟨E[k.toNat],mg ci,by rw[e];rfl⟩;omega
theorem uG (h:rdb E k=true):iH p f E k=([],E):=by
 cases f with
 |zero=>rfl
 |succ f=>rw[iH,cz h]
theorem KU (k0:0<=k) (hk:k<E.length) (h:rdb E k≠true):0<cntF E:=by have:=CK k0 hk h;omega
theorem IJ (k0:0<=k) (hk:k<E.length) (a:cntF E<=f) (h:rdb E k≠true):iH p f E k=(k::(iH p (f-1) (sV E k true) (rd p k)).1,(iH p (f-1) (sV E k true) (rd p k)).2):=by
 have:=KU k0 hk h;obtain⟨g,rfl⟩: ∃g,f=g+1:=⟨f-1,G⟩;rw[iH,bq h];rfl
def kK (p:AH):Nat->List Bool × AD
 |0=>(List.replicate p.length false,[])
 |i+1=>((iH p p.length (kK p i).1 i).2,if (iH p p.length (kK p i).1 i).1=[] then(kK p i).2 else(kK p i).2++[(iH p p.length (kK p i).1 i).1])
def bR (p:AH):AD:=(kK p p.length).2
theorem vG (hp:p.Perm (iota p.length)): ∀(f:Nat) (E:List Bool) (k:Int),E.length=p.length->0<=k->k<p.length->(iH p f E k).2.length=p.length/\(∀x∈(iH p f E k).1,0<=x/\x<p.length)/\(iH p f E k).1.length+cntF (iH p f E k).2=cntF E
 |0,E,k,hl,_,_=>And.intro hl (And.intro (λx b=>absurd b (vw (a:=x))) (oh _))
 | f+1,E,k,hl,k0,hk=>by
  rw[iH];split
  ·exact And.intro hl (And.intro (λx b=>absurd b (vw (a:=x))) (oh _))
  rename_i h;have hn:=aY.1 (hp.subset (bM (L:=p) k0 hk));have d:=vG hp f (sV E k true) (rd p k) (by rw[mW];exact hl) hn.1 hn.2;have hc:=CK k0 G h;refine⟨d.1,λx b=> ?_,?_⟩
  ·rcases il.1 b with rfl|b
   ·exact⟨k0,hk⟩
   exact d.2.1 x b
  have:=d.2.2;simp only[dh];omega
theorem nD (hp:p.Perm (iota p.length)): ∀i:Nat,i<=p.length->(kK p i).1.length=p.length/\(∀c∈(kK p i).2,∀x∈c,0<=x/\x<p.length)/\(kK p i).2.flatten.length+cntF (kK p i).1=p.length
 |0,_=>⟨by simp[kK],λc hc=>(by cases hc),by simp[kK,bHg]⟩
 | i +1,hi=>by
  have a:=nD hp i G;have b:=vG hp p.length (kK p i).1 i a.1 G G;rw[kK];refine⟨b.1,?_,?_⟩
  ·intro c hc x e;split at hc
   ·exact a.2.1 c hc x e
   rcases ek.1 hc with hc|hc
   ·exact a.2.1 c hc x e
   obtain rfl:=gz.1 hc;exact b.2.1 x e
  split
  ·rename_i h;have d:=b.2.2;rw[h] at d;have:=a.2.2;simp only[iw] at d;show(kK p i).2.flatten.length+cntF (iH p p.length (kK p i).1 i).2=p.length;omega
  rw [lq,aa];have d:=b.2.2;have:=a.2.2;simp only[jv,Ar,ik];omega
theorem KM (hp:p.Perm (iota p.length)): ∀c∈bR p,∀x∈c,0<=x/\x<p.length:=(nD hp p.length (dn _)).2.1
theorem CB (hp:p.Perm (iota p.length)):(bR p).flatten.length<=p.length:=by have:=(nD hp p.length (dn _)).2.2;unfold bR;omega
theorem KN (p:AH): ∀i:Nat,(kK p i).2.length<=i
 |0=>by simp[kK]
 |i+1=>by
  have:=KN p i;rw[kK];split
  ·exact Nat.le_succ_of_le this
  rw[aa];simp only[dw];omega
theorem aSt (i0:0<=i) (d:kK p i.toNat=(E,ls)) (a:iH p p.length E i=(acc,E2)) (b:acc≠[]):kK p (i+1).toNat=(E2,ls++[acc]):=by
 rw[show(i+1).toNat=i.toNat+1 by omega,kK,d];simp only[show((i.toNat:Nat):Int)=i by omega,a,bq b]
theorem bHb (i0:0<=i) (d:kK p i.toNat=(E,ls)) (a:iH p p.length E i=(acc,E2)) (b:acc=[]):kK p (i+1).toNat=(E2,ls):=by
 rw[show(i+1).toNat=i.toNat+1 by omega,kK,d];simp only[show((i.toNat:Nat):Int)=i by omega,a,cz b]
theorem RJ (hp:p.Perm (iota p.length)) (hl:E.length=p.length) (i0:0<=i) (hi:i<p.length) (a:(acc++(iH p f E2 k).1,(iH p f E2 k).2)=iH p p.length E i):acc.length<=p.length:=by
 have h:=(vG hp p.length E i hl i0 hi).2.2;rw[<-a] at h;simp only[aa] at h;have:cntF E<=E.length:=Bz;omega
def bS (l c:AH):AH:=c.reverse.map (rd l)
def backL (l:AH) (cs:AD):AH:=(cs.reverse.map (bS l)).flatten
theorem XC {k:Nat} (hk:k<cs.length):(((cs.reverse).take (k+1)).map (bS l)).flatten=(((cs.reverse).take k).map (bS l)).flatten++bS l (rdl cs (cs.length-1-k)):=by
 have ci:k<cs.reverse.length:=by rw[kz];exact hk
 rw[rf,au ci,jc,lq];congr 1;simp only[Bj,jg,ug,jv,Ar,ik];congr 1;rw[Gj];unfold rdl;rw[af,au G];simp only[qj];congr 1;omega
theorem RG {c:AH} {k:Nat} (hk:k<c.length):((c.reverse).take (k+1)).map (rd l)=((c.reverse).take k).map (rd l)++[rd l (rd c (c.length-1-k))]:=by
 have ci:k<c.reverse.length:=by rw[kz];exact hk
 rw[rf,au ci,jc];congr 1;simp only[Bj,jg,ug];congr 2;rw[Gj,fH G G];congr 1;omega
theorem kG (l c:AH):(bS l c).length=c.length:=by simp[bS]
theorem OM: ∀ {k:Nat} {l:AH},(((cs.reverse).take k).map (bS l)).flatten.length<=cs.flatten.length:=by
 intro k l
 have h1:(((cs.reverse).take k).map (bS l)).flatten.length=(((cs.reverse).take k).map List.length).sum:=by
  rw[qo,qp];congr 2;funext c;exact kG l c
 have a:cs.flatten.length=((cs.reverse).map List.length).sum:=by rw[qo,Fq,List.sum_reverse]
 rw[h1,a]
 conv=>rhs;rw[<-ed k cs.reverse]
 rw[jc,Dl];omega
end
end
section
variable {p:AH}
theorem zT {j:Int} (j0:0<=j): ∀(f:Nat) (E:List Bool) (k:Int),(hp:p.Perm (iota p.length))->E.length=p.length->0<=k->k<p.length->rdb E j=true->rdb (iH p f E k).2 j=true
 |0,E,k,_,_,_,_,h=>h
 | f+1,E,k,hp,hl,k0,hk,h=>by
  rw[iH];split
  ·exact h
  have hn:=aY.1 (hp.subset (bM (L:=p) k0 hk));refine zT j0 f _ _ hp (by rw[mW];exact hl) hn.1 hn.2 ?_;rw[EB k0 G j0];split
  ·rfl
  exact h
theorem aFe (hp:p.Perm (iota p.length)) {f:Nat} {E:List Bool} {k:Int} (hl:E.length=p.length) (k0:0<=k) (hk:k<p.length) (a:cntF E<=f):rdb (iH p f E k).2 k=true:=by
 by_cases h:rdb E k=true
 ·rw[uG h];exact h
 rw [IJ k0 G a h];have hn:=aY.1 (hp.subset (bM (L:=p) k0 hk));exact zT k0 _ _ _ hp (by rw[mW];exact hl) hn.1 hn.2 (by rw[EB k0 G k0,cz rfl])
theorem NG (hp:p.Perm (iota p.length)): ∀i:Nat,i<=p.length-> ∀j:Nat,j<i->rdb (kK p i).1 j=true
 |0,_,j,hj=>G
 | i+1,hi,j,hj=>by
  have a:=nD hp i G;have hc:cntF (kK p i).1<=p.length:=by have:=a.2.2;omega
  rw[kK];rcases gm j i with g|g
  ·exact zT G _ _ _ hp a.1 G G (NG hp i G j g)
  obtain rfl:j=i:=G
  exact aFe hp a.1 G G hc
theorem aXs {E:List Bool} (h: ∀j:Nat,j<E.length->rdb E j=true):cntF E=0:=by
 unfold cntF;rw[Cz];intro b hb;obtain⟨j,a,rfl⟩:=ib.1 hb;have:=h j a;have e:rdb E (j:Int)=E[j]:=by unfold rdb;rw[bu,af,au a];rfl
 rw[e] at this;rw[this];simp
theorem aJi (hp:p.Perm (iota p.length)):(bR p).flatten.length=p.length:=by
 have b:=nD hp p.length (dn _);have:=aXs (E:=(kK p p.length).1) λj a=>NG hp p.length (dn _) j (by rw[b.1] at a;exact a);unfold bR;omega
theorem aYi (l:AH) (cs:AD):(backL l cs).length=cs.flatten.length:=by
 unfold backL;rw[qo,qp,qo,Fq,List.sum_reverse];congr 2;funext c;exact kG l c
theorem aVq {l:AH} {cs:AD} {x:Int} (h:x∈backL l cs): ∃y,y∈cs.flatten/\x=rd l y:=by
 unfold backL at h;obtain⟨w,b,a⟩:=ny.1 h;obtain⟨c,hc,rfl⟩:=gq.1 b;unfold bS at a;obtain⟨y,d,rfl⟩:=gq.1 a;exact⟨y,ny.2 ⟨c,yu.1 hc,yu.1 d⟩,rfl⟩
theorem aYj {l:AH} (hl:aI l) (cs:AD):aI (backL l cs):=λx a=>by
 obtain⟨y,_,rfl⟩:=aVq a;exact hl.rd _
theorem aKz {l c acc:AH} {k:Int} (k0:0<=k) (hk:k<c.length) (h:acc=((c.reverse).take (c.length-1-k).toNat).map (rd l)):acc++[rd l (rd c k)]=((c.reverse).take (c.length-1-(k-1)).toNat).map (rd l):=by
 have:=RG (l:=l) (c:=c) (k:=((c.length:Int)-1-k).toNat) G;rw[show((c.length:Int)-1-(k-1)).toNat=((c.length:Int)-1-k).toNat+1 by omega,this,h];congr 4;omega
theorem aPi {l acc:AH} {cs:AD} {k:Int} (k0:0<=k) (hk:k<cs.length) (h:acc=(((cs.reverse).take (cs.length-1-k).toNat).map (bS l)).flatten):acc++bS l (rdl cs k)=(((cs.reverse).take (cs.length-1-(k-1)).toNat).map (bS l)).flatten:=by
 have:=XC (l:=l) (cs:=cs) (k:=((cs.length:Int)-1-k).toNat) G;rw[show((cs.length:Int)-1-(k-1)).toNat=((cs.length:Int)-1-k).toNat+1 by omega,this,h];congr 3;omega
theorem QP {cs:AD} {k:Int} (k0:0<=k) (hk:k<cs.length):rdl cs k∈cs:=by
 unfold rdl;rw[af,au G];exact mg _
theorem aPj {l acc b:AH} {cs:AD} {m a:Nat} (h:m=cs.length) (g:a<m) (d:acc=(((cs.reverse).take a).map (bS l)).flatten) (e:b=acc++(((rdl cs ((m-1-a:Nat):Int)).reverse).take (rdl cs ((m-1-a:Nat):Int)).length).map (rd l)):b=(((cs.reverse).take (a+1)).map (bS l)).flatten:=by
 rw[XC G,e,d,bg (l:=(rdl cs ((m-1-a:Nat):Int)).reverse) (by rw[kz];exact dn _),show((m-1-a:Nat):Int)=(cs.length:Int)-1-a by omega];rfl
theorem RF {l acc b c:AH} {a:Nat} (hk:a<c.length) (h:b=acc++((c.reverse).take a).map (rd l)):b++[rd l (rd c ((c.length-1-a:Nat):Int))]=acc++((c.reverse).take (a+1)).map (rd l):=by
 rw[RG hk,<-dx,<-h,show((c.length-1-a:Nat):Int)=(c.length:Int)-1-a by omega]
theorem xS {p:AH}:(bR p).length<=p.length:=KN p p.length
end
section
variable {u m V:AH} {i:Int}
end
theorem aQy {l:AE} {f:Int × Int->Int} {i:Int} (a:0<=i) (h:i<l.length):rd (l.map f) i=f (rdp l i):=by
 unfold rd rdp;rw[af,af,mr,au G];rfl
section
variable {p:AH}
def pit (p:AH):Nat->Int->Int
 |0,i=>i
 |b+1,i=>rd p (pit p b i)
theorem yP (hp:p.Perm (iota p.length)) {i:Int} (i0:0<=i) (hi:i<p.length): ∀b:Nat,0<=pit p b i/\pit p b i<p.length
 |0=>⟨i0,hi⟩
 |b+1=>by
  have a:=yP hp i0 hi b;exact aY.1 (hp.subset (bM (L:=p) a.1 a.2))
theorem aRe (p:AH) (a:Nat) (i:Int): ∀b:Nat,pit p (a+b) i=pit p b (pit p a i)
 |0=>rfl
 |b+1=>by rw[<-ow,pit,aRe p a i b,pit]
theorem bOx (hp:p.Perm (iota p.length)) {x y:Int} (x0:0<=x) (a:x<p.length) (d:0<=y) (b:y<p.length) (h:rd p x=rd p y):x=y:=mJ (hp.symm.nodup (fV _)) x0 a d b h
structure Ring (p:AH) (i:Int) (c:AH):Prop where
 pos:0<c.length
 at_: ∀b:Nat,b<c.length->rd c b=pit p b i
 close:pit p c.length i=i
 nodup:c.Nodup
 least: ∀x∈c,i<=x
structure ClE (p:AH) (E:List Bool):Prop where
 len:E.length=p.length
 back: ∀j:Int,0<=j->j<p.length->rdb E (rd p j)=true->rdb E j=true
theorem bJw {l:AH} {x:Int} {b:Nat} (h:b<(l++[x]).length):rd (l++[x]) b=if b<l.length then rd l b else x:=by
 split
 ·rename_i g;rw[mY G G]
 rename_i g;have:b=l.length:=by simp at h;omega
 subst this;rw[jP G,Jm];rfl
theorem YO (hp:p.Perm (iota p.length)) {d:List Bool} {i:Int} (r:ClE p d) (i0:0<=i) (hi:i<p.length) (u:rdb d i≠true) (A: ∀j:Int,0<=j->j<i->rdb d j=true):
  ∀(f:Nat) (E:List Bool) (acc:AH),E.length=p.length->cntF E<=f->(∀b:Nat,b<acc.length->rd acc b=pit p b i)->acc.Nodup->(∀x∈acc,rdb d x≠true)->(∀j:Int,0<=j->j<p.length->(rdb E j=true↔rdb d j=true\/j∈acc))->
  Ring p i (acc++(iH p f E (pit p acc.length i)).1)/\(∀x∈acc++(iH p f E (pit p acc.length i)).1,rdb d x≠true)/\ ∀j:Int,0<=j->j<p.length->(rdb (iH p f E (pit p acc.length i)).2 j=true↔rdb d j=true\/j∈acc++(iH p f E (pit p acc.length i)).1)
 | f, E,acc,hl,hf,g7,hnd,Qx,hset=>by
  have hk:=yP hp i0 hi acc.length;have gs: ∀b:Nat,b<acc.length->pit p b i∈acc:=λb hb=>by rw[<-g7 b hb];exact bM G G
  by_cases k:rdb E (pit p acc.length i)=true
  ·rw [uG k];simp only[ik]
   have K:0<acc.length:=by
    rcases fe acc.length with z|z
    ·exfalso;have o:acc=[]:=di z;subst o;rcases(hset i i0 hi).1 k with a|a
     ·exact u a
     cases a
    exact z
   have H:pit p acc.length i=i:=by
    have o:=yP hp i0 hi (acc.length-1)
    have v:pit p acc.length i=rd p (pit p (acc.length-1) i):=by
     obtain⟨m,M⟩: ∃m,acc.length=m+1:=⟨acc.length-1,G⟩;rw[M,pit];rfl
    rcases(hset _ hk.1 hk.2).1 k with a|a
    ·rw [v] at a;exact absurd (r.back _ o.1 o.2 a) (Qx _ (gs _ G))
    obtain ⟨b,hb,e⟩:=ib.1 a;have w:pit p acc.length i=pit p b i:=by rw[<-g7 b hb,jY hb];exact e.symm
    rcases fe b with z|z
    ·rw[w,z];rfl
    exfalso;have D:=yP hp i0 hi (b-1)
    have J:pit p b i=rd p (pit p (b-1) i):=by
     obtain⟨m,rfl⟩: ∃m,b=m+1:=⟨b-1,G⟩;rw[pit];rfl
    have:=bOx hp o.1 o.2 D.1 D.2 (by rw[<-v,<-J,w]);rw[<-g7 _ G,<-g7 _ G] at this;have:=mJ hnd G G G G this;omega
   refine⟨⟨K,g7,H,hnd,λx l=> ?_⟩,Qx,hset⟩;obtain⟨b,hb,rfl⟩:=ib.1 l;have B:=yP hp i0 hi b;rw[<-g7 b hb,jY hb] at B;rcases bz acc[b] i with g|g
   ·exact absurd (A _ B.1 g) (Qx _ l)
   exact g
  have O:=KU hk.1 G k;have n7:=CK hk.1 G k;obtain⟨g,rfl⟩: ∃g,f=g+1:=⟨f-1,G⟩;rw[IJ hk.1 G hf k];have F: ¬(rdb d (pit p acc.length i)=true\/pit p acc.length i∈acc):=λh=>k ((hset _ hk.1 hk.2).2 h);have hlen:(acc++[pit p acc.length i]).length=acc.length+1:=cD
  have C:=YO hp r i0 hi u A g (sV E (pit p acc.length i) true) (acc++[pit p acc.length i]) (by rw[mW];exact hl) G (λb hb=>by
   rw[bJw hb];split
   ·rename_i q;exact g7 b q
   ·rename_i q;rw[show b=acc.length by rw[hlen] at hb;omega]) (yc.2 ⟨hnd,cD,λx l y N e=>by obtain rfl:=gz.1 N;subst e;exact F (.inr l)⟩) (λx l=>by
   rcases ek.1 l with h|h
   ·exact Qx x h
   ·obtain rfl:=gz.1 h
    exact λe=>F (.inl e)) (λj j0 L=>by
   rw[EB hk.1 G j0,ek,gz];split
   ·rename_i e;exact⟨λ_=> .inr (.inr e),λ_=>rfl⟩
   rename_i e;rw[hset j j0 L];exact⟨λh=>h.elim .inl λh=> .inr (.inl h),λh=>h.elim .inl λh=>h.elim .inr λh=>absurd h e⟩)
  rw[hlen,pit,dx] at C;exact C
structure bZo (p:AH) (i:Nat) (E:List Bool) (ls:AD):Prop where
 cl:ClE p E
 seen: ∀j:Int,0<=j->j<p.length->(rdb E j=true↔j∈ls.flatten)
 nodup:ls.flatten.Nodup
 ring: ∀c∈ls,∃i0:Int,(0<=i0/\i0<i)/\Ring p i0 c
 heads:ls.Pairwise λc d=>rd c 0<rd d 0
theorem bZg (hp:p.Perm (iota p.length)): ∀i:Nat,i<=p.length->bZo p i (kK p i).1 (kK p i).2
 |0,_=>⟨⟨by simp[kK],λj j0 k h=>by rw[kK,QD] at h;cases h⟩,λj j0 k=>by rw[kK,QD];simp,by simp[kK],λc hc=>(by cases hc), .nil⟩
 | i +1,hi=>by
  have g:=bZg hp i G;have N:=NG hp i G;have A:=nD hp i G;have o:cntF (kK p i).1<=p.length:=by have:=A.2.2;omega
  rw[kK];by_cases C:rdb (kK p i).1 i=true
  ·rw [uG C];simp only[Jy];exact⟨g.cl,g.seen,g.nodup,λc hc=>by obtain⟨i0,h,r⟩:=g.ring c hc;exact⟨i0,G,r⟩,g.heads⟩
  obtain ⟨w1,w2,l⟩:=YO hp g.cl (i:=i) G G C (λj j0 k=>by have:=N j.toNat G;rwa[show((j.toNat:Nat):Int)=j by omega] at this) p.length (kK p i).1 [] A.1 o (λb hb=>by simp at hb) .nil (λx B=>by cases B) (λj j0 k=>cD);simp only[ig,iw,pit] at w1 w2 l;have v:=(vG hp p.length (kK p i).1 i A.1 G G);generalize iH p p.length (kK p i).1 i=r at w1 w2 l v;obtain⟨c,E'⟩:=r;simp only at w1 w2 l v ⊢;rw[bq (λe=>by have:=w1.pos;rw[e] at this;simp at this)];have K:rd c 0=i:=w1.at_ 0 w1.pos;refine⟨⟨v.1,λj j0 k h=> ?_⟩,λj j0 k=> ?_,?_,λd w=> ?_,?_⟩
  ·have H:=aY.1 (hp.subset (bM (L:=p) j0 k));rcases(l _ H.1 H.2).1 h with a|a
   ·exact(l j j0 k).2 (.inl (g.cl.back j j0 k a))
   refine (l j j0 k).2 (.inr ?_);obtain⟨b,hb,e⟩:=ib.1 a;have F:rd p j=pit p b i:=by rw[<-w1.at_ b hb,jY hb];exact e.symm
   have key: ∀m:Nat,m<c.length->rd p j=rd p (pit p m i)->j∈c:=λm q e=>by
    have D:=yP hp (i:=i) G G m;have:=bOx hp j0 k D.1 D.2 e;rw[this,<-w1.at_ m q];exact bM G G
   rcases fe b with z|z
   ·refine key (c.length-1) (by have:=w1.pos;omega) ?_;have hc:=w1.close;obtain⟨m,q⟩: ∃m,c.length=m+1:=⟨c.length-1,by have:=w1.pos;omega⟩;rw[q,pit] at hc;rw[F,z,q];exact hc.symm
   obtain ⟨m,rfl⟩: ∃m,b=m+1:=⟨b-1,G⟩;exact key m G (by rw[F,pit])
  ·rw [l j j0 k,lq,ek,g.seen j j0 k];simp
  ·rw [lq];refine yc.2 ⟨g.nodup,by simpa using w1.nodup,λx B y u e=> ?_⟩;subst e;have u:x∈c:=by simpa using u
   have J:=v.2.1 x u;exact w2 x u ((g.seen x J.1 J.2).2 B)
  ·rcases ek.1 w with h|h
   ·obtain ⟨i0,h,r⟩:=g.ring d h;exact⟨i0,G,r⟩
   obtain rfl:=gz.1 h;exact⟨i,G,w1⟩
  refine kv.2 ⟨g.heads,ql _ _,λd w e M=> ?_⟩;obtain rfl:=gz.1 M;obtain⟨i0,h,r⟩:=g.ring d w;rw[K,show rd d 0=i0 from r.at_ 0 r.pos];omega
theorem aOo (hp:p.Perm (iota p.length)):bZo p p.length (kK p p.length).1 (bR p):=bZg hp p.length (dn _)
theorem xU (hp:p.Perm (iota p.length)):(bR p).flatten.Perm (iota p.length):=uP (aOo hp).nodup (λx a=>by
 obtain⟨c,hc,a⟩:=ny.1 a
 exact aY.2 (KM hp c hc x a)) (by rw[bI,aJi hp];exact dn _)
end
end Go.Pure
namespace Go.Pure
open Go Go.Eng
section
variable {l:AH}
def phi (l:AH) (q:Int):Int:=rd (dN (iota l.length) l 256) q
theorem UI (hl:aI l) {q:Int} (a:0<=q) (b:q<l.length):0<=phi l q/\phi l q<l.length:=by
 have h:=mZ (l:=l) hl;have hlen:=h.1.length_eq;rw[bI] at hlen;exact aY.1 (h.1.subset (bM a G))
theorem bSf (hl:aI l) {i:Int} (i0:0<=i) (hi:i<l.length):phi l (lfC l i)=i:=by
 obtain⟨q,a,b,e,f⟩:=aHx (l:=l) hl i0 hi;rw[f];exact e
theorem aMw (hl:aI l) {i k:Int} (i0:0<=i) (h:i<k) (hk:k<l.length):tl l (phi l i) (phi l k):=by
 have hlen:=(mZ (l:=l) hl).1.length_eq;rw[bI] at hlen;exact gB (mZ (l:=l) hl).2 i0 h G
def uw (l:AH):Nat->Int->Int
 |0,i=>rd l (phi l i)
 |d+1,i=>uw l d (phi l i)
def U (l:AH) (i:Int) (d:Nat):Int:=uw l d i
theorem CU (i:Int):U l i 0=rd l (phi l i):=by unfold U;rw[uw]
theorem HY (i:Int) (d:Nat):U l i (d+1)=U l (phi l i) d:=by unfold U;rw[uw]
theorem bIp (hl:aI l): ∀(d:Nat) (i k:Int),0<=i->i<k->k<l.length->(∀e,e<d->U l i e=U l k e)->U l i d<=U l k d
 |0,i,k,i0,h,hk,_=>by
  have:=aMw hl i0 h hk;rw[CU,CU];unfold tl at this;omega
 |d+1,i,k,i0,h,hk,he=>by
  have b:=he 0 G;rw[CU,CU] at b;have j:=aMw hl i0 h hk;unfold tl at j;have a:=UI hl (q:=i) i0 G;have m:=UI hl (q:=k) G hk;rw[HY,HY];refine bIp hl d _ _ a.1 G m.2 λe g=> ?_;have:=he (e+1) G;rwa[HY,HY] at this
theorem aYr (hl:aI l) {i k:Int} (i0:0<=i) (h:i<=k) (hk:k<l.length): ¬Lt (U l k) (U l i):=by
 rintro⟨d,h1,g⟩;rcases bz i k with a|a
 ·have:=bIp hl d i k i0 a hk λe b=>(h1 e b).symm;omega
 obtain rfl:i=k:=G
 omega
theorem phi_mono (hl:aI l) {i k:Int} (i0:0<=i) (h:i<k) (hk:k<l.length) (a: ∀d,U l i d=U l k d):phi l i<phi l k/\ ∀d,U l (phi l i) d=U l (phi l k) d:=by
 have e:=aMw hl i0 h hk;have b:=a 0;rw[CU,CU] at b;unfold tl at e;refine⟨G,λd=> ?_⟩;have:=a (d+1);rwa[HY,HY] at this
def kZ (l:AH):Nat->Int->Int
 |0,i=>i
 |b+1,i=>kZ l b (phi l i)
theorem yQ (hl:aI l): ∀(b:Nat) {i:Int},0<=i->i<l.length->0<=kZ l b i/\kZ l b i<l.length
 |0,i,i0,hi=>⟨i0,hi⟩
 |b+1,i,i0,hi=>by
  have h:=UI hl i0 hi;exact yQ hl b h.1 h.2
theorem MM (hl:aI l): ∀(b:Nat) {i k:Int},0<=i->i<k->k<l.length->(∀d,U l i d=U l k d)->kZ l b i<kZ l b k/\ ∀d,U l (kZ l b i) d=U l (kZ l b k) d
 |0,i,k,_,h,_,he=>⟨h,he⟩
 |b+1,i,k,i0,h,hk,he=>by
  have h1:=phi_mono hl i0 h hk he;have a:=UI hl (q:=i) i0 G;have e:=UI hl (q:=k) G hk;exact MM hl b a.1 h1.1 e.2 h1.2
theorem CV (i:Int): ∀(b d:Nat),U l (kZ l b i) d=U l i (b+d)
 |0,d=>by rw[oh];rfl
 |b+1,d=>by
  rw[kZ,CV (phi l i) b d,<-HY,show b+d+1=b+1+d by omega]
theorem rX (i:Int): ∀(a b:Nat),kZ l (a+b) i=kZ l b (kZ l a i)
 |0,b=>by rw[oh];rfl
 |a+1,b=>by rw[show a+1+b=(a+b)+1 by omega,kZ,rX (phi l i) a b];rfl
theorem aRt (hl:aI l) {i:Int} (i0:0<=i) (hi:i<l.length) {b:Nat} (h:i<kZ l b i) (a: ∀d,U l i d=U l (kZ l b i) d): ∀t:Nat,i+t<=kZ l (t*b) i
 |0=>by rw[Bi];show i+0<=i;omega
 |t+1=>by
  have e:=aRt hl i0 hi h a t;have hk:=yQ hl b i0 hi;have h1:=(MM hl (t*b) i0 h hk.2 a).1;rw[<-rX i b (t*b),show b+t*b=(t+1)*b by rw[Cr];omega] at h1;omega
theorem aRu (hl:aI l) {i:Int} (i0:0<=i) (hi:i<l.length) {b:Nat} (h:kZ l b i<i) (a: ∀d,U l i d=U l (kZ l b i) d): ∀t:Nat,kZ l (t*b) i+t<=i
 |0=>by rw[Bi];show i+0<=i;omega
 |t+1=>by
  have e:=aRu hl i0 hi h a t;have hk:=yQ hl b i0 hi;have h1:=(MM hl (t*b) hk.1 h hi λd=>(a d).symm).1;rw[<-rX i b (t*b),show b+t*b=(t+1)*b by rw[Cr];omega] at h1;omega
theorem bAv (hl:aI l) {i:Int} (i0:0<=i) (hi:i<l.length) {b:Nat} (e:kZ l b i≠i): ¬ ∀d,U l i d=U l (kZ l b i) d:=λa=>by
 rcases bz i (kZ l b i) with h|h
 ·have:=aRt hl i0 hi h a (l.length+1);have:=yQ hl ((l.length+1)*b) i0 hi;omega
 have:=aRu hl i0 hi G a (l.length+1);have:=yQ hl ((l.length+1)*b) i0 hi;omega
theorem bMo (hl:aI l):(((iota l.length).map (lfC l))).Perm (iota ((iota l.length).map (lfC l)).length):=by
 rw[bn,bI];exact xZ (λx a h1=>OG (l:=l) hl a h1) λx y x0 b d g e=>bEa (l:=l) hl x0 b d g e
def lfL (l:AH):AH:=(iota l.length).map (lfC l)
theorem oF (l:AH):(lfL l).length=l.length:=by unfold lfL;rw[bn,bI]
theorem bRz {i:Int} (i0:0<=i) (hi:i<l.length):rd (lfL l) i=lfC l i:=by
 unfold lfL;rw[AY i0 (by rw[bI];exact hi),vN i0 hi]
theorem nA (hl:aI l):(lfL l).Perm (iota (lfL l).length):=bMo hl
theorem aHa (hl:aI l) {i:Int} (i0:0<=i) (hi:i<l.length): ∀b:Nat,kZ l b (pit (lfL l) b i)=i
 |0=>rfl
 |b+1=>by
  have h:=yP (nA hl) i0 (by rw[oF];exact hi) b;rw[oF] at h;rw[kZ,pit,bRz h.1 h.2,bSf hl h.1 h.2];exact aHa hl i0 hi b
section
variable {i:Int} {c:AH} (hl:aI l) (i0:0<=i) (hi:i<l.length) (hc:Ring (lfL l) i c)
include hl i0 hi hc
theorem DY {b:Nat} (hb:b<=c.length):kZ l b i=pit (lfL l) (c.length-b) i:=by
 have h:=aHa hl (yP (nA hl) i0 (by rw[oF];exact hi) (c.length-b)).1 (by have:=(yP (nA hl) i0 (by rw[oF];exact hi) (c.length-b)).2;rw[oF] at this;exact this) b;rw[<-aRe,show c.length-b+b=c.length by omega,hc.close] at h;exact h
theorem TG:kZ l c.length i=i:=by
 rw[DY hl i0 hi hc (dn _),Er];rfl
theorem aGn:Per (U l i) c.length:=λd=>by
 rw[ut,<-CV,TG hl i0 hi hc]
theorem aFc {d:Nat} (b:d<c.length):rd (bS l c) d=U l i d:=by
 have h1:rd (bS l c) d=rd l (rd c ((c.length-1-d:Nat):Int)):=by
  unfold bS;rw[AY G (by rw[kz];omega)];congr 1;rw[jY (by rw[kz];exact b),Gj,jY G]
 have a:U l i d=rd l (kZ l (d+1) i):=by
  have:=CV (l:=l) i d 0;rw[qw,CU] at this;rw[<-this,rX i d 1];rfl
 rw[h1,a,hc.at_ _ G,DY hl i0 hi hc G,show c.length-(d+1)=c.length-1-d by omega]
theorem RH:om (bS l c)=U l i:=by
 funext d;have hp:=hc.pos
 have h1:om (bS l c) d=rd (bS l c) ((d%c.length:Nat):Int):=by
  unfold om rd;rw[kG,bu]
 rw[h1,aFc hl i0 hi hc (yh _ hp)];exact(aGn hl i0 hi hc).mod d
theorem TH {r:Nat} (b:0<r) (a:r<c.length):i<kZ l r i:=by
 rw[DY hl i0 hi hc G];have h1:=hc.least _ (bM (L:=c) (k:=((c.length-r:Nat):Int)) G G);rw[hc.at_ _ G] at h1;rcases bz i (pit (lfL l) (c.length-r) i) with g|g
 ·exact g
 exfalso
 have e:rd c ((c.length-r:Nat):Int)=rd c ((0:Nat):Int):=by
  rw[hc.at_ _ G,hc.at_ 0 hc.pos];show _=i;omega
 have:=mJ hc.nodup G G G (by have:=hc.pos;omega) e;omega
theorem bBk:oP (bS l c)=true:=by
 rw[jL,kG];refine⟨hc.pos,λr A y=> ?_⟩;have q:=TH hl i0 hi hc A y;have x:=yQ hl r i0 hi;have p:=aYr hl i0 (Be q) x.2;have w:=bAv hl i0 hi (b:=r) G
 have ci:Lt (U l i) (U l (kZ l r i)):=by
  rcases BL (U l i) (U l (kZ l r i)) with a|a|a
  ·exact a
  ·exact absurd a w
  exact absurd a p
 obtain⟨d,h1,k⟩:=ci;have h: ∀e,U l (kZ l r i) e=U l i (r+e):=λe=>CV i r e;rw[h] at k
 have o:d<c.length-r:=by
  rcases gm d (c.length-r) with g|g
  ·exact g
  exfalso;have u:=aGn hl i0 hi hc;have v:=TH hl i0 hi hc (r:=c.length-r) G G;have j:=yQ hl (c.length-r) i0 hi;refine aYr hl i0 (Be v) j.2 ⟨d-(c.length-r),λe m=> ?_,?_⟩
  ·rw [CV];have:=h1 (c.length-r+e) G;rw[this,h,show r+(c.length-r+e)=e+c.length by omega,u]
  rw [CV,show c.length-r+(d-(c.length-r))=d by omega];rw[show r+d=(d-(c.length-r))+c.length by omega,u] at k;exact k
 rw[qI _ _ (by rw[az,kG];omega),az,kG]
 have ci: ∀e,e<c.length->lt (bS l c) e=U l i e:=λe m=>by
  rw[<-aFc hl i0 hi hc m];unfold lt rd;rw[bu]
 refine⟨d,o,λe m=> ?_,?_⟩
 ·rw[kJ,ci e G,ci (r+e) G,h1 e m,h]
 rw [kJ,ci d G,ci (r+d) G];exact k
end
end
end Go.Pure
namespace Go.Pure
open Go Go.Eng
theorem UR {w:AH} {e:Nat} (h:e<w.length):om w e=lt w e:=nU h
theorem aEs {v:AH} (h:oP v=true) {r:Nat} (j:0<r) (i:r<v.length): ∃d,d<v.length-r/\(∀e,e<d->lt v e=lt v (r+e))/\lt v d<lt v (r+d):=by
 have:=((jL v).1 h).2 r j i;rw[qI _ _ (by rw[az];omega),az] at this;obtain⟨d,h1,a,b⟩:=this;refine⟨d,h1,λe g=> ?_,?_⟩
 ·rw[a e g,kJ]
 rwa[kJ] at b
theorem longer {w v:AH} (m:0<w.length) (l:oP v=true) (hlen:w.length<v.length) (o: ∀e,e<w.length->lt v e=lt w e):Lt (om w) (om v):=by
 obtain⟨d,h1,i,j⟩:=aEs l m hlen;have h:=qE w
 have agr: ∀e,e<w.length+d->lt v e=om w e:=by
  intro e
  induction e using Nat.strongRecOn with
  | ind e ih=>
   intro p;rcases gm e w.length with g|g
   ·rw[o e g,UR g]
   have a:=i (e-w.length) G;rw[show w.length+(e-w.length)=e by omega] at a;have b:=h (e-w.length);rw[show e-w.length+w.length=e by omega] at b;rw[<-a,b];exact ih (e-w.length) G G
 refine⟨w.length+d,λf k=> ?_,?_⟩
 ·rw[UR (w:=v) G,agr f k]
 rw [UR (w:=v) G];have a:=h d;rw[ut d w.length] at a;rw[a,<-agr d G];exact j
theorem aRy: ∀(ws:AD) (m:Nat),0<m->m<=ws.flatten.length-> ∃v∈ws,∃r,r<m/\m<=r+v.length/\ ∀e,e<v.length->lt ws.flatten (r+e)=lt v e
 |[],m,h0,h=>by simp at h;omega
 | w::ws,m,h0,h=>by
  rw[jv,aa] at h;rcases gm w.length m with g|g
  ·obtain ⟨v,d,r,h1,i,b⟩:=aRy ws (m-w.length) G G;refine⟨v,fw _ d,w.length+r,G,G,λe a=> ?_⟩;rw[jv,<-b e a];unfold lt;rw[af,af,ji G,show w.length+r+e-w.length=r+e by omega]
  refine ⟨w,cD,0,h0,G,λe a=> ?_⟩;rw[jv,oh];unfold lt;rw[af,af,jh a]
theorem aWu {w:AH} {ws:AD} (l:oP w=true) (k: ∀v∈ws,oP v=true) (o: ∀v∈ws,¬Lt (om w) (om v)):jZ (w++ws.flatten) (w++ws.flatten).length=w.length:=by
 have u:=((jL w).1 l).1;refine MS (by rw[Dm];exact l;rfl) _ cD λm h1 x=> ?_;cases hb:oP ((w++ws.flatten).take m) with
 |false=>rfl
 | true=>
  exfalso;rw[aa] at x;obtain⟨v,j,r,r1,r2,A⟩:=aRy ws (m-w.length) G G;have i:((w++ws.flatten).take m).length=m:=by rw[ax,aa];omega
  obtain⟨d,d1,d2,d3⟩:=aEs hb (r:=w.length+r) G G;rw[i] at d1;have hs: ∀e,e<m->lt ((w++ws.flatten).take m) e=lt (w++ws.flatten) e:=λe a=>lt_take a
  have h: ∀e,e<w.length->lt (w++ws.flatten) e=lt w e:=λe a=>by
   unfold lt;rw[af,af,jh a]
  have b: ∀e,e<v.length->lt (w++ws.flatten) (w.length+r+e)=lt v e:=λe a=>by
   rw[<-A e a];unfold lt;rw[af,af,ji G,show w.length+r+e-w.length=r+e by omega]
  have q:=k v j
  have p: ∀e,e<d->lt (w++ws.flatten) e=lt v e:=λe a=>by
   have:=d2 e a;rwa[hs _ G,hs _ G,b e G] at this
  have y:lt (w++ws.flatten) d<lt v d:=by rwa[hs _ G,hs _ G,b d G] at d3
  rcases gm d w.length with g|g
  ·refine o v j ⟨d,λe a=> ?_,?_⟩
   ·rw[UR (w:=w) G,UR (w:=v) G,<-p e a,h e G]
   rw [UR (w:=w) g,UR (w:=v) G,<-h d g];exact y
  exact o v j (longer u q G λe a=>by rw[<-p e G,h e a])
theorem aSf: ∀ {ws:AD},(∀v∈ws,oP v=true)->ws.Pairwise (λa b=> ¬Lt (om a) (om b))->eO ws.flatten=ws.map λw=>(w.length:Int)
 |[],_,_=>WA rfl
 |w::ws,hl,hp=>by
  obtain⟨h1,g⟩:=jb.1 hp;have e:=hl w cD;have i:=((jL w).1 e).1;have h:=aWu e (λv d=>hl v (fw _ d)) h1;rw[jv,MX (by rw[aa];omega),h,Bo,jg,aSf (λv d=>hl v (fw _ d)) g];rfl
theorem aMt (ws:AD) (k:Nat):ps (ws.map λw=>(w.length:Int)) k=((ws.take k).flatten.length:Int):=by
 unfold ps;rw[bu,<-Bt]
 induction ws.take k with
 |nil=>rfl
 |cons w l ih=>rw[jg,uy,ih,jv,aa];omega
theorem aXn (ws:AD):jH ws.flatten (ws.map λw=>(w.length:Int)) ws.length=ws:=by
 refine su (by rw[yI];omega) λk h1 a=> ?_;simp only[jH,yt,zu];rw[aMt,bu,jY (by rw[bn];exact a),yt,bu]
 have e:ws.flatten=(ws.take k).flatten++(ws[k]++(ws.drop (k+1)).flatten):=by
  conv=>lhs;rw[<-ed k ws,nk a]
  rw[lq,jv]
 rw[e,Bo rfl,Dm rfl]
theorem aBq {ws:AD} (hl: ∀v∈ws,oP v=true) (hp:ws.Pairwise (λa b=> ¬Lt (om a) (om b))):bws ws.flatten=ws:=by
 unfold bws;rw[aSf hl hp,bn];exact aXn ws
end Go.Pure
namespace Go.Pure
open Go Go.Eng
section
variable {l:AH}
def iN (l:AH):AD:=((bR (lfL l)).reverse).map (bS l)
theorem aPk (l:AH):backL l (bR (lfL l))=(iN l).flatten:=rfl
theorem JL (hl:aI l) {c:AH} (hc:c∈bR (lfL l)): ∃i:Int,(0<=i/\i<l.length)/\Ring (lfL l) i c/\rd c 0=i:=by
 obtain⟨i,h,r⟩:=(aOo (nA hl)).ring c hc;rw[oF] at h;exact⟨i,h,r,r.at_ 0 r.pos⟩
theorem DZ (hl:aI l): ∀v∈iN l,oP v=true:=λv a=>by
 obtain⟨c,hc,rfl⟩:=gq.1 a;obtain⟨i,h,r,_⟩:=JL hl (yu.1 hc);exact bBk hl h.1 h.2 r
theorem TI (hl:aI l):(iN l).Pairwise (λa b=> ¬Lt (om a) (om b)):=by
 unfold iN;rw[Fq];refine Fg.2 (iv.2 ?_);refine mh (λ{c d} hc g h=> ?_) (aOo (nA hl)).heads;obtain⟨i,hi,r,e⟩:=JL hl hc;obtain⟨k,hk,q,f⟩:=JL hl g;rw[RH hl hi.1 hi.2 r,RH hl hk.1 hk.2 q];exact aYr hl hi.1 G hk.2
theorem LB (hl:aI l):bws (backL l (bR (lfL l)))=iN l:=by
 rw[aPk];exact aBq (DZ hl) (TI hl)
theorem bOs {ws:AD} {w:Int} {j:Nat}:tw ws (w,(j:Int))=λd=>om (rdl ws w) (j+d):=by
 funext d;unfold tw om;simp only[bu]
theorem ZW (hl:aI l) {i:Int} {c:AH} (i0:0<=i) (hi:i<l.length) (hc:Ring (lfL l) i c):((List.range c.length).map λj=>kZ l j i).Perm c:=by
 have d:=hc.pos
 have h: ∀j,j<c.length->kZ l j i=rd c (((c.length-j)%c.length:Nat):Int):=λj g=>by
  rw[DY hl i0 hi hc G];rcases fe j with z|z
  ·subst z;rw[yx,hc.close,Nat.mod_self,hc.at_ 0 d];rfl
  rw[lm G,hc.at_ _ G]
 refine uP ?_ (λx o=> ?_) cD
 ·refine iv.2 (mh (λ{a b} m hb m6 e=> ?_) xm);have m:=jr.1 m;have hb:=jr.1 hb;rw[h a m,h b hb] at e;have h1:=yh (c.length-a) d;have p:=yh (c.length-b) d;have:=mJ hc.nodup G G G G e;have k:(c.length-a)%c.length=(c.length-b)%c.length:=G
  refine m6 ?_;rcases fe a with z|z
  ·rcases fe b with y|y
   ·omega
   rw[z,yx,Nat.mod_self,lm G] at k;omega
  rcases fe b with y|y
  ·rw[y,yx,Nat.mod_self,lm G] at k;omega
  rw[lm G,lm G] at k;omega
 obtain ⟨j,g,rfl⟩:=gq.1 o;have g:=jr.1 g;have h1:=yh (c.length-j) d;rw[h j g];exact bM G G
theorem yK (hl:aI l): ∀k:Nat,k<=(bR (lfL l)).length->((iB (iN l) k).map (tw (iN l))).Perm (((((bR (lfL l)).reverse).take k).flatten).map (U l))
 |0,_=> .refl _
 | k+1,hk=>by
  have b:=yK hl k G;have ci:k<(bR (lfL l)).reverse.length:=by rw[kz];omega
  rw[iB,jc,rf,au ci,lq,jc];refine b.append ?_;simp only[Bj,jv,Ar,ik];have gs:(bR (lfL l)).reverse[k]∈bR (lfL l):=yu.1 (mg ci)
  have a:rdl (iN l) (k:Int)=bS l (bR (lfL l)).reverse[k]:=by
   unfold rdl iN;rw[bu,af,mr,au ci];rfl
  generalize (bR (lfL l)).reverse[k]=c at gs a;obtain⟨i,hi,r,_⟩:=JL hl gs;have h1:=(ZW hl hi.1 hi.2 r).map (U l);refine List.Perm.trans (.of_eq ?_) h1;rw[a,kG];unfold turnsOf;rw[qp,qp];refine vg λj _=> ?_;show tw (iN l) ((k:Int),(j:Int))=U l (kZ l j i);rw[bOs,a,RH hl hi.1 hi.2 r];funext d;rw[CV]
theorem DV (hl:aI l) {q:Int} (d:0<=q) (b:q<l.length): ∃m:Nat,0<m/\kZ l m q=q:=by
 have hp:=xU (nA hl);obtain⟨c,hc,a⟩:=ny.1 (hp.symm.subset (aY.2 ⟨d,by rw[oF];exact b⟩));obtain⟨i,hi,r,_⟩:=JL hl hc;obtain⟨j,g,e⟩:=gq.1 ((ZW hl hi.1 hi.2 r).symm.subset a);refine⟨c.length,r.pos,?_⟩;rw[<-e,<-rX,ut,rX,TG hl hi.1 hi.2 r]
theorem aHb {q:Int} {m:Nat} (h:kZ l m q=q): ∀t:Nat,kZ l (t*m) q=q
 |0=>by rw[Bi];rfl
 |t+1=>by rw[Cr,rX,aHb h t,h]
theorem aEp {q:Int} {m t:Nat} (d:kZ l m q=q) (m0:0<m) (t0:0<t):U l q (m*t-1)=rd l q:=by
 have h:=aHb d t;rw[Ai] at h;have e:0<m*t:=Ch m0 t0;have a:=CV (l:=l) q (m*t-1) 0;rw[qw,CU] at a;rw[<-a];have b:=rX (l:=l) q (m*t-1) 1;rw[show m*t-1+1=m*t by omega,h] at b;rw[show phi l (kZ l (m*t-1) q)=kZ l 1 (kZ l (m*t-1) q) from rfl,<-b]
theorem aTu (hl:aI l) {T:AE} (hp:T.Perm (iB (bws (backL l (bR (lfL l)))) (bws (backL l (bR (lfL l)))).length)) (v:T.Pairwise (kP (bws (backL l (bR (lfL l)))))):T.map (lastB (bws (backL l (bR (lfL l)))))=l:=by
 rw[LB hl] at hp v ⊢;have hlen:(iN l).length=(bR (lfL l)).length:=by unfold iN;rw[bn,kz]
 have h1:(T.map (tw (iN l))).Perm ((iota l.length).map (U l)):=by
  refine(hp.map _).trans ?_;rw[hlen];refine(yK hl _ (dn _)).trans ?_;rw[bg (by rw[kz];exact dn _)];have hc:=xU (nA hl);rw[oF] at hc;exact(((Cb _).flatten).trans hc).map _
 have H:(T.map (tw (iN l))).Pairwise λa b=> ¬Lt b a:=iv.2 (v.imp λ{t u} h ci=>by
  rcases h with h|h
  ·exact h.asymm ci
  exact ci.not_eq λi=>(h.1 i).symm)
 have J:((iota l.length).map (U l)).Pairwise λa b=> ¬Lt b a:=iv.2 (mh (λ{i k} hi hk h=>by
  have hi:=aY.1 hi;have hk:=aY.1 hk
  exact aYr hl hi.1 (Be h) hk.2) (xP l.length))
 have same:T.map (tw (iN l))=(iota l.length).map (U l):=h1.eq_of_pairwise (λa b _ _ x y=>by
  rcases BL a b with z|z|z
  ·exact absurd z y
  ·exact funext z
  exact absurd z x) H J
 have w:T.length=l.length:=by
  have:=bi List.length same;rwa[bn,bn,bI] at this
 refine bP (by rw[bn];exact w) λq g p=> ?_;rw[bn] at p;rw[aQy g p];have F:=vR.1 (hp.subset (lV (l:=T) g p))
 have B:tw (iN l) (rdp T q)=U l q:=by
  have r:(T.map (tw (iN l)))[q.toNat]? =some (tw (iN l) (rdp T q)):=by
   rw[mr,au G];unfold rdp;rw[af,au G];rfl
  have A:((iota l.length).map (U l))[q.toNat]? =some (U l q):=by
   rw[mr,au (by rw[bI];omega)];have:=vN (n:=l.length) g G;rw[fH g (by rw[bI];omega)] at this;rw[this];rfl
  rw[same,A] at r;exact(fo r).symm
 obtain⟨m,m0,D⟩:=DV hl g (by omega:q<l.length);obtain⟨a1,a2,a3,a4⟩:=F;have i9:0<(rdl (iN l) (rdp T q).1).length:=G
 generalize K:(rdl (iN l) (rdp T q).1).length=d at i9 a4;have rg:U l q (m*d-1)=rd l q:=aEp D m0 i9;rw[<-rg,<-B];have L:0<m*d:=Ch m0 i9;unfold lastB tw rd;rw[K];congr 1;obtain⟨j,C⟩: ∃j:Nat,(rdp T q).2=j:=⟨(rdp T q).2.toNat,G⟩;rw[C,bu,show(j:Int)+(d:Int)-1=((j+d-1:Nat):Int) by omega,<-zm,bu]
 have e:j+(m*d-1)=(j+d-1)+d*(m-1):=by
  obtain⟨o,rfl⟩: ∃o,m=o+1:=⟨m-1,G⟩;rw[Cr,Nat.add_sub_cancel,Ai d o];omega
 rw[e,Nat.add_mul_mod_self_left]
end
def aTb:AH:=(List.range 256).map λc:Nat=>(c:Int)
theorem aAk {x:Int}:x∈aTb↔0<=x/\x<256:=by
 unfold aTb;rw[gq];constructor
 ·rintro ⟨c,hc,rfl⟩;have:=jr.1 hc;omega
 intro h;exact⟨x.toNat,jr.2 G,G⟩
theorem aKe:aTb.Nodup:=iv.2 (List.Pairwise.imp (λh e=>h G) xm)
def aEg:Nat->AD
 |0=>[[]]
 |n+1=>aTb.flatMap λc=>(aEg n).map λw=>c::w
theorem rY: ∀ {n:Nat} {w:AH},w∈aEg n↔w.length=n/\aI w
 |0,w=>by
  rw[aEg,gz];exact⟨λh=>by subst h;exact⟨rfl,λx a=>by cases a⟩,λh=>di h.1⟩
 | n+1,w=>by
  rw[aEg,zo];constructor
  ·rintro ⟨c,hc,d⟩;obtain⟨v,b,rfl⟩:=gq.1 d;have b:=rY.1 b;refine⟨by simp[b.1],λx a=> ?_⟩;rcases il.1 a with rfl|a
   ·exact aAk.1 hc
   exact b.2 x a
  rintro ⟨hl,hb⟩;cases w with
  |nil=>simp at hl
  |cons c v=>exact⟨c,aAk.2 (hb c cD),gq.2 ⟨v,rY.2 ⟨by simpa using hl,λx a=>hb x (fw _ a)⟩,rfl⟩⟩
theorem XF: ∀n:Nat,(aEg n).Nodup
 |0=>by rw[aEg];exact ql _ _
 |n+1=>by
  rw[aEg];refine List.pairwise_flatMap.2 ⟨λc _=>iv.2 ((XF n).imp λh e=>h (List.cons.inj e).2),aKe.imp λ{c d} h x a y b e=> ?_⟩;obtain⟨v,_,rfl⟩:=gq.1 a;obtain⟨w,_,rfl⟩:=gq.1 b;exact h (List.cons.inj e).1
theorem bIf {l k:AH} (hl:aI l) (hk:aI k) (hlen:l.length=k.length) (h:backL l (bR (lfL l))=backL k (bR (lfL k))):l=k:=by
 have A:iN l=iN k:=by rw[<-LB hl,<-LB hk,h]
 have all: ∀ {x:AH},aI x->((iB (iN x) (iN x).length).map (tw (iN x))).Perm ((iota x.length).map (U x)):=λ{x} d=>by
  have u:(iN x).length=(bR (lfL x)).length:=by unfold iN;rw[bn,kz]
  rw[u];refine(yK d _ (dn _)).trans ?_;rw[bg (by rw[kz];exact dn _)];have hc:=xU (nA d);rw[oF] at hc;exact(((Cb _).flatten).trans hc).map _
 have j: ∀ {x:AH},aI x->((iota x.length).map (U x)).Pairwise λa b=> ¬Lt b a:=λ{x} d=>iv.2 (mh (λ{i k} hi hk h=>by
  have hi:=aY.1 hi;have hk:=aY.1 hk
  exact aYr d hi.1 (Be h) hk.2) (xP x.length))
 have h1:=all hl;rw[A] at h1
 have same:(iota l.length).map (U l)=(iota k.length).map (U k):=(h1.symm.trans (all hk)).eq_of_pairwise (λa b _ _ x y=>by
  rcases BL a b with z|z|z
  ·exact absurd z y
  ·exact funext z
  exact absurd z x) (j hl) (j hk)
 refine bP hlen λq o p=> ?_
 have at_: ∀ {x:AH},q<x.length->((iota x.length).map (U x))[q.toNat]? =some (U x q):=λ{x} d=>by
  rw[mr,au (by rw[bI];omega)];have:=vN (n:=x.length) o d;rw[fH o (by rw[bI];omega)] at this;rw[this];rfl
 have e:=at_ p;rw[same,at_ G] at e;have v:U k q=U l q:=fo e;obtain⟨m,m0,w⟩:=DV hl o p;obtain⟨B,g,r⟩:=DV hk o (by omega:q<k.length);have a:=aEp w m0 g;have b:=aEp r g m0;rw[Ai,v,a] at b;exact b
theorem aYh {s:AH} (hs:aI s): ∃l:AH,aI l/\l.length=s.length/\backL l (bR (lfL l))=s:=by
 have hp:((aEg s.length).map λl=>backL l (bR (lfL l))).Perm (aEg s.length):=by
  refine uP ?_ (λx g=> ?_) cD
  ·refine iv.2 (mh (λ{a b} d hb m6 e=> ?_) (XF _));have d:=rY.1 d;have hb:=rY.1 hb;exact m6 (bIf d.2 hb.2 G e)
  obtain ⟨l,hl,rfl⟩:=gq.1 g;have hl:=rY.1 hl;exact rY.2 ⟨by rw[aYi,aJi (nA hl.2),oF,hl.1],aYj hl.2 _⟩
 obtain⟨l,hl,e⟩:=gq.1 (hp.symm.subset (rY.2 ⟨rfl,hs⟩));have hl:=rY.1 hl;exact⟨l,hl.2,hl.1,e⟩
end Go.Pure
namespace Go.Pure
open Go Go.Eng
section
variable {w r a b l:AH} {k:Nat} {ws:AD} {T:AE}
def ER (w:AH):List (Nat->Int):=(List.range w.length).map λj=>rot w j
def EW (ws:AD):List (Nat->Int):=ws.flatMap ER
theorem SE (ws:AD): ∀k:Nat,k<=ws.length->(iB ws k).map (tw ws)=EW (ws.take k)
 |0,_=>rfl
 | k+1,hk=>by
  have a:=SE ws k G;rw[iB,jc,a,rf,au G];unfold EW;rw[Db];congr 1;simp only[Bj,Ah,List.flatMap_nil,ik]
  have e:rdl ws (k:Int)=ws[k]:=by
   unfold rdl;rw[bu,af,au G];rfl
  unfold turnsOf ER;rw[qp,e];refine vg λj _=> ?_;show tw ws ((k:Int),(j:Int))=rot ws[k] j;rw[bOs,e];rfl
theorem aPr (a b:AD):EW (a++b)=EW a++EW b:=Db
theorem aEu {a b:AD} (h:a.Perm b):(EW a).Perm (EW b):=h.flatMap_right _
theorem bKh (u:AH) (q:Nat):rot u (q+u.length)=rot u q:=by
 rw[<-yM (q+u.length),Ii,yM]
theorem bAz (u:AH) (q k:Nat):rot u (k*u.length+q)=rot u q:=by
 rw[<-yM (k*u.length+q),ut,Nat.add_mul_mod_self_right,yM]
theorem bOg {r:Nat} (b:r<=w.length) (hn:0<w.length):(ER (lN w r)).Perm (ER w):=by
 have hl:=qP w r
 have e:ER (lN w r)=(ER w).drop r++(ER w).take r:=by
  refine su (by unfold ER;simp[hl];omega) λj h1 a=> ?_;unfold ER at h1 a ⊢;rw[bn,zf,hl] at h1;rw[yt,zu,aCp b hn];rcases gm j (w.length-r) with g|g
  ·rw[List.getElem_append_left (by simp;exact g),xz,yt,zu]
  rw [List.getElem_append_right cJ,uf,yt,zu];simp only[az,bn,zf];rw[<-bKh w (j-(w.length-r))];congr 1;omega
 rw[e];refine ul.trans ?_;rw[ed]
theorem aCq (a:0<r.length) (hk:0<k) (q:Nat):rot (rep r k) q=rot r q:=by
 funext d;show om (rep r k) (q+d)=om r (q+d);exact aNc a hk _
theorem bUh (a:0<r.length) (hk:0<k):ER (rep r k)=EW (List.replicate k r):=by
 have h1: ∀m:Nat,(List.range (m*r.length)).map (λj=>rot r j)=EW (List.replicate m r):=λm=>by
  induction m with
  |zero=>simp[EW]
  |succ m ih=>
   rw[zb,aPr,Cr,List.range_add,jc,ih,qp];congr 1;unfold EW ER;simp only[Ah,List.flatMap_nil,ik];exact vg λj _=>bAz r j m
 rw[<-h1 k];unfold ER;rw[lU,bu];exact vg λj _=>aCq a hk j
def zN (rs:List RT):AD:=rs.flatMap λr=>List.replicate r.2.toNat r.1
def exs (ws:AD):AD:=zN (fQ ws)
theorem bOh (d:0<w.length):(ER w).Perm (EW (List.replicate (lT w).2.toNat (lT w).1)):=by
 have hb:=aDh w;have hl:=lD w
 have h1:(ER (lw w)).Perm (ER w):=by
  have:=bOg (w:=w) (r:=(oN w).toNat) G d;rwa[ky hb.1] at this
 have b:=vI (c:=lw w) G;have g:=qQ (c:=lw w) G;have e:=AQ (c:=lw w) G;have hp:=nT (u:=lw w) G;have a:=bUh (r:=jX (lw w)) (k:=(gP (lw w)).toNat) G G;rw[ky G,b] at a;rw[a] at h1;exact h1.symm
theorem aKs: ∀ws:AD,(EW ws).Perm (EW (zN (dL ws)))
 |[]=> .refl _
 | w::ws=>by
  have b:=aKs ws;rw[show w::ws=[w]++ws from rfl,aPr,kY];unfold zN;rw[Db,aPr];refine List.Perm.append ?_ b;by_cases h:0<w.length
  ·have e:dL [w]=[lT w]:=by unfold dL;simp[h]
   rw[e];have:=bOh h;unfold EW at this ⊢;simpa using this
  have e:dL [w]=[]:=by unfold dL;simp[h]
  have a:w=[]:=di G;rw[e,a];unfold EW ER;simp
theorem bIw (ws:AD):(EW ws).Perm (EW (exs ws)):=by
 refine(aKs ws).trans (aEu ?_);unfold exs zN;exact(jI ws).symm.flatMap_right _
theorem bBa (M:0<w.length):oP (lT w).1=true:=by
 have hc:0<(lw w).length:=by rw[lD];exact M
 generalize v:lw w=c at hc;have N:oN c=0:=by rw[<-v];exact bMa w
 have x: ∀q,¬Lt (rot c q) (om c):=λq=>by
  have F:=yX hc;have:=F.any q
  have C:jW c c.length=0:=by
   have:(jW c c.length:Int)=0:=N;omega
  rw[C] at this;have D:rot c 0=om c:=by funext d;show om c (0+d)=_;rw[oh]
  rwa[D] at this
 obtain⟨p,hp,p1,p2,K,y⟩:=QC hc
 have A:(lT w).1=c.take p:=by
  show jX (lw w)=_;rw[v];unfold jX;rw[hp];rfl
 rw[A];have h:om c=om (c.take p):=funext K;generalize L:c.take p=r at h;have B:r.length=p:=by rw[<-L,ax];omega
 have b: ∀q,rot c q=rot r q:=λq=>by
  funext d;show om c (q+d)=om r (q+d);rw[h]
 have ci: ∀j,0<j->j<p->Lt (om r) (rot r j):=λj j0 J=>by
  rcases BL (om r) (rot r j) with a|a|a
  ·exact a
  ·exfalso
   have:Per (om c) j:=λi=>by
    have:=a i;rw[h,this];show om r (i+j)=om r (j+i);rw[ut]
   have:=y j j0 this;omega
  have:=x j;rw[b,h] at this;exact absurd a this
 rw[jL];refine⟨G,λj j0 J=> ?_⟩;rw[qI _ _ (by rw[az];omega)];obtain⟨d,h1,o⟩:=ci j j0 G
 have l: ∀e,lt (r.drop j) e=lt r (j+e):=λe=>by
  unfold lt;rw[af,af,ui]
 have m: ∀e,rot r j e=om r (j+e):=λe=>rfl;rcases gm d (p-j) with g|g
 ·refine ⟨d,by rw[az];omega,λe H=> ?_,?_⟩
  ·have:=h1 e H;rw[m,nU G,nU G] at this;rw[l];exact this
  rw [m,nU G,nU G] at o;rw[l];exact o
 exfalso;have:=x (p-j);rw[b,h] at this;have u:=qE r;rw[B] at u;refine this ⟨d-(p-j),λi hi=> ?_,?_⟩
 ·have k:=h1 (p-j+i) G;rw[m,show j+(p-j+i)=i+p by omega,u] at k;exact k
 have k:=o;rw[m,show j+d=(d-(p-j))+p by omega,u] at k;show om r (p-j+(d-(p-j)))<om r (d-(p-j));rw[show p-j+(d-(p-j))=d by omega];exact k
theorem WO: ∀a b:AH,cmpL a b<0->(∃d,d<a.length/\d<b.length/\(∀e,e<d->lt a e=lt b e)/\lt a d<lt b d)\/a.length<b.length/\ ∀e,e<a.length->lt a e=lt b e
 |[],[],h=>by simp[cmpL] at h
 |[],y::b,_=> .inr ⟨cD,λe g=>by simp at g⟩
 |_::_,[],h=>by simp[cmpL] at h
 | x ::a,y::b,h=>by
  rw[cmpL] at h;split at h
  ·rename_i c;exact .inl ⟨0,cD,cD,λe g=>G,c⟩
  split at h
  ·omega
  have i:x=y:=G
  rcases WO a b h with⟨d,h1,j,k,l⟩|⟨h1,j⟩
  ·refine .inl ⟨d+1,cJ,cJ,λe g=> ?_,?_⟩
   ·rcases e with _|e
    ·exact i
    exact k e G
   exact l
  refine .inr ⟨cJ,λe g=> ?_⟩;rcases e with _|e
  ·exact i
  exact j e (by simp at g;omega)
theorem bDs (l:0<a.length) (hb:oP b=true) (h:cmpL a b<0):Lt (om a) (om b):=by
 rcases WO a b h with⟨d,h1,g,j,k⟩|⟨h1,g⟩
 ·exact⟨d,λe i=>by rw[nU G,nU G];exact j e i,by rw[nU h1,nU g];exact k⟩
 exact longer l hb h1 λe i=>(g e i).symm
theorem bDt (d:oP a=true) (hb:oP b=true):cmpL a b<=0↔ ¬Lt (om b) (om a):=by
 have e:=((jL a).1 d).1;have i:=((jL b).1 hb).1;constructor
 ·intro h;rcases zt h with g|g
  ·exact(bDs e hb g).asymm
  rw[(cmpL_eq a b).1 g];exact λh=>h.asymm h
 intro h;rcases bz 0 (cmpL a b) with g|g
 ·exact absurd (bDs i d (by rw[mH a b];omega)) h
 exact g
theorem aCi (l:AH):(bR (lfL l)).map (bS l)=(iN l).reverse:=by
 unfold iN;rw[Fq,Gn]
theorem bOf (hl:aI l):(EW (iN l)).Perm ((iota l.length).map (U l)):=by
 have hlen:(iN l).length=(bR (lfL l)).length:=by unfold iN;rw[bn,kz]
 have a:=SE (iN l) (iN l).length (dn _);rw[qa] at a;rw[<-a,hlen];refine(yK hl _ (dn _)).trans ?_;rw[bg (by rw[kz];exact dn _)];have hc:=xU (nA hl);rw[oF] at hc;exact(((Cb _).flatten).trans hc).map _
theorem SB (hl:aI l) (hp:T.Perm (iB ws ws.length)) (F:T.Pairwise (kP ws)) (hE:(EW ws).Perm (EW (iN l))):T.map (lastB ws)=l:=by
 have h1:(T.map (tw ws)).Perm ((iota l.length).map (U l)):=by
  refine(hp.map _).trans ?_;have v:=SE ws ws.length (dn _);rw[qa] at v;rw[v];exact hE.trans (bOf hl)
 have J:(T.map (tw ws)).Pairwise λa b=> ¬Lt b a:=iv.2 (F.imp λ{t u} h ci=>by
  rcases h with h|h
  ·exact h.asymm ci
  exact ci.not_eq λi=>(h.1 i).symm)
 have K:((iota l.length).map (U l)).Pairwise λa b=> ¬Lt b a:=iv.2 (mh (λ{i k} hi hk h=>by
  have hi:=aY.1 hi;have hk:=aY.1 hk
  exact aYr hl hi.1 (Be h) hk.2) (xP l.length))
 have same:T.map (tw ws)=(iota l.length).map (U l):=h1.eq_of_pairwise (λa b _ _ x y=>by
  rcases BL a b with z|z|z
  ·exact absurd z y
  ·exact funext z
  exact absurd z x) J K
 have w:T.length=l.length:=by
  have:=bi List.length same;rwa[bn,bn,bI] at this
 refine bP (by rw[bn];exact w) λq g p=> ?_;rw[bn] at p;rw[aQy g p];have H:=vR.1 (hp.subset (lV (l:=T) g p))
 have B:tw ws (rdp T q)=U l q:=by
  have r:(T.map (tw ws))[q.toNat]? =some (tw ws (rdp T q)):=by
   rw[mr,au G];unfold rdp;rw[af,au G];rfl
  have A:((iota l.length).map (U l))[q.toNat]? =some (U l q):=by
   rw[mr,au (by rw[bI];omega)];have:=vN (n:=l.length) g G;rw[fH g (by rw[bI];omega)] at this;rw[this];rfl
  rw[same,A] at r;exact(fo r).symm
 obtain⟨m,m0,D⟩:=DV hl g (by omega:q<l.length);obtain⟨a1,a2,a3,a4⟩:=H;have i9:0<(rdl ws (rdp T q).1).length:=G
 generalize L:(rdl ws (rdp T q).1).length=d at i9 a4;have rg:U l q (m*d-1)=rd l q:=aEp D m0 i9;rw[<-rg,<-B];have M:0<m*d:=Ch m0 i9;unfold lastB tw rd;rw[L];congr 1;obtain⟨j,C⟩: ∃j:Nat,(rdp T q).2=j:=⟨(rdp T q).2.toNat,G⟩;rw[C,bu,show(j:Int)+(d:Int)-1=((j+d-1:Nat):Int) by omega,<-zm,bu]
 have e:j+(m*d-1)=(j+d-1)+d*(m-1):=by
  obtain⟨o,rfl⟩: ∃o,m=o+1:=⟨m-1,G⟩;rw[Cr,Nat.add_sub_cancel,Ai d o];omega
 rw[e,Nat.add_mul_mod_self_left]
theorem aDu {ws:AD}: ∀v∈exs ws,oP v=true:=λv b=>by
 obtain⟨r,a,h⟩:=zo.1 b;obtain⟨_,rfl⟩:=Bg.1 h;obtain⟨w,_,d,rfl⟩:=rD a;exact bBa d
theorem OO: ∀ {rs:List RT},rs.Pairwise (λa b=>lF a b<=0)->(zN rs).Pairwise λa b=>cmpL a b<=0
 |[],_=> .nil
 |r::rs,h=>by
  obtain⟨h1,e⟩:=jb.1 h;have k:=OO e;show(List.replicate r.2.toNat r.1++zN rs).Pairwise _;rw[kv];refine⟨List.pairwise_replicate.2 (.inr (by rw[(cmpL_eq r.1 r.1).2 rfl];omega)),k,λa i b hb=> ?_⟩;obtain⟨_,rfl⟩:=Bg.1 i;obtain⟨q,j,d⟩:=zo.1 hb;obtain⟨_,rfl⟩:=Bg.1 d;have:=vS.1 (h1 q j);rcases this with g|g
  ·omega
  rw[(cmpL_eq _ _).2 g.1];omega
theorem aWv {ws:AD} (hb: ∀w∈ws,aI w): ∀v∈exs ws,aI v:=λv d=>by
 obtain⟨r,b,h⟩:=zo.1 d;obtain⟨_,rfl⟩:=Bg.1 h;obtain⟨w,h1,e,rfl⟩:=rD b;have a:=hb w h1;exact(aI.append (a.drop _) (a.take _)).take _
theorem GC {ws:AD} (hb: ∀w∈ws,aI w) (hp:T.Perm (iB ws ws.length)) (B:T.Pairwise (kP ws)):(bR (lfL (T.map (lastB ws)))).map (bS (T.map (lastB ws)))=exs ws/\ ∀(xs:AD) (d:AE),exs xs=exs ws->d.Perm (iB xs xs.length)->d.Pairwise (kP xs)->d.map (lastB xs)=T.map (lastB ws):=by
 have q: ∀v∈(exs ws).reverse,oP v=true:=λv i=>aDu v (yu.1 i);have r:(exs ws).reverse.Pairwise λa b=> ¬Lt (om a) (om b):=Fg.2 (mh (λ{a b} A hb h=>(bDt (aDu a A) (aDu b hb)).1 h) (OO (qB ws)))
 have p:aI (exs ws).reverse.flatten:=λx C=>by
  obtain⟨v,i,j⟩:=ny.1 C;exact aWv hb v (yu.1 i) x j
 have o:=aBq q r;obtain⟨l,hl,_,m⟩:=aYh p;have k:iN l=(exs ws).reverse:=by rw[<-LB hl,m,o]
 have hE: ∀xs:AD,exs xs=exs ws->(EW xs).Perm (EW (iN l)):=λxs e=>by
  refine(bIw xs).trans ?_;rw[k,e];exact aEu (Cb _).symm
 have y:=SB hl hp B (hE ws rfl);rw[y];exact⟨by rw[aCi,k,Gn],λxs d e u g=>SB hl u g (hE xs e)⟩
end
section
variable {r L L' TS TS' l:AH} {ws:AD} {e e':Int}
def eY:AD->AH->Int->AH->Option (AD)
 |all,_,_,[]=>if 0<all.length then none else some []
 |all,last,kf,n::ts=>if n<1\/(all.length:Int)<n then none else if rdl all (n-1)≠rdl all 0\/last=rdl all 0/\n<kf then none else(eY (all.drop n.toNat) (rdl all 0) n ts).map λp=>rep (rdl all 0) n::p
def wU:AD->AH->Option (AD × AD)
 |all,[]=>some ([],all)
 |all,n::ts=>if n<1\/(all.length:Int)<n then none else(wU (all.drop n.toNat) ts).map λp=>((all.take n.toNat).flatten::p.1,p.2)
theorem NZ {n:Nat} {e:AD} {i:Int} (a:0<=i) (h1:i<n):rdl (List.replicate n r++e) i=r:=by
 unfold rdl;rw[af,jh (by rw[df];omega),ze,cz G];rfl
theorem EP (r:RT) (rs:List RT):zN (r::rs)=List.replicate r.2.toNat r.1++zN rs:=rfl
theorem WC: ∀ {rs:List RT} {last:AH} {kf:Int},rs.Pairwise (λa b=>lF a b<=0)->(∀r∈rs,1<=r.2)->(∀r∈rs,last=r.1->kf<=r.2)->eY (zN rs) last kf (rs.map Prod.snd)=some (rs.map kL)
 |[],_,_,_,_,_=>rfl
 | r::rs,last,kf,hs,h1,hl=>by
  obtain⟨i,j⟩:=jb.1 hs;have l:=h1 r (.head _);rw[EP,jg,eY];have hlen:(List.replicate r.2.toNat r.1++zN rs).length=r.2.toNat+(zN rs).length:=cD
  rw[bq G,NZ G G,NZ G G]
  rw[bq (by
   rintro(h|⟨h,k⟩)
   ·exact h rfl
   have:=hl r (.head _) h;omega)]
  rw[Bo cD,WC j (λq d=>h1 q (.tail _ d)) (λq d e=>by
   have:=vS.1 (i q d);rcases this with g|g
   ·rw[(cmpL_eq r.1 q.1).2 e] at g;omega
   exact g.2)]
  rfl
theorem TM: ∀ {rs:List RT},(∀r∈rs,1<=r.2)->wU (zN rs) (rs.map Prod.snd)=some (rs.map kL,[])
 |[],_=>rfl
 |r::rs,h1=>by
  have b:=h1 r (.head _);rw[EP,jg,wU];have hlen:(List.replicate r.2.toNat r.1++zN rs).length=r.2.toNat+(zN rs).length:=cD
  rw[bq G,Bo cD,TM (λq a=>h1 q (.tail _ a)),Dm cD];rfl
theorem XB: ∀ {ts:AH} {all ws:AD} {last:AH} {kf:Int},all.Pairwise (λa b=>cmpL a b<=0)->(∀a∈all,cmpL last a<=0)->eY all last kf ts=some ws-> ∃rs:List RT,all=zN rs/\ts=rs.map Prod.snd/\ws=rs.map kL/\(∀r∈rs,1<=r.2)/\rs.Pairwise (λa b=>lF a b<=0)/\ ∀r∈rs,lF (last,kf) r<=0
 | [],all,ws,last,kf,_,_,h=>by
  rw[eY] at h;split at h
  ·cases h
  rename_i c;obtain rfl:=fo h;obtain rfl:=di (show all.length=0 by omega);refine⟨[],rfl,rfl,?_,?_,List.Pairwise.nil,?_⟩
  ·rfl
  ·intro r d;cases d
  intro r d;cases d
 | n ::ts,all,ws,last,kf,hs,hl,h=>by
  rw[eY] at h;split at h
  ·cases h
  rename_i c1;split at h
  ·cases h
  rename_i c2;obtain⟨F,A,rfl⟩:=ii.1 h;have J: ∀i:Int,0<=i->i<all.length->rdl all i=all.getD i.toNat []:=λi _ _=>rfl
  have k:rdl all 0∈all:=by
   unfold rdl;rw[af,au G];exact mg _
  have e: ∀i,(hi:i<all.length)->cmpL (rdl all 0) all[i]<=0:=λi hi=>by
   have o:rdl all 0=all[0]' G:=by
    unfold rdl;rw[af,au G];rfl
   rw[o];rcases fe i with z|z
   ·subst z;rw[(cmpL_eq _ _).2 rfl];omega
   exact dz.1 hs 0 i G hi z
  have C:(all.drop n.toNat).Pairwise λa b=>cmpL a b<=0:=hs.sublist (xw _ _)
  have l: ∀a∈all.drop n.toNat,cmpL (rdl all 0) a<=0:=λa B=>by
   obtain⟨i,hi,rfl⟩:=ib.1 (lu B);exact e i hi
  obtain⟨rs,p,u,v,w,x,j⟩:=XB C l A
  have m:all.take n.toNat=List.replicate n.toNat (rdl all 0):=by
   refine su (by rw[ax,df];omega) λi h1 H=> ?_;rw[ax] at h1;rw[uf,El];have a1:=e i G
   have y:rdl all (n-1)=all[(n-1).toNat]' G:=by
    unfold rdl;rw[af,au G];rfl
   have D:rdl all (n-1)=rdl all 0:=by
    rcases ry (rdl all (n-1)=rdl all 0) with g|g
    ·exact g
    exact absurd (.inl g) c2
   have a2:cmpL all[i] (rdl all 0)<=0:=by
    rw[<-D,y];rcases gm i (n-1).toNat with g|g
    ·exact dz.1 hs i (n-1).toNat G G g
    have:i=(n-1).toNat:=G
    subst this;rw[(cmpL_eq _ _).2 rfl];omega
   rw[mH (rdl all 0)] at a2;exact((cmpL_eq _ _).1 G).symm
  have hk:lF (last,kf) (rdl all 0,n)<=0:=by
   rw[vS];have:=hl _ k;rcases zt this with g|g
   ·exact .inl g
   refine .inr ⟨(cmpL_eq _ _).1 g,?_⟩;rcases bz n kf with q|q
   ·exact absurd (.inr ⟨(cmpL_eq _ _).1 g,q⟩) c2
   exact q
  refine⟨(rdl all 0,n)::rs,?_,by rw[u];rfl,by rw[v];rfl,λr d=> ?_,jb.2 ⟨j,x⟩,λr d=> ?_⟩
  ·rw[EP,<-p,<-m,ed]
  ·rcases il.1 d with rfl|d
   ·show 1<=n;omega
   exact w r d
  rcases il.1 d with rfl|d
  ·exact hk
  exact JZ _ _ _ hk (j r d)
theorem MH: ∀ {ts:AH} {all:AD} {last:AH} {kf:Int},wU all ts=none->eY all last kf ts=none
 |[],_,_,_,h=>by cases h
 | n ::ts,all,last,kf,h=>by
  rw[wU] at h;rw[eY];split
  ·rfl
  rename_i c;rw[bq c] at h;split
  ·rfl
  have:wU (all.drop n.toNat) ts=none:=by
   cases e:wU (all.drop n.toNat) ts with
   |none=>rfl
   |some p=>rw[e] at h;cases h
  rw[MH this];rfl
theorem EK (a:oP r=true) (q:Nat):(q%r.length≠0->Lt (om r) (rot r q))/\(q%r.length=0->rot r q=om r):=by
 have hp:=((jL r).1 a).1;constructor
 ·intro h;have j:=yh q hp;obtain⟨d,h1,b,g⟩:=aEs a (r:=q%r.length) G j;rw[<-yM q];refine⟨d,λe i=> ?_,?_⟩
  ·show om r e=om r (q%r.length+e);rw[nU G,nU G];exact b e i
  show om r d<om r (q%r.length+d);rw[nU G,nU G];exact g
 intro h;rw[<-yM q,h];funext d;show om r (0+d)=om r d;rw[oh]
theorem aGo (a:oP r=true) {n:Int} (hn:1<=n):lT (rep r n)=(r,n):=by
 have hp:=((jL r).1 a).1;obtain⟨k,hk⟩: ∃k:Nat,n=k:=⟨n.toNat,G⟩;subst hk;have b:0<k:=G
 have hlen:(rep r k).length=k*r.length:=by rw[lU,bu]
 have j:0<(rep r k).length:=by rw[hlen];exact Ch b hp
 have y:FL (rep r k) 0:=⟨j,λq _=>by
  rw[aCq hp b,aCq hp b];have x:rot r 0=om r:=(EK a 0).2 (Nat.zero_mod _);rw[x];rcases fe (q%r.length) with z|z
  ·rw[(EK a q).2 z];exact λh=>h.asymm h
  exact((EK a q).1 G).asymm,λq F=>G⟩
 have C:oN (rep r k)=0:=by
  have:=(yX j).one y;unfold oN;omega
 have d:lw (rep r k)=rep r k:=by
  show lN _ (oN _)=_;rw[C,aLi]
 have l:om (rep r k)=om r:=funext λi=>aNc hp b i;obtain⟨m,e,m1,m2,o,v⟩:=QC j
 have B:m=r.length:=by
  have h1:=v r.length G (by rw[l];exact qE r);rcases gm m r.length with g|g
  ·exfalso
   have D:Per (om r) m:=by
    have u:=qE ((rep r k).take m);rw[ax,zh m2] at u;intro i;have:=u i;rw[<-o,<-o,l] at this;exact this
   have A:=(EK a m).1 (by rw[lm g];omega);refine A.not_eq λi=> ?_;show om r i=om r (m+i);rw[ut];exact(D i).symm
  omega
 have w:rl (rep r k)=r.length:=by rw[e,B]
 unfold lT jX gP;rw[d,w,hlen];refine Prod.ext ?_ ?_
 ·show (rep r k).take ((r.length:Int).toNat)=r;rw[bu];obtain⟨p,rfl⟩: ∃p,k=p+1:=⟨k-1,G⟩;unfold rep;rw[bu,Gt,jv,Cg]
 show ((k*r.length:Nat):Int)/(r.length:Int)=k;rw[Ad];exact Int.mul_ediv_cancel _ G
theorem aCu {rs:List RT} (b: ∀r∈rs,oP r.1=true) (h1: ∀r∈rs,1<=r.2):dL (rs.map kL)=rs:=by
 induction rs with
 |nil=>rfl
 | cons r rs ih=>
  have g:=h1 r (.head _);have hl:=b r (.head _);have hp:=((jL r.1).1 hl).1
  have d:0<(kL r).length:=by
   unfold kL;rw[lU];exact Ch G hp
  have e:dL [kL r]=[r]:=by
   have:lT (kL r)=r:=aGo hl g;unfold dL;simp[d,this]
  rw[jg,show kL r::rs.map kL=[kL r]++rs.map kL from rfl,kY,e,ih (λq a=>b q (.tail _ a)) (λq a=>h1 q (.tail _ a))];rfl
def ExtR (ws:AD) (L TS:AH) (e:Int):Prop:=
 (e=2/\(1000<ws.length\/100000<ws.flatten.length)/\L=[]/\TS=[])\/
 (¬(1000<ws.length\/100000<ws.flatten.length)/\e=1/\(∃w∈ws,w.length=0)/\L=[]/\TS=[])\/
 (¬(1000<ws.length\/100000<ws.flatten.length)/\e=0/\(∀w∈ws,0<w.length)/\(∃T:AE,T.Perm (iB ws ws.length)/\T.Pairwise (kP ws)/\L=T.map (lastB ws))/\TS=(fQ ws).map Prod.snd)
theorem ExtR.same {ws xs:AD} (h:ExtR ws L TS e) (a:ExtR xs L' TS' e') (hb: ∀w∈ws,aI w) (hl:xs.length=ws.length) (o:xs.flatten.length=ws.flatten.length) (k:(∃w∈xs,w.length=0)↔ ∃w∈ws,w.length=0) (q:(dL xs).Perm (dL ws)):e'=e/\L'=L/\TS'=TS:=by
 have j:=aGp q;unfold ExtR at a;rw[hl,o,k,j] at a;rcases h with⟨rfl,c,rfl,rfl⟩|⟨c,rfl,d,rfl,rfl⟩|⟨c,rfl,d,⟨T,hp,p,rfl⟩,rfl⟩
 ·rcases a with⟨rfl,_,rfl,rfl⟩|⟨c',_⟩|⟨c',_⟩
  ·exact⟨rfl,rfl,rfl⟩
  ·exact absurd c c'
  exact absurd c c'
 ·rcases a with⟨_,c',_⟩|⟨_,rfl,_,rfl,rfl⟩|⟨_,_,b,_⟩
  ·exact absurd c' c
  ·exact⟨rfl,rfl,rfl⟩
  have d2:=k.2 d;obtain⟨w,i,e⟩:=d2;have:=b w i;omega
 rcases a with⟨_,c',_⟩|⟨_,_,b,_⟩|⟨_,rfl,_,⟨l,m,g,rfl⟩,rfl⟩
 ·exact absurd c' c
 ·obtain ⟨w,i,e⟩:=b;have:=d w i;omega
 refine⟨rfl,(GC hb hp p).2 xs l (by unfold exs;rw[j]) (by rw[hl] at*;exact m) g,rfl⟩
theorem ExtR.one {ws:AD} (h:ExtR ws L TS e) (a:ExtR ws L' TS' e') (hb: ∀w∈ws,aI w):e'=e/\L'=L/\TS'=TS:=h.same a hb rfl rfl Iff.rfl (.refl _)
theorem YM {l:AH} (hl:aI l): ∀v∈(bR (lfL l)).map (bS l),oP v=true:=λv a=>by
 rw[aCi] at a;exact DZ hl v (yu.1 a)
theorem II (hl:aI l):((bR (lfL l)).map (bS l)).Pairwise λa b=>cmpL a b<=0:=by
 rw[aCi];refine Fg.2 (mh (λ{a b} d hb h=> ?_) (TI hl));exact(bDt (DZ hl b hb) (DZ hl a d)).2 h
theorem ES (hl:aI l):((bR (lfL l)).map (bS l)).flatten.length=l.length:=by
 have hc:=xU (nA hl);rw[oF] at hc;have h1:=hc.length_eq;rw[bI] at h1
 have a: ∀cs:AD,(cs.map (bS l)).flatten.length=cs.flatten.length:=λcs=>by
  induction cs with
  |nil=>rfl
  |cons c cs ih=>rw[jg,jv,jv,aa,aa,ih,kG]
 rw[a,h1]
theorem zV (rs:List RT):(rs.map kL).flatten=(zN rs).flatten:=by
 induction rs with
 |nil=>rfl
 |cons r rs ih=>
  rw[jg,jv,EP,lq,ih];rfl
theorem TL {times:AH} {out rest:AD} {m t:AH} (hl:aI l) (R:l.length<=100000) (S:times.length<=1000) (b:wU ((bR (lfL l)).map (bS l)) times=some (out,rest)) (F:ExtR out m t e) (In: ∀w∈out,aI w):
  eY ((bR (lfL l)).map (bS l)) [] 0 times=if rest.length=0/\e=0/\m=l/\t=times then some out else none:=by
 have y:=YM hl;have n7:=II hl;have A:=ES hl;have x:=aCi l;obtain⟨all,B⟩: ∃all,(bR (lfL l)).map (bS l)=all:=⟨_,rfl⟩;rw[B] at y n7 A b x ⊢;split
 ·rename_i c;obtain⟨_,c1,c2,L⟩:=c;rcases F with⟨h,_⟩|⟨_,h,_⟩|⟨_,_,M,⟨T,hp,v,u⟩,q⟩
  ·omega
  ·omega
  have C:=(GC In hp v).1;rw[<-u,c2,B] at C
  have h1: ∀r∈fQ out,1<=r.2/\0<r.1.length:=λr j=>by
   obtain⟨w,_,p,rfl⟩:=rD j;have hc:0<(lw w).length:=by rw[lD];exact p
   have a1:=qQ hc;have a2:=AQ hc;have a3:=nT hc;exact⟨by show 1<=gP (lw w);omega,by show 0<(jX (lw w)).length;omega⟩
  have hE:all=zN (fQ out):=C;rw[<-L,q,hE] at b ⊢;rw[TM λr h=>(h1 r h).1] at b;have d:=bi Prod.fst (fo b);have g:(fQ out).map kL=out:=d;rw[WC (qB out) (λr h=>(h1 r h).1) (λr h e=>by have:=(h1 r h).2;rw[<-e] at this;simp at this),g]
 rename_i c;cases hb:eY all [] 0 times with
 |none=>rfl
 | some Wb=>
  exfalso;obtain⟨rs,d,g,Q,o,N,_⟩:=XB n7 (λa _=>by cases a<;>simp[cmpL]) hb
  have i: ∀r∈rs,oP r.1=true:=λr h=>y _ (by
   rw[d]
   refine zo.2 ⟨r,h,Bg.2 ⟨by have:=o r h;omega,rfl⟩⟩)
  rw[d,g,TM o] at b;have k:out=rs.map kL:=(bi Prod.fst (fo b)).symm;have J:rest=[]:=(bi Prod.snd (fo b)).symm;have K:dL out=rs:=by rw[k];exact aCu i o
  have D:rs=fQ out:=EA (by rw[K]) N;have X:out.flatten.length=l.length:=by rw[k,zV,<-d,A]
  have P:out.length=times.length:=by rw[k,g,bn,bn]
  rcases F with⟨_,h,_⟩|⟨_,_,⟨w,p,H⟩,_⟩|⟨_,O,M,⟨T,hp,v,u⟩,q⟩
  ·omega
  ·rw [k] at p;obtain⟨r,j,rfl⟩:=gq.1 p;have a1:=((jL r.1).1 (i r j)).1;have a2:=o r j;unfold kL at H;rw[lU] at H;have:=Ch (show 0<r.2.toNat by omega) a1;omega
  refine c ⟨by rw[J];rfl,O,?_,by rw[q,<-D,g]⟩;rw[u];refine SB hl hp v ((bIw out).trans ?_);unfold exs;rw[<-D,<-d,x];exact aEu (Cb _)
end
section
variable {v:Int}
def UC:Nat->Int->AH
 |0,v=>[v]
 |f+1,v=>if v<128 then [v] else(v%128+128)::UC f (v/128)
def aU (v:Int):AH:=UC v.toNat v
theorem QH: ∀(f g:Nat) (v:Int),v.toNat<=f->v.toNat<=g->UC f v=UC g v
 |0,0,v,_,_=>rfl
 |0,g+1,v,h,_=>by rw[UC,UC,cz G]
 |f+1,0,v,_,h=>by rw[UC,UC,cz G]
 |f+1,g+1,v,h1,h2=>by
  simp only[UC];by_cases z:v<128
  ·rw[cz z,cz z]
  rw[bq z,bq z,QH f g _ G G]
theorem kM (h:v<128):aU v=[v]:=by
 rw[aU,QH v.toNat (v.toNat+1) v G G,UC,cz h]
theorem tN (h:128<=v):aU v=(v%128+128)::aU (v/128):=by
 rw[aU,QH v.toNat (v.toNat+1) v G G,UC,bq G,aU,QH v.toNat (v/128).toNat _ G G]
theorem aAe {v0:Int} {acc:AH} (h:aU v0=acc++aU v) (e:128<=v) {d q:Int} (a:d=v%128+128) (b:q=v/128):aU v0=(acc++[d])++aU q:=by
 rw[h,tN e,<-a,<-b,dx];rfl
theorem cK: ∀(k:Nat) (v:Int),v<128^(k+1)->(aU v).length<=k+1
 |0,v,h=>by rw[kM G];exact dn _
 | k+1,v,h=>by
  by_cases z:v<128
  ·rw[kM z];simp
  rw [tN G,dh]
  have:v/128<128^(k+1):=by
   rw[tq] at h;exact zy G h
  have:=cK k (v/128) this;omega
theorem UB: ∀(k:Nat) (v:Int),v.toNat<=k->0<=v->aI (aU v)
 |0,v,h,h0=>by
  rw[kM G];intro x a;rw[gz.1 a];omega
 | k+1,v,h,h0=>by
  by_cases z:v<128
  ·rw [kM z];intro x a;rw[gz.1 a];omega
  rw [tN G];intro x a;rcases il.1 a with rfl|a
  ·omega
  exact UB k (v/128) G G x a
theorem dM (h:0<=v):aI (aU v):=UB _ v (dn _) h
theorem bKv (v:Int):aU v≠[]:=by
 by_cases z:v<128
 ·rw[kM z];simp
 rw[tN G];simp
def fT (v:Int):AH:=[v/1%256,v/256%256,v/65536%256,v/16777216%256]
theorem jQ (v:Int):aI (fT v):=λx a=>by
 simp only[fT,il,vw,Ib] at a;omega
end
section
variable {k i b d s r x:Int} {t l:AH} {B:Nat} {w0:World} {R:List Row} {vals:AG} {ls:AD}
def aBg (x:BitVec 32):BitVec 32:=if x &&& 1#32=1#32 then(x>>>1)^^^3988292384#32 else x>>>1
def NH:Nat->BitVec 32->BitVec 32
 |0,x=>x
 |k+1,x=>NH k (aBg x)
def YE (x:BitVec 32):BitVec 32:=NH 8 x
theorem ET {x:BitVec 32} (h:k<8):NH (8-k).toNat x=NH (8-(k+1)).toNat (aBg x):=by
 have e:(8-k).toNat=(8-(k+1)).toNat+1:=G
 rw[e];rfl
def aKb (x:BitVec 32) (b:Int):BitVec 32:=(x &&& 255#32)^^^BitVec.ofInt 32 b
def bZh (x:BitVec 32) (b:Int):BitVec 32:=(x>>>8)^^^YE (aKb x b)
def KZ (x:BitVec 32) (l:AH):BitVec 32:=l.foldl bZh x
def lG (l:AH):BitVec 32:=KZ 4294967295#32 l^^^4294967295#32
def wZ:AH:=(List.range 256).map λi=>bv (YE (BitVec.ofNat 32 i))
theorem CJ:wZ.length=256:=by unfold wZ;rw[bn,zf]
theorem aSu {i:Nat} (h:i<256):wZ[i]? =some (bv (YE (BitVec.ofNat 32 i))):=by
 unfold wZ;rw[mr,zi h];rfl
theorem aAg (i:Nat):BitVec.ofInt 32 (i:Int)=BitVec.ofNat 32 i:=rfl
theorem aKa {x:BitVec 32} (hb:0<=b/\b<256):(aKb x b).toNat=(x.toNat%256)^^^b.toNat:=by
 obtain⟨b,rfl⟩: ∃m:Nat,b=m:=⟨b.toNat,G⟩;unfold aKb;have a:(255#32).toNat=2^8-1:=rfl;have d:(BitVec.ofInt 32 (b:Int)).toNat=b:=by rw[aAg,BitVec.toNat_ofNat];omega
 rw[BitVec.toNat_xor,Jj,a,d,Fs,bu]
theorem QT {x:BitVec 32} (hb:0<=b/\b<256):0<=bv (aKb x b)/\bv (aKb x b)<256:=by
 have h:(aKb x b).toNat<2^8:=by
  rw[aKa hb];exact Nat.xor_lt_two_pow (by have:=yh x.toNat (show 0<256 by omega);omega) G
 unfold bv;omega
theorem bQo {x:BitVec 32} (hb:0<=b/\b<256):((BitVec.ofInt 8 (IntKind.u8.wrap (bv x))^^^BitVec.ofInt 8 b).toNat:Int)=bv (aKb x b):=by
 have h:=aKa (x:=x) hb;unfold bv;rw[h,BitVec.toNat_xor,zq,zq,Dj];have a:(((x.toNat:Int)%256)%((2^8:Nat):Int)).toNat=x.toNat%256:=G
 have d:(b%((2^8:Nat):Int)).toNat=b.toNat:=G
 rw[a,d]
def zK (d s r:Int) (t:AH):AG:=[.int .u32 d, .int .i32 s, .int .u32 0, .int .i32 r]++ints .u32 t
def eG (T g:Nat) (d s r:Int) (t:AH):Row:=⟨T,260,some ⟨g,0,none⟩,1,1,zK d s r t,false⟩
theorem NI (d s r:Int) (t:AH):(zK d s r t).length=4+t.length:=by
 unfold zK;rw[aa,dB];rfl
theorem bHf {i:Nat} (h:t[i]? =some x):(zK d s r t)[4+i]? =some (.int .u32 x):=by
 unfold zK;rw[ji cD];simp[ints,h]
theorem aXp {i:Nat}:(zK d s r t).set (4+i) (.int .u32 x)=zK d s r (t.set i x):=by
 unfold zK ints;rw[Fh _ _ cD,List.map_set];simp
theorem aXo (b:t.length=256) (a:0<=k) (h1:k<256):(wZ.take k.toNat++t.drop k.toNat).set k.toNat (bv (YE (BitVec.ofInt 32 k)))=wZ.take (k+1).toNat++t.drop (k+1).toNat:=by
 obtain⟨k,rfl⟩: ∃m:Nat,k=m:=⟨k.toNat,G⟩;have e:((k:Int)+1).toNat=k+1:=G
 rw[e,bu,aAg];have hk:k<wZ.length:=by rw[CJ];omega
 have hl:(wZ.take k).length=k:=by rw[ax];omega
 rw[Fh _ _ G,hl,Er,nk (by omega:k<t.length),Ho,rf,aSu G];simp
theorem bNe {x:BitVec 32} (h:bv x<256):wZ[(bv x).toNat]? =some (bv (YE x)):=by
 have e:(bv x).toNat=x.toNat:=by unfold bv;rw[bu]
 rw[e,aSu (by unfold bv at h;omega),BitVec.ofNat_toNat,BitVec.setWidth_eq]
def HZ (B:Nat) (w0:World) (R:List Row) (vals:AG) (ls:AD):Prop:=vals.length=ls.length/\ ∀(j:Nat) (v:Value),vals[j]? =some v-> ∃(A:AF) (c:Nat) (l:AH),v=Value.slice A l.length c/\ls[j]? =some l/\RdC B w0 R A l.length c 1 (ints .u8 l)/\aI l
theorem HZ.at (h:HZ B w0 R vals ls) (g:0<=i) (h1:i<vals.length): ∃(A:AF) (c:Nat) (l:AH),vals[i.toNat]? =some (Value.slice A l.length c)/\ls[i.toNat]? =some l/\RdC B w0 R A l.length c 1 (ints .u8 l)/\aI l:=by
 have ci:i.toNat<vals.length:=G
 obtain⟨A,c,l,e,a,b,d⟩:=h.2 i.toNat _ (au ci);exact⟨A,c,l,by rw[au ci,e],a,b,d⟩
theorem HZ.one {A:AF} {c n:Nat} (h:RdC B w0 R A n c 1 (ints .u8 l)) (hb:aI l) (hn:n=l.length):HZ B w0 R [.slice A n c] [l]:=by
 subst hn
 exact⟨rfl,λj v a=>by
  cases j with
  |zero=>exact⟨A,c,l,by simpa using a.symm,rfl,h,hb⟩
  |succ j=>simp at a⟩
theorem HZ.of {w:World} (h:SlW .u8 w vals ls):HZ w.heap.size w R vals ls:=
 ⟨h.1,λj v a=>by
  have ci:j<ls.length:=by rw[<-h.1];exact(gp.1 a).1
  obtain⟨A,c,h1,b,d,_⟩:=h.2 j ci;rw[h1] at a;have e:ls.getD j []=ls[j]:=by simp[af,au ci]
  rw[e] at a b d
  exact⟨A,c,ls[j],(fo a).symm,au ci,b.c R,byteL_wf d⟩⟩
def Big (ls:AD):Prop:=ls.length<=1000000/\ ∀(j:Nat) (l:AH),ls[j]? =some l->l.length<=1000000
theorem Big.one (h:l.length<=1000000):Big [l]:=⟨cD,λj q a=>by
 cases j with
 |zero=>simp at a;subst a;exact h
 |succ j=>simp at a⟩
theorem Big.nil:Big []:=⟨cD,λj q a=>by simp at a⟩
theorem Big.snoc {q:AH} (h:Big ls) (h1:ls.length<1000000) (b:q.length<=1000000):Big (ls++[q]):=⟨cJ,λj r a=>by
 rw[List.getElem?_append] at a;split at a
 ·exact h.2 j r a
 rename_i g
 have d:j-ls.length=0:=by
  rcases fe (j-ls.length) with e|e
  ·exact e
  rw[nu cJ] at a;cases a
 rw[d] at a;simp at a
 rw[<-a];exact b⟩
theorem HZ.nil:HZ B w0 R [] []:=⟨rfl,λj v a=>by simp at a⟩
theorem drop_flat (a:0<=i) (h:ls[i.toNat]? =some l):(ls.drop i.toNat).flatten=l++(ls.drop (i+1).toNat).flatten:=by
 have ci:i.toNat<ls.length:=(gp.1 h).1;have e:(i+1).toNat=i.toNat+1:=G
 rw[nk ci,(gp.1 h).2,e];rfl
theorem WW {x:BitVec 32} {m:AH} (a:0<=i) (h:i<l.length):KZ x (l.drop i.toNat++m)=KZ (bZh x (rd l i)) (l.drop (i+1).toNat++m):=by
 rw[fK a h];rfl
theorem WG {α:Type} {l:List α} (h:(l.length:Int)<=i):l.drop i.toNat=[]:=og G
end
section
variable {t o:Int} {u b:AH} {n:Nat}
def LW (t:Int) (u:AH) (p:AH × AH):Prop:=
 (t=1/\ ∃b:AH,b.Perm (iota u.length)/\b.Pairwise (dA u)/\p=(aU (zat b),ofL u b))\/
 (t=2/\ ∃T:AE,T.Perm (iB (bws u) (bws u).length)/\T.Pairwise (kP (bws u))/\p=([],T.map (lastB (bws u))))\/
 (t≠1/\t≠2/\p=([],u))
theorem LW.uniq {p q:AH × AH} (h1:LW t u p) (d:LW t u q):p=q:=by
 rcases h1 with⟨a,b,hb,sb,rfl⟩|⟨a,T,e,h,rfl⟩|⟨a,j,rfl⟩<;>rcases d with⟨f1,c,hc,sc,rfl⟩|⟨f1,U,g,i,rfl⟩|⟨f1,f2,rfl⟩
 ·rw[aNb hb hc sb sc]
 ·omega
 ·omega
 ·omega
 ·rw[MP aNa (e.trans g.symm) h i]
 ·omega
 ·omega
 ·omega
 rfl
open Classical in
noncomputable def uH (t:Int) (u:AH):AH × AH:=if h: ∃p,LW t u p then Classical.choose h else([],[])
theorem IR {p:AH × AH} (h:LW t u p):uH t u=p:=by
 have a: ∃p,LW t u p:=⟨p,h⟩;unfold uH;rw[dif_pos a];exact(yl a).uniq h
theorem RX (h1:t≠1) (a:t≠2):uH t u=([],u):=IR (.inr (.inr ⟨h1,a,rfl⟩))
theorem RY (hp:b.Perm (iota u.length)) (hs:b.Pairwise (dA u)):uH 1 u=(aU (zat b),ofL u b):=IR (.inl ⟨rfl,b,hp,hs,rfl⟩)
theorem RZ {T:AE} (hp:T.Perm (iB (bws u) (bws u).length)) (hs:T.Pairwise (kP (bws u))):uH 2 u=([],T.map (lastB (bws u))):=IR (.inr (.inl ⟨rfl,T,hp,hs,rfl⟩))
noncomputable def cZ (t o:Int) (b:AH):AH:=
 aU b.length++((uH t b).1++(aU (bT (uH t b).2 o).length++(fT (bv (lG b))++bT (uH t b).2 o)))
theorem LW.facts {p:AH × AH} (h:LW t u p) (hu:aI u) (g:u.length<=100000):(p.1.length<=3/\aI p.1)/\aI p.2/\p.2.length=u.length:=by
 rcases h with⟨_,b,hb,sb,rfl⟩|⟨_,T,a,i,rfl⟩|⟨_,_,rfl⟩
 ·have d:=pK hb sb;have e:=MG (s:=u) (k:=0) G;exact⟨⟨cK 2 _ G,dM G⟩,EH hu hb,(UT hb sb).length_eq⟩
 ·exact⟨⟨cD,λ_ h=>nomatch h⟩,rZ a (by rw[vC];exact hu),by rw[bn,LC a]⟩
 exact⟨⟨cD,λ_ h=>nomatch h⟩,hu,rfl⟩
theorem NS (hu:aI u) (a:u.length<=100000):((uH t u).1.length<=3/\aI (uH t u).1)/\aI (uH t u).2/\(uH t u).2.length<=u.length:=by
 by_cases h: ∃p,LW t u p
 ·obtain ⟨p,hp⟩:=h;rw[IR hp];have:=hp.facts hu a;exact⟨this.1,this.2.1,G⟩
 unfold uH;rw[dif_neg h];exact⟨⟨cD,λ_ h=>nomatch h⟩,(λ_ h=>nomatch h),cD⟩
theorem GX (hb:aI b) (g:b.length<=100000):(cZ t o b).length<=2*b.length+22/\aI (cZ t o b):=by
 obtain⟨⟨h1,d⟩,e,h⟩:=NS (t:=t) hb g;have i:=qX (o:=o) e;have j:=cK 2 (b.length:Int) G;have k:=cK 2 ((bT (uH t b).2 o).length:Int) G;have l:(fT (bv (lG b))).length=4:=rfl;unfold cZ;refine⟨by simp only[aa];omega,?_⟩;intro x a;simp only[ek] at a;rcases a with a|a|a|a|a
 ·exact dM G x a
 ·exact d x a
 ·exact dM G x a
 ·exact jQ _ x a
 exact lQ _ _ x a
def chK (m n:Nat):Nat:=(m+n-1)/n
noncomputable def lY (t o:Int) (n:Nat) (u:AH) (k:Nat):AH:=((List.range k).map λj=>cZ t o ((u.drop (j*n)).take n)).flatten
theorem zH (t o:Int) (n:Nat) (u:AH):lY t o n u 0=[]:=rfl
theorem zI (t o:Int) (n:Nat) (u:AH) (k:Nat):lY t o n u (k+1)=lY t o n u k++cZ t o ((u.drop (k*n)).take n):=by
 unfold lY;rw[Ae,jc,lq];simp
theorem CP {t o:Int} {n:Nat} {u:AH} (hu:aI u) (e:u.length<=100000): ∀k:Nat,(lY t o n u k).length+2*(u.length-k*n)<=2*u.length+22*k/\aI (lY t o n u k)
 |0=>by rw[zH,Bi];exact⟨cD,λ_ h=>nomatch h⟩
 |k+1=>by
  have h1:=CP (t:=t) (o:=o) (n:=n) hu e k;have d:=GX (t:=t) (o:=o) (b:=(u.drop (k*n)).take n) ((hu.drop _).take _) (by rw[ax,az];omega);have g:((u.drop (k*n)).take n).length=min n (u.length-k*n):=by rw[ax,az]
  rw[zI,aa,yj,Ci];refine⟨G,λx a=> ?_⟩;rcases ek.1 a with a|a
  ·exact h1.2 x a
  exact d.2 x a
theorem sG (hu:aI u) (a:u.length<=100000) (k:Nat):(lY t o n u k).length<=2*u.length+22*k/\aI (lY t o n u k):=
 ⟨by have:=(CP (t:=t) (o:=o) (n:=n) hu a k).1;omega,(CP hu a k).2⟩
theorem aOx {m:Nat} (hn:1<=n):chK m n<=m:=by
 unfold chK;rcases fe m with h|h
 ·subst h;rw[Fu G];exact dn _
 refine Nat.le_of_lt_succ ((Nat.div_lt_iff_lt_mul G).2 ?_);have:(m+1)*1<=(m+1)*n:=Nat.mul_le_mul_left _ hn;have e:(m+1)*n=m*n+n:=by rw[yj,Ci]
 have a:m*1<=m*n:=Nat.mul_le_mul_left _ hn;show m+n-1<(m+1)*n;omega
noncomputable def tF (t so o size:Int) (u:AH):AH:=
 (([87,72,82,76]++[1,t,so,o])++aU size++lY t o size.toNat u (chK u.length size.toNat))++(aU 0++aU u.length)
end
section
variable {v:Int} {b:AH} {k:Nat}
def iY:AH->Int
 |[]=>0
 |d::l=>d%128+128*iY l
theorem rU: ∀l:AH,0<=iY l
 |[]=>ni _
 |d::l=>by have:=rU l;rw[iY];omega
def aKr:AH->Prop
 |[]=>False
 |d::l=>(l=[]/\0<=d/\d<128)\/(128<=d/\d<256/\aKr l/\0<iY l)
theorem aCd: ∀(k:Nat) (v:Int),v.toNat<=k->0<=v->iY (aU v)=v/\aKr (aU v)
 |0,v,h,h0=>by
  rw[kM G];exact⟨by rw[iY,iY];omega, .inl ⟨rfl,G,G⟩⟩
 | k+1,v,h,h0=>by
  by_cases z:v<128
  ·rw [kM z];exact⟨by rw[iY,iY];omega, .inl ⟨rfl,G,G⟩⟩
  rw [tN G];obtain⟨h1,a⟩:=aCd k (v/128) G G;exact⟨by rw[iY,h1];omega, .inr ⟨G,G,a,by rw[h1];omega⟩⟩
theorem IL (h:0<=v):iY (aU v)=v:=(aCd _ v (dn _) h).1
theorem QG (h:0<=v):aKr (aU v):=(aCd _ v (dn _) h).2
theorem aRb: ∀l:AH,aKr l->aU (iY l)=l
 |[],h=>h.elim
 | d::l,h=>by
  rcases h with⟨rfl,e,h1⟩|⟨e,h1,g,i⟩
  ·rw [iY,iY,kM G];congr 1;omega
  rw [iY,tN G];have a:(d%128+128*iY l)%128+128=d:=G
  have b:(d%128+128*iY l)/128=iY l:=G
  rw[a,b,aRb l g]
theorem aSj: ∀l m s t:AH,aKr l->aKr m->l++s=m++t->l=m
 |[],_,_,_,h,_,_=>h.elim
 |_::_,[],_,_,_,h,_=>h.elim
 |d::l,e::m,s,t,h,g,q=>by
  rw[je,je] at q;obtain⟨rfl,i⟩:=List.cons.inj q;rcases h with⟨rfl,a,h1⟩|⟨a,h1,b,j⟩<;>rcases g with⟨rfl,g0,g1⟩|⟨g0,g1,g2,g3⟩
  ·rfl
  ·omega
  ·omega
  rw[aSj l m s t b g2 i]
def rJ (b:AH) (v:Int) (k:Nat):Prop:=(0<=v/\v<18446744073709551616)/\k=(aU v).length/\ ∃t,b=aU v++t
theorem rJ.one {w:Int} {m:Nat} (h:rJ b v k) (g:rJ b w m):v=w/\k=m:=by
 obtain⟨h1,rfl,s,hs⟩:=h;obtain⟨g1,rfl,t,d⟩:=g;have e:=aSj _ _ s t (QG h1.1) (QG g1.1) (hs.symm.trans d);have a:=bi iY e;rw[IL h1.1,IL g1.1] at a;subst a;exact⟨rfl,rfl⟩
theorem rJ.drop (h:rJ b v k):b=aU v++b.drop k:=by
 obtain⟨_,rfl,t,rfl⟩:=h;rw[List.drop_left]
theorem rJ.of (h:0<=v/\v<18446744073709551616) (t:AH):rJ (aU v++t) v (aU v).length:=⟨h,rfl,t,rfl⟩
def kD (b:AH):Int:=if b.findIdx (λx=>decide (x<128))<b.length then(b.findIdx (λx=>decide (x<128)):Nat) else -1
theorem aSk {i:Int} (i0:0<=i) (hi:i<b.length) (h:rd b i<128) (hn: ∀j:Int,0<=j->j<i-> ¬rd b j<128):kD b=i:=by
 have e:b.findIdx (λx=>decide (x<128))=i.toNat:=by
  rw[List.findIdx_eq G];refine⟨by rw[fH i0 hi] at h;simpa using h,λj a=> ?_⟩;have:=hn j G G;rw[fH G G] at this;simpa using this
 unfold kD;rw[e,cz G];omega
theorem aWy (hn: ∀j:Int,0<=j->j<b.length-> ¬rd b j<128):kD b= -1:=by
 unfold kD;rw[bq];intro h;have hp:=Gi (w:=h);have:=hn (b.findIdx λx=>decide (x<128):Nat) G G;rw[fH G G] at this;simp only[bu] at this;simp only[wo] at hp;exact this hp
end
section
variable {b:AH} {d V:Int} {e:Nat}
theorem bFr: ∀(e:Nat) (b:AH),aI b->e<b.length->(∀j:Nat,j<e->128<=rd b j)->rd b (e:Int)<128->(e=0\/rd b (e:Int)≠0)->aKr (b.take (e+1))/\(rd b (e:Int)≠0->0<iY (b.take (e+1)))
 |0,d::b,hb,h,_,h1,_=>by
  have a:=hb d cD;have m:rd (d::b) ((0:Nat):Int)=d:=rfl;rw[m] at h1 ⊢;refine⟨.inl ⟨rfl,a.1,h1⟩,λp=> ?_⟩;show 0<d%128+128*iY [];rw[iY];omega
 | e+1,d::b,hb,h,hn,h1,h2=>by
  have a:=hb d cD;have l:128<=d:=hn 0 G
  have k: ∀j:Nat,rd (d::b) ((j+1:Nat):Int)=rd b (j:Int):=λj=>by
   unfold rd;rw[show((j+1:Nat):Int).toNat=j+1 by omega,bu];rfl
  rw[k] at h1 h2 ⊢;have g:rd b (e:Int)≠0:=h2.resolve_left G;have i:=bFr e b (λx o=>hb x (fw _ o)) (by rw[dh] at h;omega) (λj q=>by have:=hn (j+1) G;rwa[k] at this) h1 (.inr g);refine⟨.inr ⟨l,a.2,i.1,i.2 g⟩,λ_=> ?_⟩;show 0<d%128+128*iY (b.take (e+1));have:=i.2 g;omega
 |0,[],_,h,_,_,_=>by simp at h
 |_+1,[],_,h,_,_,_=>by simp at h
theorem RP: ∀(e:Nat) (b:AH),aI b->e<b.length->rd b (e:Int)<128->rd b (e:Int)*128^e<=iY (b.take (e+1))/\iY (b.take (e+1))<(rd b (e:Int)+1)*128^e
 |0,d::b,hb,h,h1=>by
  have j:=hb d cD;have a:rd (d::b) ((0:Nat):Int)=d:=rfl;rw[a] at h1 ⊢;show d*128^0<=d%128+128*iY []/\d%128+128*iY []<(d+1)*128^0;rw[iY,rz];omega
 | e+1,d::b,hb,h,h1=>by
  have g:rd (d::b) ((e+1:Nat):Int)=rd b (e:Int):=by
   unfold rd;rw[show((e+1:Nat):Int).toNat=e+1 by omega,bu];rfl
  rw[g] at h1 ⊢;have k:=RP e b (λx i=>hb x (fw _ i)) (by rw[dh] at h;omega) h1;show rd b (e:Int)*128^(e+1)<=d%128+128*iY (b.take (e+1))/\d%128+128*iY (b.take (e+1))<(rd b (e:Int)+1)*128^(e+1);rw[tq,<-qc,<-qc];omega
 |0,[],_,h,_=>by simp at h
 |_+1,[],_,h,_=>by simp at h
theorem zC (h:0<=kD b):kD b<b.length/\rd b (kD b)<128/\ ∀j:Int,0<=j->j<kD b-> ¬rd b j<128:=by
 have ci:b.findIdx (λx=>decide (x<128))<b.length:=by
  unfold kD at h;split at h
  ·assumption
  omega
 have e:kD b=(b.findIdx (λx=>decide (x<128)):Nat):=by unfold kD;rw[cz ci]
 have hp:=Gi (w:=ci);refine⟨G,?_,λj j0 a=> ?_⟩
 ·rw [e,fH G G];simpa using hp
 have:=Eo (xs:=b) (p:=λx=>decide (x<128)) (i:=j.toNat) G;rw[fH j0 G];simpa using this
theorem aYf: ∀n:Fin 256,n.val<2^Lib.bitLen n.val/\(n.val≠0->2^(Lib.bitLen n.val-1)<=n.val/\1<=Lib.bitLen n.val)/\(n.val=0->Lib.bitLen n.val=0):=by decide+kernel
theorem aTe (g:0<=d) (h1:d<256):d+1<=(2:Int)^Lib.bitLen d.toNat/\(d≠0->(2:Int)^(Lib.bitLen d.toNat-1)<=d/\1<=Lib.bitLen d.toNat)/\(d=0->Lib.bitLen d.toNat=0):=by
 obtain⟨a,b,c⟩:=aYf ⟨d.toNat,G⟩;have e: ∀k:Nat,(2:Int)^k=((2^k:Nat):Int):=λk=>by norm_cast
 refine⟨by rw[e];simp only at a;omega,λh=> ?_,λh=>c (by simp only;omega)⟩;have:=b (by simp only;omega);rw[e];simp only at this;omega
theorem bLc (e:Nat):(128:Int)^e=2^(7*e):=by
 rw[Int.pow_mul];rfl
theorem bFa (a:0<=d) (h1:d<256) (g:V<(d+1)*128^e) (h:7*e+Lib.bitLen d.toNat<=64):V<18446744073709551616:=by
 have hb:=(aTe a h1).1;have hp:(0:Int)<=128^e:=wz G;have b:(d+1)*128^e<=2^Lib.bitLen d.toNat*128^e:=ll hb hp;rw[bLc,<-za] at b
 have i:(2:Int)^(Lib.bitLen d.toNat+7*e)<=2^64:=by
  have:(2:Nat)^(Lib.bitLen d.toNat+7*e)<=2^64:=Cj G G
  exact_mod_cast this
 rw[bLc] at g;have:(2:Int)^64=18446744073709551616:=rfl;omega
theorem bMk (a:0<=d) (h1:d<256) (o:e<=9) (i:d*128^e<=V) (h:64<7*e+Lib.bitLen d.toNat):18446744073709551616<=V:=by
 obtain⟨_,hb,k⟩:=aTe a h1;have j:d≠0:=λc=>by have:=k c;omega
 obtain⟨b,l⟩:=hb j;have hp:(0:Int)<=128^e:=wz G;have g:2^(Lib.bitLen d.toNat-1)*128^e<=d*128^e:=ll b hp;rw[bLc,<-za] at g
 have m:(2:Int)^64<=2^(Lib.bitLen d.toNat-1+7*e):=by
  have:(2:Nat)^64<=2^(Lib.bitLen d.toNat-1+7*e):=Cj G G
  exact_mod_cast this
 rw[bLc] at i;have:(2:Int)^64=18446744073709551616:=rfl;omega
theorem bMi (hb:aI b) (k:kD b=(e:Int)) (g:e=0\/rd b (e:Int)≠0) (i:7*e+Lib.bitLen (rd b (e:Int)).toNat<=64):rJ b (iY (b.take (e+1))) (e+1):=by
 obtain⟨f1,f2,f3⟩:=zC (b:=b) G;rw[k] at f1 f2 f3;have d:=hb.rd (e:Int);have h1:=(bFr e b hb G (λj l=>by have:=f3 j G G;omega) f2 g).1;have h:=RP e b hb G f2;have a:=aRb _ h1;refine⟨⟨rU _,bFa d.1 d.2 h.2 i⟩,?_,b.drop (e+1),?_⟩
 ·rw[a,ax];omega
 rw[a,ed]
theorem aDv: ∀l t:AH,aKr l->(l++t).findIdx (λx=>decide (x<128))=l.length-1/\0<l.length/\(l.length=1\/rd (l++t) ((l.length-1:Nat):Int)≠0)
 |[],_,h=>h.elim
 | d ::l,t,h=>by
  rcases h with⟨rfl,i,h1⟩|⟨i,h1,a,b⟩
  ·refine ⟨?_,cD, .inl rfl⟩;rw[je,List.findIdx_cons,show decide (d<128)=true from nz h1];rfl
  obtain ⟨j,i2,i3⟩:=aDv l t a;refine⟨?_,cD, .inr ?_⟩
  ·rw [je,List.findIdx_cons,show decide (d<128)=false from mo G,j];simp only[dh,cond_false];omega
  have g:rd (d::(l++t)) (((l.length-1)+1:Nat):Int)=rd (l++t) ((l.length-1:Nat):Int):=by
   unfold rd;rw[show(((l.length-1)+1:Nat):Int).toNat=(l.length-1)+1 by omega,bu];rfl
  rw[je,dh,show l.length+1-1=(l.length-1)+1 by omega,g];rcases i3 with i3|i3
  ·intro e
   match l,i3,a,b,e with
   |[x],_,a,b,e=>
    rw[iY,iY] at b;have:x=0:=e;omega
  exact i3
theorem aNv (hb:aI b) (h:kD b<0\/9<kD b\/(0<kD b/\rd b (kD b)=0)\/64<7*(kD b).toNat+Lib.bitLen (rd b (kD b)).toNat): ¬ ∃v k,rJ b v k:=by
 rintro⟨v,k,⟨d,p⟩,rfl,t,a⟩;have hE:=QG d;obtain⟨j,i2,i3⟩:=aDv _ t hE;rw[<-a] at j i3;have hlen:(aU v).length<=b.length:=by rw[a,aa];omega
 have i:kD b=(((aU v).length-1:Nat):Int):=by
  unfold kD;rw[j,cz G]
 have m:=cK 9 v G;rw[i] at h;rcases h with h|h|⟨h,o⟩|h
 ·omega
 ·omega
 ·rcases i3 with i3|i3
  ·omega
  exact i3 o
 obtain ⟨f1,f2,_⟩:=zC (b:=b) G;rw[i] at f1 f2;have g:=hb.rd (((aU v).length-1:Nat):Int);have e:=RP ((aU v).length-1) b hb G f2
 have l:b.take ((aU v).length-1+1)=aU v:=by
  rw[show(aU v).length-1+1=(aU v).length by omega]
  conv=>lhs;rw[a]
  exact Cg
 rw[l,IL d] at e;rw[bu] at h;have:=bMk g.1 g.2 G e.1 h;omega
theorem aFf: ∀(l:AH) (d:Int),iY (l++[d])=d%128*2^(7*l.length)+iY l
 |[],d=>by simp[iY]
 |x::l,d=>by
  rw[je,iY,iY,aFf l d,dh,show 7*(l.length+1)=7*l.length+7 by omega,za,<-qc];rw[show(2:Int)^7=128 by rfl];omega
theorem xC {q:Nat} (h:q<b.length):iY (b.take (q+1))=rd b (q:Int)%128*2^(7*q)+iY (b.take q):=by
 have e:=dP (j:=(q:Int)) (show(0:Int)<=q by omega) (show(q:Int)<b.length by omega);rw[show((q:Int)+1).toNat=q+1 by omega,bu] at e;rw[e,aFf,ax,zh G]
theorem IM {b:AH}: ∀q:Nat,q<=b.length->iY (b.take q)<2^(7*q)
 |0,_=>by simp[iY]
 |q+1,h=>by
  have a:=IM (b:=b) q G;rw[xC G,show 7*(q+1)=7*q+7 by omega,za];have hp:(0:Int)<2^(7*q):=Ag G;have h1:rd b (q:Int)%128*2^(7*q)<=127*2^(7*q):=ll G G;rw[show(2:Int)^7=128 by rfl];omega
theorem aFg {b:AH} {q:Nat}: ∀e:Nat,q<=e->e<=b.length->iY (b.take q)<=iY (b.take e)
 |0,h,_=>by rw[show q=0 by omega];exact ni _
 | e+1,h,hl=>by
  rcases gm e q with c|c
  ·rw[show q=e+1 by omega];exact ni _
  have a:=aFg (b:=b) (q:=q) e c G;have hp:(0:Int)<2^(7*e):=Ag G;have h1:0<=rd b (e:Int)%128*2^(7*e):=yz G G;rw[xC G];omega
end
section
variable {t o so sz:Int} {n k:Nat} {u:AH}
noncomputable def NY (t o:Int) (n:Nat) (u:AH) (k:Nat):AH:=
 (((List.range (chK u.length n)).drop k).map λj=>cZ t o ((u.drop (j*n)).take n)).flatten++(aU 0++aU u.length)
theorem ZY (h:chK u.length n<=k):NY t o n u k=aU 0++aU u.length:=by
 unfold NY;rw[vv (by rw[zf];exact h)];rfl
theorem aMk (h:k<chK u.length n):NY t o n u k=cZ t o ((u.drop (k*n)).take n)++NY t o n u (k+1):=by
 unfold NY;rw[nk (by rw[zf];exact h),jg,jv,zu,dx]
theorem aBc (t so o sz:Int) (u:AH):tF t so o sz u=[87,72,82,76,1]++([t,so,o]++(aU sz++NY t o sz.toNat u 0)):=by
 unfold tF NY lY;rw[Ej];simp
theorem bHp {m:Nat} (hn:1<=n):k<chK m n↔k*n<m:=by
 unfold chK;rw[Nat.lt_iff_add_one_le,Nat.le_div_iff_mul_le hn,yj,Ci];omega
theorem aI.back {x y:AH} (h:aI (x++y)):aI y:=λz a=>h z (List.mem_append_right _ a)
theorem OP (hu:aI u) (i:u.length<=1000) (k:0<=t/\t<256) (hs:0<=so/\so<256) (j:0<=o/\o<256) (l:1<=sz/\sz<=16777216):aI (tF t so o sz u)/\(tF t so o sz u).length<=400000:=by
 have b:=sG (t:=t) (o:=o) (n:=sz.toNat) hu G (chK u.length sz.toNat);have d:chK u.length sz.toNat<=u.length:=aOx G;have e:=cK 4 sz G;have g:=cK 4 (u.length:Int) G;have h:(aU 0).length=1:=rfl;unfold tF;refine⟨λx a=> ?_,by simp only[aa,dh,iw];omega⟩;rcases ek.1 a with a|a
 ·rcases ek.1 a with a|a
  ·rcases ek.1 a with a|a
   ·simp only[je,ig,il,vw,Ib] at a;omega
   exact dM G x a
  exact b.2 x a
 rcases ek.1 a with a|a
 ·exact dM G x a
 exact dM G x a
theorem aOh (hu:aI u) (e:u.length<=400) (b:0<=t/\t<256) (hs:0<=so/\so<256) (a:0<=o/\o<256) (d:1<=sz/\sz<=16777216):aI (tF t so o sz u)/\(tF t so o sz u).length<=400000:=OP hu G b hs a d
theorem aFw {α:Type} {r:α->α->Prop} (e: ∀a b c,r a b->r b c->r a c) (a:α): ∀m:List α,m.Pairwise r->(∀b∈m,r a b\/r b a)-> ∃d:List α,d.Perm (a::m)/\d.Pairwise r
 |[],_,_=>⟨[a], .refl _,ql _ _⟩
 | b::m,hm,hr=>by
  obtain⟨h1,g⟩:=jb.1 hm;rcases hr b cD with h|h
  ·exact⟨a::b::m, .refl _,jb.2 ⟨λc hc=>by
    rcases il.1 hc with rfl|hc
    ·exact h
    exact e _ _ _ h (h1 c hc),hm⟩⟩
  obtain ⟨d,hp,hs⟩:=aFw e a m g λc hc=>hr c (fw _ hc);refine⟨b::d,(hp.cons b).trans (.swap a b m),jb.2 ⟨λc hc=> ?_,hs⟩⟩;rcases il.1 (hp.subset hc) with rfl|hc
  ·exact h
  exact h1 c hc
theorem aFx {α:Type} {r:α->α->Prop} (d: ∀a b c,r a b->r b c->r a c): ∀l:List α,(l.Pairwise λa b=>r a b\/r b a)-> ∃m:List α,m.Perm l/\m.Pairwise r
 |[],_=>⟨[], .refl _, .nil⟩
 |a::l,h=>by
  obtain⟨h1,g⟩:=jb.1 h;obtain⟨m,hp,hs⟩:=aFx d l g;obtain⟨i,e,ge⟩:=aFw d a m hs λb hb=>h1 b (hp.subset hb);exact⟨i,e.trans (hp.cons a),ge⟩
theorem bCy {ws:AD} {t u:Int × Int} (h:t≠u):kP ws t u\/kP ws u t:=by
 rcases BL (tw ws t) (tw ws u) with a|a|a
 ·exact .inl (.inl a)
 ·have b:t.1≠u.1\/t.2≠u.2:=by
   rcases Int.decEq t.1 u.1 with c|c
   ·exact .inl c
   exact .inr λe=>h (Prod.ext c e)
  have:ltI t u\/ltI u t:=by unfold ltI;omega
  rcases this with g|g
  ·exact .inl (.inr ⟨a,g⟩)
  exact .inr (.inr ⟨λi=>(a i).symm,g⟩)
 exact .inr (.inl a)
theorem FR (ws:AD): ∃T:AE,T.Perm (iB ws ws.length)/\T.Pairwise (kP ws):=
 aFx (r:=kP ws) (λ_ _ _ h g=>UO h g) _ ((zX ws _).imp λh=>bCy h)
end
section
variable {ws:AD} {L TS:AH}
open Classical in
noncomputable def bFp (ws:AD):AH × AH:=if h: ∃p:AH × AH,ExtR ws p.1 p.2 0 then Classical.choose h else([],[])
theorem QO {ws:AD} (h:ExtR ws L TS 0) (hb: ∀w∈ws,aI w):bFp ws=(L,TS):=by
 have a: ∃p:AH × AH,ExtR ws p.1 p.2 0:=⟨(L,TS),h⟩;unfold bFp;rw[dif_pos a];obtain⟨_,h1,b⟩:=h.one (yl a) hb;exact Prod.ext h1 b
noncomputable def xD (TS:AH):AH:=aU TS.length++(TS.map aU).flatten
theorem SG {i:Int} (a:0<=i) (h1:i<TS.length):((TS.take (i+1).toNat).map aU).flatten=((TS.take i.toNat).map aU).flatten++aU (rd TS i):=by
 rw[dP a h1,jc,lq];simp
noncomputable def eX (o:Int) (ws:AD):AH:=
 aU (canon ws).flatten.length++(xD (bFp ws).2++(aU (bT (bFp ws).1 o).length++(fT (bv (lG (canon ws).flatten))++bT (bFp ws).1 o)))
noncomputable def tC (so o size:Int) (ws:AD):AH:=
 (([87,72,82,76]++[1,3,so,o])++aU size++(if ws=[] then [] else eX o ws))++(aU 0++aU (canon ws).flatten.length)
theorem gK (ws:AD):(canon ws).flatten.length=ws.flatten.length:=by
 have h1:((canon ws).map List.length).sum=((dL ws).map λr=>(kL r).length).sum:=by
  unfold canon;rw[qp];exact((jI ws).map _).sum_nat
 rw[qo,qo,h1];unfold dL;rw[qp];clear h1
 induction ws with
 |nil=>rfl
 | cons w ws ih=>
  by_cases h:0<w.length
  ·rw [qd (by simpa using h),jg,uy,jg,uy,ih];congr 1;show(kL (lT w)).length=w.length;rw[MC h,lD]
  rw [mf (by simpa using h),jg,uy,ih];omega
theorem WB {ws:AD} (hp: ∀w∈ws,0<w.length) (h1:ws.length<=1000) (d:ws.flatten.length<=100000): ∃L TS,ExtR ws L TS 0:=by
 obtain⟨T,a,b⟩:=FR ws;exact⟨T.map (lastB ws),_, .inr (.inr ⟨G,rfl,hp,⟨T,a,b,rfl⟩,rfl⟩)⟩
theorem xQ {TS:AH} (h:ExtR ws L TS 0): ∀t∈TS,0<t/\t<=ws.flatten.length:=by
 rcases h with⟨h,_⟩|⟨_,h,_⟩|⟨_,_,_,_,rfl⟩
 ·omega
 ·omega
 intro t i;obtain⟨r,g,rfl⟩:=gq.1 i;have b:=(jI ws).mem_iff.1 g;unfold dL at b;obtain⟨w,a,rfl⟩:=gq.1 b;obtain⟨a,hp⟩:=qb.1 a;have hp:0<w.length:=by simpa using hp
 have hl:0<(lw w).length:=by rw[lD];exact hp
 have d:=qQ hl;have j:=ng (jo a);refine⟨d,?_⟩;show gP (lw w)<=_
 have e:gP (lw w)<=(lw w).length:=by
  unfold gP;exact Cm _ G
 rw[lD] at e;omega
theorem xR (h:ExtR ws L TS 0):L.length=ws.flatten.length:=by
 rcases h with⟨h,_⟩|⟨_,h,_⟩|⟨_,_,_,⟨T,a,_,rfl⟩,_⟩
 ·omega
 ·omega
 rw[bn,LM a]
end
end Go.Pure
