/- Own work. -/
import Derived.Shelf.Abstract
import Derived.WalkKit
import Derived.OwnWalkIn
import Derived.TacticsInMore
import Derived.LoopNIn
import Derived.LoopIn
import Derived.Test.YtdbebmmhdefgdaaGreatProg
import Derived.Sort.QuietTacIn
import Derived.Test.YtdbebmmhdefgdaaGreatO5
set_option linter.unusedVariables false
set_option linter.unusedSimpArgs false
set_option maxHeartbeats 8000000
namespace Go.Pure
open Go Go.Eng
section
variable {p:AH}
def pit (p:AH):Nat->Int->Int
 |0,i=>i
 |b+1,i=>rd p (pit p b i)
theorem uH (hp:p.Perm (iota p.length)) {i:Int} (i0:0<=i) (hi:i<p.length): ∀b:Nat,0<=pit p b i/\pit p b i<p.length
 |0=>⟨i0,hi⟩
 |b+1=>by
  have ih:=uH hp i0 hi b;exact aZ.1 (hp.subset (bJ (L:=p) ih.1 ih.2))
theorem aKb (p:AH) (a:Nat) (i:Int): ∀b:Nat,pit p (a+b) i=pit p b (pit p a i)
 |0=>rfl
 |b+1=>by rw[<-nk,pit,aKb p a i b,pit]
theorem bFn (hp:p.Perm (iota p.length)) {x y:Int} (x0:0<=x) (hx:x<p.length) (y0:0<=y) (hy:y<p.length) (h:rd p x=rd p y):x=y:=jT (hp.symm.nodup (eH _)) x0 hx y0 hy h
structure Ring (p:AH) (i:Int) (c:AH):Prop where
 pos:0<c.length
 at_: ∀b:Nat,b<c.length->rd c b=pit p b i
 close:pit p c.length i=i
 nodup:c.Nodup
 least: ∀x∈c,i<=x
structure ClE (p:AH) (E:List Bool):Prop where
 len:E.length=p.length
 back: ∀j:Int,0<=j->j<p.length->rdb E (rd p j)=true->rdb E j=true
theorem bBb {l:AH} {x:Int} {b:Nat} (h:b<(l++[x]).length):rd (l++[x]) b=if b<l.length then rd l b else x:=by
 split
 ·rename_i g;rw[jQ G G]
 ·rename_i g;have:b=l.length:=by simp at h;omega
  subst this;rw[gL G,Fs];rfl
theorem QQ (hp:p.Perm (iota p.length)) {E0:List Bool} {i:Int} (hE0:ClE p E0) (i0:0<=i) (hi:i<p.length) (i4:rdb E0 i≠true) (ju: ∀j:Int,0<=j->j<i->rdb E0 j=true):
  ∀(f:Nat) (E:List Bool) (acc:AH),E.length=p.length->cntF E<=f->(∀b:Nat,b<acc.length->rd acc b=pit p b i)->acc.Nodup->(∀x∈acc,rdb E0 x≠true)->(∀j:Int,0<=j->j<p.length->(rdb E j=true↔rdb E0 j=true\/j∈acc))->
  Ring p i (acc++(gQ p f E (pit p acc.length i)).1)/\(∀x∈acc++(gQ p f E (pit p acc.length i)).1,rdb E0 x≠true)/\ ∀j:Int,0<=j->j<p.length->(rdb (gQ p f E (pit p acc.length i)).2 j=true↔rdb E0 j=true\/j∈acc++(gQ p f E (pit p acc.length i)).1)
 | f, E,acc,hl,hf,rg,hnd,Fk,hset=>by
  have hk:=uH hp i0 hi acc.length;have gd: ∀b:Nat,b<acc.length->pit p b i∈acc:=λb hb=>by rw[<-rg b hb];exact bJ G G
  by_cases tc:rdb E (pit p acc.length i)=true
  ·rw [tZ tc];simp only[jk]
   have fd:0<acc.length:=by
    rcases ed acc.length with z|z
    ·exfalso;have hz:acc=[]:=ek z;subst hz;rcases(hset i i0 hi).1 tc with a|a
     ·exact i4 a
     ·cases a
    ·exact z
   have Ov:pit p acc.length i=i:=by
    have hz:=uH hp i0 hi (acc.length-1)
    have Nr:pit p acc.length i=rd p (pit p (acc.length-1) i):=by
     obtain⟨m,hm⟩: ∃m,acc.length=m+1:=⟨acc.length-1,G⟩;rw[hm,pit];rfl
    rcases(hset _ hk.1 hk.2).1 tc with a|a
    ·rw [Nr] at a;exact absurd (hE0.back _ hz.1 hz.2 a) (Fk _ (gd _ G))
    ·obtain ⟨b,hb,e⟩:=gz.1 a;have e2:pit p acc.length i=pit p b i:=by rw[<-rg b hb,iP hb];exact e.symm
     rcases ed b with z|z
     ·rw[e2,z];rfl
     ·exfalso;have xt:=uH hp i0 hi (b-1)
      have Pr:pit p b i=rd p (pit p (b-1) i):=by
       obtain⟨m,rfl⟩: ∃m,b=m+1:=⟨b-1,G⟩;rw[pit];rfl
      have:=bFn hp hz.1 hz.2 xt.1 xt.2 (by rw[<-Nr,<-Pr,e2]);rw[<-rg _ G,<-rg _ G] at this;have:=jT hnd G G G G this;omega
   refine⟨⟨fd,rg,Ov,hnd,λx hx=> ?_⟩,Fk,hset⟩;obtain⟨b,hb,rfl⟩:=gz.1 hx;have hr:=uH hp i0 hi b;rw[<-rg b hb,iP hb] at hr;rcases bn acc[b] i with g|g
   ·exact absurd (ju _ hr.1 g) (Fk _ hx)
   ·exact g
  ·have fg:=OD hk.1 G tc;have s7:=EA hk.1 G tc;obtain⟨g,rfl⟩: ∃g,f=g+1:=⟨f-1,G⟩;rw[KM hk.1 G hf tc];have mn: ¬(rdb E0 (pit p acc.length i)=true\/pit p acc.length i∈acc):=λh=>tc ((hset _ hk.1 hk.2).2 h);have hlen:(acc++[pit p acc.length i]).length=acc.length+1:=cD
   have ih:=QQ hp hE0 i0 hi i4 ju g (pU E (pit p acc.length i) true) (acc++[pit p acc.length i]) (by rw[lG];exact hl) G (λb hb=>by
    rw[bBb hb];split
    ·rename_i q;exact rg b q
    ·rename_i q;rw[show b=acc.length by rw[hlen] at hb;omega]) (xz.2 ⟨hnd,cD,λx hx y hy e=>by obtain rfl:=ib.1 hy;subst e;exact mn (.inr hx)⟩) (λx hx=>by
    rcases gp.1 hx with h|h
    ·exact Fk x h
    ·obtain rfl:=ib.1 h
     exact λe=>mn (.inl e)) (λj j0 hj=>by
    rw[xS hk.1 G j0,gp,ib];split
    ·rename_i e;exact⟨λ_=> .inr (.inr e),λ_=>rfl⟩
    ·rename_i e;rw[hset j j0 hj];exact⟨λh=>h.elim .inl λh=> .inr (.inl h),λh=>h.elim .inl λh=>h.elim .inr λh=>absurd h e⟩)
   rw[hlen,pit,gy] at ih;exact ih
structure bPw (p:AH) (i:Nat) (E:List Bool) (ls:AD):Prop where
 cl:ClE p E
 seen: ∀j:Int,0<=j->j<p.length->(rdb E j=true↔j∈ls.flatten)
 nodup:ls.flatten.Nodup
 ring: ∀c∈ls,∃i0:Int,(0<=i0/\i0<i)/\Ring p i0 c
 heads:ls.Pairwise λc d=>rd c 0<rd d 0
theorem bPp (hp:p.Perm (iota p.length)): ∀i:Nat,i<=p.length->bPw p i (jD p i).1 (jD p i).2
 |0,_=>⟨⟨by simp[jD],λj j0 hj h=>by rw[jD,BX] at h;cases h⟩,λj j0 hj=>by rw[jD,BX];simp,by simp[jD],λc hc=>(by cases hc), .nil⟩
 | i +1,hi=>by
  have ih:=bPp hp i G;have tc:=GD hp i G;have hf:=lY hp i G;have Yf:cntF (jD p i).1<=p.length:=by have:=hf.2.2;omega
  rw[jD];by_cases i4:rdb (jD p i).1 i=true
  ·rw [tZ i4];simp only[Fz];exact⟨ih.cl,ih.seen,ih.nodup,λc hc=>by obtain⟨i0,h,r⟩:=ih.ring c hc;exact⟨i0,G,r⟩,ih.heads⟩
  ·obtain ⟨w1,w2,w3⟩:=QQ hp ih.cl (i:=i) G G i4 (λj j0 hj=>by have:=tc j.toNat G;rwa[show((j.toNat:Nat):Int)=j by omega] at this) p.length (jD p i).1 [] hf.1 Yf (λb hb=>by simp at hb) .nil (λx hx=>by cases hx) (λj j0 hj=>cD);simp only[je,jl,pit] at w1 w2 w3;have Nv:=(rH hp p.length (jD p i).1 i hf.1 G G);generalize gQ p p.length (jD p i).1 i=r at w1 w2 w3 Nv;obtain⟨c,E'⟩:=r;simp only at w1 w2 w3 Nv ⊢;rw[bz (λe=>by have:=w1.pos;rw[e] at this;simp at this)];have h0:rd c 0=i:=w1.at_ 0 w1.pos;refine⟨⟨Nv.1,λj j0 hj h=> ?_⟩,λj j0 hj=> ?_,?_,λd hd=> ?_,?_⟩
   ·have yd:=aZ.1 (hp.subset (bJ (L:=p) j0 hj));rcases(w3 _ yd.1 yd.2).1 h with a|a
    ·exact(w3 j j0 hj).2 (.inl (ih.cl.back j j0 hj a))
    ·refine (w3 j j0 hj).2 (.inr ?_);obtain⟨b,hb,e⟩:=gz.1 a;have e2:rd p j=pit p b i:=by rw[<-w1.at_ b hb,iP hb];exact e.symm
     have key: ∀m:Nat,m<c.length->rd p j=rd p (pit p m i)->j∈c:=λm hm e=>by
      have Kt:=uH hp (i:=i) G G m;have:=bFn hp j0 hj Kt.1 Kt.2 e;rw[this,<-w1.at_ m hm];exact bJ G G
     rcases ed b with z|z
     ·refine key (c.length-1) (by have:=w1.pos;omega) ?_;have hc:=w1.close;obtain⟨m,hm⟩: ∃m,c.length=m+1:=⟨c.length-1,by have:=w1.pos;omega⟩;rw[hm,pit] at hc;rw[e2,z,hm];exact hc.symm
     ·obtain ⟨m,rfl⟩: ∃m,b=m+1:=⟨b-1,G⟩;exact key m G (by rw[e2,pit])
   ·rw [w3 j j0 hj,qg,gp,ih.seen j j0 hj];simp
   ·rw [qg];refine xz.2 ⟨ih.nodup,by simpa using w1.nodup,λx hx y hy e=> ?_⟩;subst e;have hy:x∈c:=by simpa using hy
    have hx':=Nv.2.1 x hy;exact w2 x hy ((ih.seen x hx'.1 hx'.2).2 hx)
   ·rcases gp.1 hd with h|h
    ·obtain ⟨i0,h,r⟩:=ih.ring d h;exact⟨i0,G,r⟩
    ·obtain rfl:=ib.1 h;exact⟨i,G,w1⟩
   ·refine kz.2 ⟨ih.heads,qb _ _,λd hd e he=> ?_⟩;obtain rfl:=ib.1 he;obtain⟨i0,h,r⟩:=ih.ring d hd;rw[h0,show rd d 0=i0 from r.at_ 0 r.pos];omega
theorem aHh (hp:p.Perm (iota p.length)):bPw p p.length (jD p p.length).1 (eZ p):=bPp hp p.length (di _)
theorem GC (hp:p.Perm (iota p.length)):(eZ p).flatten.Perm (iota p.length):=qU (aHh hp).nodup (λx hx=>by
 obtain⟨c,hc,hx⟩:=Bt.1 hx
 exact aZ.2 (aLg hp c hc x hx)) (by rw[bB,aCq hp];exact di _)
end
end Go.Pure
namespace Go.Pure
open Go Go.Eng
section
variable {l:AH}
def phi (l:AH) (q:Int):Int:=rd (dC (iota l.length) l 256) q
theorem MH (hl:aP l) {q:Int} (q0:0<=q) (hq:q<l.length):0<=phi l q/\phi l q<l.length:=by
 have h:=kI (l:=l) hl;have hlen:=h.1.length_eq;rw[bB] at hlen;exact aZ.1 (h.1.subset (bJ q0 G))
theorem bId (hl:aP l) {i:Int} (i0:0<=i) (hi:i<l.length):phi l (lfC l i)=i:=by
 obtain⟨q,q0,q1,e,f⟩:=aBc (l:=l) hl i0 hi;rw[f];exact e
theorem aFr (hl:aP l) {i k:Int} (i0:0<=i) (h:i<k) (hk:k<l.length):tl l (phi l i) (phi l k):=by
 have hlen:=(kI (l:=l) hl).1.length_eq;rw[bB] at hlen;exact eX (kI (l:=l) hl).2 i0 h G
def uw (l:AH):Nat->Int->Int
 |0,i=>rd l (phi l i)
 |d+1,i=>uw l d (phi l i)
def U (l:AH) (i:Int) (d:Nat):Int:=uw l d i
theorem xG (i:Int):U l i 0=rd l (phi l i):=by unfold U;rw[uw]
theorem AB (i:Int) (d:Nat):U l i (d+1)=U l (phi l i) d:=by unfold U;rw[uw]
theorem bAe (hl:aP l): ∀(d:Nat) (i k:Int),0<=i->i<k->k<l.length->(∀e,e<d->U l i e=U l k e)->U l i d<=U l k d
 |0,i,k,i0,h,hk,_=>by
  have:=aFr hl i0 h hk;rw[xG,xG];unfold tl at this;omega
 |d+1,i,k,i0,h,hk,he=>by
  have h0:=he 0 G;rw[xG,xG] at h0;have ht:=aFr hl i0 h hk;unfold tl at ht;have Ng:=MH hl (q:=i) i0 G;have pe:=MH hl (q:=k) G hk;rw[AB,AB];refine bAe hl d _ _ Ng.1 G pe.2 λe he'=> ?_;have:=he (e+1) G;rwa[AB,AB] at this
theorem bAf (hl:aP l) {i k:Int} (i0:0<=i) (h:i<=k) (hk:k<l.length): ¬Lt (U l k) (U l i):=by
 rintro⟨d,h1,h2⟩;rcases bn i k with a|a
 ·have:=bAe hl d i k i0 a hk λe he=>(h1 e he).symm;omega
 ·obtain rfl:i=k:=G
  omega
theorem phi_mono (hl:aP l) {i k:Int} (i0:0<=i) (h:i<k) (hk:k<l.length) (he: ∀d,U l i d=U l k d):phi l i<phi l k/\ ∀d,U l (phi l i) d=U l (phi l k) d:=by
 have ht:=aFr hl i0 h hk;have h0:=he 0;rw[xG,xG] at h0;unfold tl at ht;refine⟨G,λd=> ?_⟩;have:=he (d+1);rwa[AB,AB] at this
def jK (l:AH):Nat->Int->Int
 |0,i=>i
 |b+1,i=>jK l b (phi l i)
theorem uI (hl:aP l): ∀(b:Nat) {i:Int},0<=i->i<l.length->0<=jK l b i/\jK l b i<l.length
 |0,i,i0,hi=>⟨i0,hi⟩
 |b+1,i,i0,hi=>by
  have h:=MH hl i0 hi;exact uI hl b h.1 h.2
theorem FM (hl:aP l): ∀(b:Nat) {i k:Int},0<=i->i<k->k<l.length->(∀d,U l i d=U l k d)->jK l b i<jK l b k/\ ∀d,U l (jK l b i) d=U l (jK l b k) d
 |0,i,k,_,h,_,he=>⟨h,he⟩
 |b+1,i,k,i0,h,hk,he=>by
  have h1:=phi_mono hl i0 h hk he;have Ng:=MH hl (q:=i) i0 G;have pe:=MH hl (q:=k) G hk;exact FM hl b Ng.1 h1.1 pe.2 h1.2
theorem xH (i:Int): ∀(b d:Nat),U l (jK l b i) d=U l i (b+d)
 |0,d=>by rw[nu];rfl
 |b+1,d=>by
  rw[jK,xH (phi l i) b d,<-AB,show b+d+1=b+1+d by omega]
theorem oZ (i:Int): ∀(a b:Nat),jK l (a+b) i=jK l b (jK l a i)
 |0,b=>by rw[nu];rfl
 |a+1,b=>by rw[show a+1+b=(a+b)+1 by omega,jK,oZ (phi l i) a b];rfl
theorem aKk (hl:aP l) {i:Int} (i0:0<=i) (hi:i<l.length) {b:Nat} (h:i<jK l b i) (he: ∀d,U l i d=U l (jK l b i) d): ∀t:Nat,i+t<=jK l (t*b) i
 |0=>by rw[Dr];show i+0<=i;omega
 |t+1=>by
  have ih:=aKk hl i0 hi h he t;have hk:=uI hl b i0 hi;have h1:=(FM hl (t*b) i0 h hk.2 he).1;rw[<-oZ i b (t*b),show b+t*b=(t+1)*b by rw[Fv];omega] at h1;omega
theorem aKl (hl:aP l) {i:Int} (i0:0<=i) (hi:i<l.length) {b:Nat} (h:jK l b i<i) (he: ∀d,U l i d=U l (jK l b i) d): ∀t:Nat,jK l (t*b) i+t<=i
 |0=>by rw[Dr];show i+0<=i;omega
 |t+1=>by
  have ih:=aKl hl i0 hi h he t;have hk:=uI hl b i0 hi;have h1:=(FM hl (t*b) hk.1 h hi λd=>(he d).symm).1;rw[<-oZ i b (t*b),show b+t*b=(t+1)*b by rw[Fv];omega] at h1;omega
theorem aTc (hl:aP l) {i:Int} (i0:0<=i) (hi:i<l.length) {b:Nat} (fd:jK l b i≠i): ¬ ∀d,U l i d=U l (jK l b i) d:=λhe=>by
 rcases bn i (jK l b i) with h|h
 ·have:=aKk hl i0 hi h he (l.length+1);have:=uI hl ((l.length+1)*b) i0 hi;omega
 ·have:=aKl hl i0 hi G he (l.length+1);have:=uI hl ((l.length+1)*b) i0 hi;omega
theorem bDu (hl:aP l):(((iota l.length).map (lfC l))).Perm (iota ((iota l.length).map (lfC l)).length):=by
 rw[cu,bB];exact EH (λx h0 h1=>aBd (l:=l) hl h0 h1) λx y x0 x1 y0 y1 e=>aVq (l:=l) hl x0 x1 y0 y1 e
def lfL (l:AH):AH:=(iota l.length).map (lfC l)
theorem oO (l:AH):(lfL l).length=l.length:=by unfold lfL;rw[cu,bB]
theorem bHy {i:Int} (i0:0<=i) (hi:i<l.length):rd (lfL l) i=lfC l i:=by
 unfold lfL;rw[vZ i0 (by rw[bB];exact hi),xU i0 hi]
theorem nD (hl:aP l):(lfL l).Perm (iota (lfL l).length):=bDu hl
theorem aAh (hl:aP l) {i:Int} (i0:0<=i) (hi:i<l.length): ∀b:Nat,jK l b (pit (lfL l) b i)=i
 |0=>rfl
 |b+1=>by
  have h:=uH (nD hl) i0 (by rw[oO];exact hi) b;rw[oO] at h;rw[jK,pit,bHy h.1 h.2,bId hl h.1 h.2];exact aAh hl i0 hi b
section
variable {i:Int} {c:AH} (hl:aP l) (i0:0<=i) (hi:i<l.length) (hc:Ring (lfL l) i c)
include hl i0 hi hc
theorem xR {b:Nat} (hb:b<=c.length):jK l b i=pit (lfL l) (c.length-b) i:=by
 have h:=aAh hl (uH (nD hl) i0 (by rw[oO];exact hi) (c.length-b)).1 (by have:=(uH (nD hl) i0 (by rw[oO];exact hi) (c.length-b)).2;rw[oO] at this;exact this) b;rw[<-aKb,show c.length-b+b=c.length by omega,hc.close] at h;exact h
theorem LJ:jK l c.length i=i:=by
 rw[xR hl i0 hi hc (di _),zh];rfl
theorem ZI:Per (U l i) c.length:=λd=>by
 rw[wu,<-xH,LJ hl i0 hi hc]
theorem XP {d:Nat} (hd:d<c.length):rd (kT l c) d=U l i d:=by
 have h1:rd (kT l c) d=rd l (rd c ((c.length-1-d:Nat):Int)):=by
  unfold kT;rw[vZ G (by rw[qh];omega)];congr 1;rw[iP (by rw[qh];exact hd),Er,iP G]
 have h2:U l i d=rd l (jK l (d+1) i):=by
  have:=xH (l:=l) i d 0;rw[qo,xG] at this;rw[<-this,oZ i d 1];rfl
 rw[h1,h2,hc.at_ _ G,xR hl i0 hi hc G,show c.length-(d+1)=c.length-1-d by omega]
theorem KJ:om (kT l c)=U l i:=by
 funext d;have hp:=hc.pos
 have h1:om (kT l c) d=rd (kT l c) ((d%c.length:Nat):Int):=by
  unfold om rd;rw[nQ,cz]
 rw[h1,XP hl i0 hi hc (ze _ hp)];exact(ZI hl i0 hi hc).mod d
theorem LK {r:Nat} (r0:0<r) (hr:r<c.length):i<jK l r i:=by
 rw[xR hl i0 hi hc G];have h1:=hc.least _ (bJ (L:=c) (k:=((c.length-r:Nat):Int)) G G);rw[hc.at_ _ G] at h1;rcases bn i (pit (lfL l) (c.length-r) i) with g|g
 ·exact g
 ·exfalso
  have e:rd c ((c.length-r:Nat):Int)=rd c ((0:Nat):Int):=by
   rw[hc.at_ _ G,hc.at_ 0 hc.pos];show _=i;omega
  have:=jT hc.nodup G G G (by have:=hc.pos;omega) e;omega
theorem aTp:tO (kT l c)=true:=by
 rw[pK,nQ];refine⟨hc.pos,λr r0 hr=> ?_⟩;have hot:=LK hl i0 hi hc r0 hr;have cj:=uI hl r i0 hi;have hnl:=bAf hl i0 (De hot) cj.2;have fd:=aTc hl i0 hi (b:=r) G
 have bc:Lt (U l i) (U l (jK l r i)):=by
  rcases FU (U l i) (U l (jK l r i)) with a|a|a
  ·exact a
  ·exact absurd a fd
  ·exact absurd a hnl
 obtain⟨d,h1,h2⟩:=bc;have Ug: ∀e,U l (jK l r i) e=U l i (r+e):=λe=>xH i r e;rw[Ug] at h2
 have hdm:d<c.length-r:=by
  rcases fo d (c.length-r) with g|g
  ·exact g
  ·exfalso;have qn:=ZI hl i0 hi hc;have Pm:=LK hl i0 hi hc (r:=c.length-r) G G;have Yr:=uI hl (c.length-r) i0 hi;refine bAf hl i0 (De Pm) Yr.2 ⟨d-(c.length-r),λe he=> ?_,?_⟩
   ·rw [xH];have:=h1 (c.length-r+e) G;rw[this,Ug,show r+(c.length-r+e)=e+c.length by omega,qn]
   ·rw [xH,show c.length-r+(d-(c.length-r))=d by omega];rw[show r+d=(d-(c.length-r))+c.length by omega,qn] at h2;exact h2
 rw[pY _ _ (by rw[az,nQ];omega),az,nQ]
 have bc: ∀e,e<c.length->lt (kT l c) e=U l i e:=λe he=>by
  rw[<-XP hl i0 hi hc he];unfold lt rd;rw[cz]
 refine⟨d,hdm,λe he=> ?_,?_⟩
 ·rw[iY,bc e G,bc (r+e) G,h1 e he,Ug]
 ·rw [iY,bc d G,bc (r+d) G];exact h2
end
end
end Go.Pure
namespace Go.Pure
open Go Go.Eng
theorem MQ {w:AH} {e:Nat} (h:e<w.length):om w e=lt w e:=HY h
theorem aMc {v:AH} (h:tO v=true) {r:Nat} (r0:0<r) (hr:r<v.length): ∃d,d<v.length-r/\(∀e,e<d->lt v e=lt v (r+e))/\lt v d<lt v (r+d):=by
 have:=((pK v).1 h).2 r r0 hr;rw[pY _ _ (by rw[az];omega),az] at this;obtain⟨d,h1,h2,h3⟩:=this;refine⟨d,h1,λe he=> ?_,?_⟩
 ·rw[h2 e he,iY]
 ·rwa[iY] at h3
theorem longer {w v:AH} (hw:0<w.length) (hv:tO v=true) (hlen:w.length<v.length) (Hj: ∀e,e<w.length->lt v e=lt w e):Lt (om w) (om v):=by
 obtain⟨d,h1,h2,h3⟩:=aMc hv hw hlen;have qn:=rX w
 have agr: ∀e,e<w.length+d->lt v e=om w e:=by
  intro e
  induction e using Nat.strongRecOn with
  | ind e ih=>
   intro he;rcases fo e w.length with g|g
   ·rw[Hj e g,MQ g]
   ·have e1:=h2 (e-w.length) G;rw[show w.length+(e-w.length)=e by omega] at e1;have e2:=qn (e-w.length);rw[show e-w.length+w.length=e by omega] at e2;rw[<-e1,e2];exact ih (e-w.length) G G
 refine⟨w.length+d,λf hf=> ?_,?_⟩
 ·rw[MQ (w:=v) G,agr f hf]
 ·rw [MQ (w:=v) G];have e1:=qn d;rw[wu d w.length] at e1;rw[e1,<-agr d G];exact h3
theorem aKo: ∀(ws:AD) (m:Nat),0<m->m<=ws.flatten.length-> ∃v∈ws,∃r,r<m/\m<=r+v.length/\ ∀e,e<v.length->lt ws.flatten (r+e)=lt v e
 |[],m,h0,h=>by simp at h;omega
 | w::ws,m,h0,h=>by
  rw[sw,ah] at h;rcases fo w.length m with g|g
  ·obtain ⟨v,hv,r,h1,h2,h3⟩:=aKo ws (m-w.length) G G;refine⟨v,fe _ hv,w.length+r,G,G,λe he=> ?_⟩;rw[sw,<-h3 e he];unfold lt;rw[ak,ak,ig G,show w.length+r+e-w.length=r+e by omega]
  ·refine ⟨w,cD,0,h0,G,λe he=> ?_⟩;rw[sw,nu];unfold lt;rw[ak,ak,ji he]
theorem aPq {w:AH} {ws:AD} (hw:tO w=true) (hws: ∀v∈ws,tO v=true) (pv: ∀v∈ws,¬Lt (om w) (om v)):iQ (w++ws.flatten) (w++ws.flatten).length=w.length:=by
 have fg:=((pK w).1 hw).1;refine FT (by rw[Fb];exact hw;rfl) _ cD λm h1 h2=> ?_;cases hb:tO ((w++ws.flatten).take m) with
 |false=>rfl
 | true=>
  exfalso;rw[ah] at h2;obtain⟨v,hv,r,r1,r2,r3⟩:=aKo ws (m-w.length) G G;have Yy:((w++ws.flatten).take m).length=m:=by rw[ax,ah];omega
  obtain⟨d,d1,d2,d3⟩:=aMc hb (r:=w.length+r) G G;rw[Yy] at d1;have hs: ∀e,e<m->lt ((w++ws.flatten).take m) e=lt (w++ws.flatten) e:=λe he=>lt_take he
  have m6: ∀e,e<w.length->lt (w++ws.flatten) e=lt w e:=λe he=>by
   unfold lt;rw[ak,ak,ji he]
  have hsv: ∀e,e<v.length->lt (w++ws.flatten) (w.length+r+e)=lt v e:=λe he=>by
   rw[<-r3 e he];unfold lt;rw[ak,ak,ig G,show w.length+r+e-w.length=r+e by omega]
  have Vr:=hws v hv
  have q2: ∀e,e<d->lt (w++ws.flatten) e=lt v e:=λe he=>by
   have:=d2 e he;rwa[hs _ G,hs _ G,hsv e G] at this
  have q3:lt (w++ws.flatten) d<lt v d:=by rwa[hs _ G,hs _ G,hsv d G] at d3
  rcases fo d w.length with g|g
  ·refine pv v hv ⟨d,λe he=> ?_,?_⟩
   ·rw[MQ (w:=w) G,MQ (w:=v) G,<-q2 e he,m6 e G]
   ·rw [MQ (w:=w) g,MQ (w:=v) G,<-m6 d g];exact q3
  ·exact pv v hv (longer fg Vr G λe he=>by rw[<-q2 e G,m6 e he])
theorem aKt: ∀ {ws:AD},(∀v∈ws,tO v=true)->ws.Pairwise (λa b=> ¬Lt (om a) (om b))->dN ws.flatten=ws.map λw=>(w.length:Int)
 |[],_,_=>NN rfl
 |w::ws,hl,hp=>by
  obtain⟨h1,h2⟩:=jb.1 hp;have hw:=hl w cD;have fg:=((pK w).1 hw).1;have hf:=aPq hw (λv hv=>hl v (fe _ hv)) h1;rw[sw,FZ (by rw[ah];omega),hf,Ez,lm,aKt (λv hv=>hl v (fe _ hv)) h2];rfl
theorem aFp (ws:AD) (k:Nat):ps (ws.map λw=>(w.length:Int)) k=((ws.take k).flatten.length:Int):=by
 unfold ps;rw[cz,<-Ch]
 induction ws.take k with
 |nil=>rfl
 |cons w l ih=>rw[lm,ym,ih,sw,ah];omega
theorem aQi (ws:AD):gV ws.flatten (ws.map λw=>(w.length:Int)) ws.length=ws:=by
 refine xg (by rw[tY];omega) λk h1 h2=> ?_;simp only[gV,Br,Cr];rw[aFp,cz,iP (by rw[cu];exact h2),Br,cz]
 have e:ws.flatten=(ws.take k).flatten++(ws[k]++(ws.drop (k+1)).flatten):=by
  conv=>lhs;rw[<-gu k ws,kv h2]
  rw[qg,sw]
 rw[e,Ez rfl,Fb rfl]
theorem aQu {ws:AD} (hl: ∀v∈ws,tO v=true) (hp:ws.Pairwise (λa b=> ¬Lt (om a) (om b))):bws ws.flatten=ws:=by
 unfold bws;rw[aKt hl hp,cu];exact aQi ws
end Go.Pure
namespace Go.Pure
open Go Go.Eng
section
variable {l:AH}
def jJ (l:AH):AD:=((eZ (lfL l)).reverse).map (kT l)
theorem aIi (l:AH):backL l (eZ (lfL l))=(jJ l).flatten:=rfl
theorem BU (hl:aP l) {c:AH} (hc:c∈eZ (lfL l)): ∃i:Int,(0<=i/\i<l.length)/\Ring (lfL l) i c/\rd c 0=i:=by
 obtain⟨i,h,r⟩:=(aHh (nD hl)).ring c hc;rw[oO] at h;exact⟨i,h,r,r.at_ 0 r.pos⟩
theorem aNi (hl:aP l): ∀v∈jJ l,tO v=true:=λv hv=>by
 obtain⟨c,hc,rfl⟩:=iy.1 hv;obtain⟨i,h,r,_⟩:=BU hl (Bu.1 hc);exact aTp hl h.1 h.2 r
theorem aFf (hl:aP l):(jJ l).Pairwise (λa b=> ¬Lt (om a) (om b)):=by
 unfold jJ;rw[Ij];refine List.pairwise_reverse.2 (iw.2 ?_);refine oq (λ{c d} hc hd h=> ?_) (aHh (nD hl)).heads;obtain⟨i,hi,r,e⟩:=BU hl hc;obtain⟨k,hk,q,f⟩:=BU hl hd;rw[KJ hl hi.1 hi.2 r,KJ hl hk.1 hk.2 q];exact bAf hl hi.1 G hk.2
theorem OU (hl:aP l):bws (backL l (eZ (lfL l)))=jJ l:=by
 rw[aIi];exact aQu (aNi hl) (aFf hl)
theorem bLb {ws:AD} {w:Int} {j:Nat}:tw ws (w,(j:Int))=λd=>om (rdl ws w) (j+d):=by
 funext d;unfold tw om;simp only[cz]
theorem RY (hl:aP l) {i:Int} {c:AH} (i0:0<=i) (hi:i<l.length) (hc:Ring (lfL l) i c):((List.range c.length).map λj=>jK l j i).Perm c:=by
 have fg:=hc.pos
 have Ds: ∀j,j<c.length->jK l j i=rd c (((c.length-j)%c.length:Nat):Int):=λj hj=>by
  rw[xR hl i0 hi hc G];rcases ed j with z|z
  ·subst z;rw[yo,hc.close,Nat.mod_self,hc.at_ 0 fg];rfl
  ·rw[lh G,hc.at_ _ G]
 refine qU ?_ (λx hx=> ?_) cD
 ·refine iw.2 (oq (λ{a b} ha hb wc e=> ?_) xh);have ha:=jq.1 ha;have hb:=jq.1 hb;rw[Ds a ha,Ds b hb] at e;have h1:=ze (c.length-a) fg;have h2:=ze (c.length-b) fg;have:=jT hc.nodup G G G G e;have e3:(c.length-a)%c.length=(c.length-b)%c.length:=G
  refine wc ?_;rcases ed a with z|z
  ·rcases ed b with y|y
   ·omega
   ·rw[z,yo,Nat.mod_self,lh G] at e3;omega
  ·rcases ed b with y|y
   ·rw[y,yo,Nat.mod_self,lh G] at e3;omega
   ·rw[lh G,lh G] at e3;omega
 ·obtain ⟨j,hj,rfl⟩:=iy.1 hx;have hj:=jq.1 hj;have h1:=ze (c.length-j) fg;rw[Ds j hj];exact bJ G G
theorem zD (hl:aP l): ∀k:Nat,k<=(eZ (lfL l)).length->((gD (jJ l) k).map (tw (jJ l))).Perm (((((eZ (lfL l)).reverse).take k).flatten).map (U l))
 |0,_=> .refl _
 | k+1,hk=>by
  have ih:=zD hl k G;have bc:k<(eZ (lfL l)).reverse.length:=by rw[qh];omega
  rw[gD,jo,uf,av bc,qg,jo];refine ih.append ?_;simp only[Cv,sw,Ii,jk];have gd:(eZ (lfL l)).reverse[k]∈eZ (lfL l):=Bu.1 (mf bc)
  have Mm:rdl (jJ l) (k:Int)=kT l (eZ (lfL l)).reverse[k]:=by
   unfold rdl jJ;rw[cz,ak,tq,av bc];rfl
  generalize (eZ (lfL l)).reverse[k]=c at gd Mm;obtain⟨i,hi,r,_⟩:=BU hl gd;have h1:=(RY hl hi.1 hi.2 r).map (U l);refine List.Perm.trans (.of_eq ?_) h1;rw[Mm,nQ];unfold turnsOf;rw[zg,zg];refine Ce λj _=> ?_;show tw (jJ l) ((k:Int),(j:Int))=U l (jK l j i);rw[bLb,Mm,KJ hl hi.1 hi.2 r];funext d;rw[xH]
theorem FB (hl:aP l) {q:Int} (q0:0<=q) (hq:q<l.length): ∃m:Nat,0<m/\jK l m q=q:=by
 have hp:=GC (nD hl);obtain⟨c,hc,hqc⟩:=Bt.1 (hp.symm.subset (aZ.2 ⟨q0,by rw[oO];exact hq⟩));obtain⟨i,hi,r,_⟩:=BU hl hc;obtain⟨j,hj,e⟩:=iy.1 ((RY hl hi.1 hi.2 r).symm.subset hqc);refine⟨c.length,r.pos,?_⟩;rw[<-e,<-oZ,wu,oZ,LJ hl hi.1 hi.2 r]
theorem aAi {q:Int} {m:Nat} (h:jK l m q=q): ∀t:Nat,jK l (t*m) q=q
 |0=>by rw[Dr];rfl
 |t+1=>by rw[Fv,oZ,aAi h t,h]
theorem aIp {q:Int} {m t:Nat} (hm:jK l m q=q) (m0:0<m) (t0:0<t):U l q (m*t-1)=rd l q:=by
 have h:=aAi hm t;rw[Ay] at h;have fg:0<m*t:=Jr m0 t0;have h2:=xH (l:=l) q (m*t-1) 0;rw[qo,xG] at h2;rw[<-h2];have h3:=oZ (l:=l) q (m*t-1) 1;rw[show m*t-1+1=m*t by omega,h] at h3;rw[show phi l (jK l (m*t-1) q)=jK l 1 (jK l (m*t-1) q) from rfl,<-h3]
theorem aMl (hl:aP l) {T:AE} (hp:T.Perm (gD (bws (backL l (eZ (lfL l)))) (bws (backL l (eZ (lfL l)))).length)) (ho:T.Pairwise (jF (bws (backL l (eZ (lfL l)))))):T.map (lastB (bws (backL l (eZ (lfL l)))))=l:=by
 rw[OU hl] at hp ho ⊢;have hlen:(jJ l).length=(eZ (lfL l)).length:=by unfold jJ;rw[cu,qh]
 have h1:(T.map (tw (jJ l))).Perm ((iota l.length).map (U l)):=by
  refine(hp.map _).trans ?_;rw[hlen];refine(zD hl _ (di _)).trans ?_;rw[bg (by rw[qh];exact di _)];have hc:=GC (nD hl);rw[oO] at hc;exact(((List.reverse_perm _).flatten).trans hc).map _
 have s1:(T.map (tw (jJ l))).Pairwise λa b=> ¬Lt b a:=iw.2 (ho.imp λ{t u} h bc=>by
  rcases h with h|h
  ·exact h.asymm bc
  ·exact bc.not_eq λi=>(h.1 i).symm)
 have s2:((iota l.length).map (U l)).Pairwise λa b=> ¬Lt b a:=iw.2 (oq (λ{i k} hi hk h=>by
  have hi:=aZ.1 hi;have hk:=aZ.1 hk
  exact bAf hl hi.1 (De h) hk.2) (DF l.length))
 have same:T.map (tw (jJ l))=(iota l.length).map (U l):=h1.eq_of_pairwise (λa b _ _ x y=>by
  rcases FU a b with z|z|z
  ·exact absurd z y
  ·exact funext z
  ·exact absurd z x) s1 s2
 have Xr:T.length=l.length:=by
  have:=bq List.length same;rwa[cu,cu,bB] at this
 refine bM (by rw[cu];exact Xr) λq q0 q1=> ?_;rw[cu] at q1;rw[bBz q0 q1];have hv:=yA.1 (hp.subset (kQ (l:=T) q0 q1))
 have hU:tw (jJ l) (rdp T q)=U l q:=by
  have e1:(T.map (tw (jJ l)))[q.toNat]? =some (tw (jJ l) (rdp T q)):=by
   rw[tq,av G];unfold rdp;rw[ak,av G];rfl
  have e2:((iota l.length).map (U l))[q.toNat]? =some (U l q):=by
   rw[tq,av (by rw[bB];omega)];have:=xU (n:=l.length) q0 G;rw[fI q0 (by rw[bB];omega)] at this;rw[this];rfl
  rw[same,e2] at e1;exact(jc e1).symm
 obtain⟨m,m0,hm⟩:=FB hl q0 (by omega:q<l.length);obtain⟨a1,a2,a3,a4⟩:=hv;have xd:0<(rdl (jJ l) (rdp T q).1).length:=G
 generalize Nv:(rdl (jJ l) (rdp T q).1).length=wl at xd a4;have sr:U l q (m*wl-1)=rd l q:=aIp hm m0 xd;rw[<-sr,<-hU];have fg:0<m*wl:=Jr m0 xd;unfold lastB tw rd;rw[Nv];congr 1;obtain⟨j,hj⟩: ∃j:Nat,(rdp T q).2=j:=⟨(rdp T q).2.toNat,G⟩;rw[hj,cz,show(j:Int)+(wl:Int)-1=((j+wl-1:Nat):Int) by omega,<-Ao,cz]
 have e:j+(m*wl-1)=(j+wl-1)+wl*(m-1):=by
  obtain⟨m',rfl⟩: ∃m',m=m'+1:=⟨m-1,G⟩;rw[Fv,Nat.add_sub_cancel,Ay wl m'];omega
 rw[e,Nat.add_mul_mod_self_left]
end
def aLo:AH:=(List.range 256).map λc:Nat=>(c:Int)
theorem SS {x:Int}:x∈aLo↔0<=x/\x<256:=by
 unfold aLo;rw[iy];constructor
 ·rintro ⟨c,hc,rfl⟩;have:=jq.1 hc;omega
 ·intro h;exact⟨x.toNat,jq.2 G,G⟩
theorem aDm:aLo.Nodup:=iw.2 (List.Pairwise.imp (λh e=>h G) xh)
def XD:Nat->AD
 |0=>[[]]
 |n+1=>aLo.flatMap λc=>(XD n).map λw=>c::w
theorem pE: ∀ {n:Nat} {w:AH},w∈XD n↔w.length=n/\aP w
 |0,w=>by
  rw[XD,ib];exact⟨λh=>by subst h;exact⟨rfl,λx hx=>by cases hx⟩,λh=>ek h.1⟩
 | n+1,w=>by
  rw[XD,Ik];constructor
  ·rintro ⟨c,hc,hw⟩;obtain⟨v,hv,rfl⟩:=iy.1 hw;have hv:=pE.1 hv;refine⟨by simp[hv.1],λx hx=> ?_⟩;rcases jm.1 hx with rfl|hx
   ·exact SS.1 hc
   ·exact hv.2 x hx
  ·rintro ⟨hl,hb⟩;cases w with
   |nil=>simp at hl
   |cons c v=>exact⟨c,SS.2 (hb c cD),iy.2 ⟨v,pE.2 ⟨by simpa using hl,λx hx=>hb x (fe _ hx)⟩,rfl⟩⟩
theorem PD: ∀n:Nat,(XD n).Nodup
 |0=>by rw[XD];exact qb _ _
 |n+1=>by
  rw[XD];refine List.pairwise_flatMap.2 ⟨λc _=>iw.2 ((PD n).imp λh e=>h (List.cons.inj e).2),aDm.imp λ{c d} h x hx y hy e=> ?_⟩;obtain⟨v,_,rfl⟩:=iy.1 hx;obtain⟨w,_,rfl⟩:=iy.1 hy;exact h (List.cons.inj e).1
theorem aZr {l k:AH} (hl:aP l) (hk:aP k) (hlen:l.length=k.length) (h:backL l (eZ (lfL l))=backL k (eZ (lfL k))):l=k:=by
 have hw:jJ l=jJ k:=by rw[<-OU hl,<-OU hk,h]
 have all: ∀ {x:AH},aP x->((gD (jJ x) (jJ x).length).map (tw (jJ x))).Perm ((iota x.length).map (U x)):=λ{x} hx=>by
  have Vs:(jJ x).length=(eZ (lfL x)).length:=by unfold jJ;rw[cu,qh]
  rw[Vs];refine(zD hx _ (di _)).trans ?_;rw[bg (by rw[qh];exact di _)];have hc:=GC (nD hx);rw[oO] at hc;exact(((List.reverse_perm _).flatten).trans hc).map _
 have srt: ∀ {x:AH},aP x->((iota x.length).map (U x)).Pairwise λa b=> ¬Lt b a:=λ{x} hx=>iw.2 (oq (λ{i k} hi hk h=>by
  have hi:=aZ.1 hi;have hk:=aZ.1 hk
  exact bAf hx hi.1 (De h) hk.2) (DF x.length))
 have h1:=all hl;rw[hw] at h1
 have same:(iota l.length).map (U l)=(iota k.length).map (U k):=(h1.symm.trans (all hk)).eq_of_pairwise (λa b _ _ x y=>by
  rcases FU a b with z|z|z
  ·exact absurd z y
  ·exact funext z
  ·exact absurd z x) (srt hl) (srt hk)
 refine bM hlen λq q0 q1=> ?_
 have at_: ∀ {x:AH},q<x.length->((iota x.length).map (U x))[q.toNat]? =some (U x q):=λ{x} hx=>by
  rw[tq,av (by rw[bB];omega)];have:=xU (n:=x.length) q0 hx;rw[fI q0 (by rw[bB];omega)] at this;rw[this];rfl
 have e:=at_ q1;rw[same,at_ G] at e;have eU:U k q=U l q:=jc e;obtain⟨m,m0,hm⟩:=FB hl q0 q1;obtain⟨m',m0',Kt⟩:=FB hk q0 (by omega:q<k.length);have a:=aIp hm m0 m0';have b:=aIp Kt m0' m0;rw[Ay,eU,a] at b;exact b
theorem aRg {s:AH} (hs:aP s): ∃l:AH,aP l/\l.length=s.length/\backL l (eZ (lfL l))=s:=by
 have hp:((XD s.length).map λl=>backL l (eZ (lfL l))).Perm (XD s.length):=by
  refine qU ?_ (λx hx=> ?_) cD
  ·refine iw.2 (oq (λ{a b} ha hb wc e=> ?_) (PD _));have ha:=pE.1 ha;have hb:=pE.1 hb;exact wc (aZr ha.2 hb.2 G e)
  ·obtain ⟨l,hl,rfl⟩:=iy.1 hx;have hl:=pE.1 hl;exact pE.2 ⟨by rw[aRh,aCq (nD hl.2),oO,hl.1],aRi hl.2 _⟩
 obtain⟨l,hl,e⟩:=iy.1 (hp.symm.subset (pE.2 ⟨rfl,hs⟩));have hl:=pE.1 hl;exact⟨l,hl.2,hl.1,e⟩
theorem TW {s:AH} (hs:aP s) {T:AE} (hp:T.Perm (gD (bws s) (bws s).length)) (ho:T.Pairwise (jF (bws s))):backL (T.map (lastB (bws s))) (eZ (lfL (T.map (lastB (bws s)))))=s:=by
 obtain⟨l,hl,_,e⟩:=aRg hs;subst e;rw[aMl hl hp ho]
end Go.Pure
namespace Go.Pure
open Go Go.Eng
variable {t o:Int} {n k:Nat} {u x y w:AH}
noncomputable def kY (t o:Int) (n:Nat) (u:AH) (k:Nat):AH:=
 (((List.range (chK u.length n)).drop k).map λj=>bZ t o ((u.drop (j*n)).take n)).flatten++(bL 0++bL u.length)
theorem aNk (h:chK u.length n<=k):kY t o n u k=bL 0++bL u.length:=by
 unfold kY;rw[xw (by rw[Dm];exact h)];rfl
theorem aFh (h:k<chK u.length n):kY t o n u k=bZ t o ((u.drop (k*n)).take n)++kY t o n u (k+1):=by
 unfold kY;rw[kv (by rw[Dm];exact h),lm,sw,Cr,gy]
theorem aPx (t so o sz:Int) (u:AH):jZ t so o sz u=[87,72,82,76,1]++([t,so,o]++(bL sz++kY t o sz.toNat u 0)):=by
 unfold jZ kY kS;rw[Di];simp
theorem bJr {m:Nat} (hn:1<=n):k<chK m n↔k*n<m:=by
 unfold chK;rw[Nat.lt_iff_add_one_le,Nat.le_div_iff_mul_le hn,yf,Aa];omega
theorem aP.back (h:aP (x++y)):aP y:=λz hz=>h z (List.mem_append_right _ hz)
theorem aP.front (h:aP (x++y)):aP x:=λz hz=>h z (Bo _ hz)
theorem NQ {so sz:Int} (hu:aP u) (hS:u.length<=400) (ht:0<=t/\t<256) (hs:0<=so/\so<256) (ho:0<=o/\o<256) (hz:1<=sz/\sz<=16777216):aP (jZ t so o sz u)/\(jZ t so o sz u).length<=400000:=by
 have e1:=kM (t:=t) (o:=o) (n:=sz.toNat) hu G (chK u.length sz.toNat);have e2:chK u.length sz.toNat<=u.length:=WW G;have e3:(2*u.length+22)*chK u.length sz.toNat<=822*400:=Dq G G;have e4:=dV 4 sz G;have e5:=dV 4 (u.length:Int) G;have e6:(bL 0).length=1:=rfl;unfold jZ;refine⟨λx hx=> ?_,by simp only[ah,dh,jl];omega⟩;rcases gp.1 hx with hx|hx
 ·rcases gp.1 hx with hx|hx
  ·rcases gp.1 hx with hx|hx
   ·simp only[jh,je,jm,zi,or_false] at hx;omega
   ·exact fU G x hx
  ·exact e1.2 x hx
 ·rcases gp.1 hx with hx|hx
  ·exact fU G x hx
  ·exact fU G x hx
def rG (w:AH) (n k:Nat):AH:=(w.drop (k*n)).take n
theorem aZf (w:AH) (n k:Nat):(rG w n k).length=min n (w.length-k*n):=by unfold rG;rw[ax,az]
theorem aQr (w:AH) (n k:Nat):w.take ((k+1)*n)=w.take (k*n)++rG w n k:=by
 unfold rG;rw[yf,Aa,Hw]
theorem aHt (h:aP w) (n k:Nat):aP (rG w n k):=(h.drop _).take _
noncomputable def nJ (t o:Int) (b r:AH):AH:=(gB t b).1++(bL (bY (gB t b).2 o).length++(fP (bv (iN b))++(bY (gB t b).2 o++r)))
theorem aFi (h:k<chK w.length n):kY t o n w k=bL (rG w n k).length++nJ t o (rG w n k) (kY t o n w (k+1)):=by
 rw[aFh h];unfold bZ nJ rG;simp only[gy]
theorem YV {α:Type} {r:α->α->Prop} (tr: ∀a b c,r a b->r b c->r a c) (a:α): ∀m:List α,m.Pairwise r->(∀b∈m,r a b\/r b a)-> ∃m':List α,m'.Perm (a::m)/\m'.Pairwise r
 |[],_,_=>⟨[a], .refl _,qb _ _⟩
 | b::m,hm,hr=>by
  obtain⟨h1,h2⟩:=jb.1 hm;rcases hr b cD with h|h
  ·exact⟨a::b::m, .refl _,jb.2 ⟨λc hc=>by
    rcases jm.1 hc with rfl|hc
    ·exact h
    ·exact tr _ _ _ h (h1 c hc),hm⟩⟩
  ·obtain ⟨m',hp,hs⟩:=YV tr a m h2 λc hc=>hr c (fe _ hc);refine⟨b::m',(hp.cons b).trans (.swap a b m),jb.2 ⟨λc hc=> ?_,hs⟩⟩;rcases jm.1 (hp.subset hc) with rfl|hc
   ·exact h
   ·exact h1 c hc
theorem YW {α:Type} {r:α->α->Prop} (tr: ∀a b c,r a b->r b c->r a c): ∀l:List α,(l.Pairwise λa b=>r a b\/r b a)-> ∃m:List α,m.Perm l/\m.Pairwise r
 |[],_=>⟨[], .refl _, .nil⟩
 |a::l,h=>by
  obtain⟨h1,h2⟩:=jb.1 h;obtain⟨m,hp,hs⟩:=YW tr l h2;obtain⟨m',cm,ee⟩:=YV tr a m hs λb hb=>h1 b (hp.subset hb);exact⟨m',cm.trans (hp.cons a),ee⟩
theorem aUv {ws:AD} {t u:Int × Int} (h:t≠u):jF ws t u\/jF ws u t:=by
 rcases FU (tw ws t) (tw ws u) with a|a|a
 ·exact .inl (.inl a)
 ·have hd:t.1≠u.1\/t.2≠u.2:=by
   rcases Int.decEq t.1 u.1 with c|c
   ·exact .inl c
   ·exact .inr λe=>h (Prod.ext c e)
  have:ltI t u\/ltI u t:=by unfold ltI;omega
  rcases this with g|g
  ·exact .inl (.inr ⟨a,g⟩)
  ·exact .inr (.inr ⟨λi=>(a i).symm,g⟩)
 ·exact .inr (.inl a)
theorem QD (ws:AD): ∃T:AE,T.Perm (gD ws ws.length)/\T.Pairwise (jF ws):=
 YW (r:=jF ws) (λ_ _ _ h g=>MO h g) _ ((vQ ws _).imp λh=>aUv h)
end Go.Pure
namespace Go.Proofs.YtdbebmmhdefgdaaGreat
open Go Go.Eng Go.Pure
open Tryz
set_option maxRecDepth 100000
variable {B g gc nt ct mt iz ar ao:Nat} {w0:World} {R X R0:List Row} {At io ap:AF} {p1 p2 p3 ms tt ls:Int} {l b u s t:AH}
theorem aZw (dr:RdC B w0 R io mt iz 1 (ints .u8 l)) (Hc:mt=l.length):
  CT 161 #[PG g,sl io mt iz,sl none 0 0] B w0 ((rc 87 10 g [PG gc,I 0,I p1,I p2,I p3,I ms,I tt,I ls,sl At nt ct,sl none 0 0])::R) (λv R'=>v= .tuple #[sl io mt iz,I 0]/\R'=(rc 87 10 g [PG gc,I 0,I p1,I p2,I p3,I ms,I tt,I ls,sl At nt ct,sl none 0 0])::R):=by
 subst Hc;refine fn2 Jb Z Z Z ?_;refine wq<|wg Z<|wn Z<|aC<|wq<|wm Z<|wy (aF Z)<|wy (yF 1 1 ic fD Z)<|wy (yF 0 1 bi sz3 Z)<|wy (yL 0 ai Z Z Z)<|aA<|aH ?_;refine wq<|wQ Z Z<|wn Z<|aJ Z<|wq<|wQ Z Z<|wn Z<|aJ Z<|wq<|wQ Z Z ?_;refine wn Z<|aJ Z<|aI<|wq<|wm Z<|wg Z<|wn Z<|bN (R1:=((rc 87 10 g [PG gc,I 0,I p1,I p2,I p3,I ms,I tt,I ls,sl At nt ct,sl none 0 0])::R)) hiZ ?_;refine⟨_,_,Z,Z,?_⟩;exact⟨Z,Z⟩
theorem aZv {vx:AF} {wb:Nat} {at_:Int} (dr:RdC B w0 R io mt iz 1 (ints .u8 l)) (Hc:mt=l.length) (xr:RdC B w0 R vx 1 wb 1 (ints .i64 [at_])) (d4:aP l) (dq:aRm l at_) (hb:mJ l at_=b) (hN:l.length<=100000):
  CT 161 #[PG g,sl io mt iz,sl vx 1 wb] B w0 ((rc 87 10 g [PG gc,I 1,I p1,I p2,I p3,I ms,I tt,I ls,sl At nt ct,sl none 0 0])::R) (λv R'=> ∃(A8:AF) (c8:Nat),v= .tuple #[sl A8 b.length c8,I 0]/\R'=(ru 5 A8 b.length c8 b)::(rc 87 10 g [PG gc,I 1,I p1,I p2,I p3,I ms,I tt,I ls,sl At nt ct,sl none 0 0])::R):=by
 subst Hc;refine fn2 Jb Z Z Z ?_;refine wq<|wg Z<|wn Z<|aC<|wq<|wm Z<|wy (aF Z)<|wy (yF 1 1 ic fD Z)<|wy (yF 0 1 bi sz3 Z)<|wy (yL 0 ai Z Z Z)<|aA<|aH ?_;refine wq<|wR Z Z<|wn Z<|bE Z<|wq<|wm Z<|wm Z<|wy (aG aa sz3 Z Z (RdC.right xr [_]) (by first|decide|omega) (by first|decide|omega)) ?_;refine wy (aR ai Z Z (RdC.right xr [_]) (by first|decide|omega) (by first|decide|omega)) ?_;refine wa (aD bGw Z (Ct.fresh (λw hw=>aDr ((RdC.right dr [_]) w hw) d4 dq hN))) ?_;rintro _ _⟨_,rfl,bm,bl,rfl,rfl⟩;refine wX Z Z<|wX Z Z<|wg Z<|wn Z<|bN (R1:=((ru 5 bm l.length bl (mJ l (rd ([at_]) 0)))::(rc 87 10 g [PG gc,I 1,I p1,I p2,I p3,I ms,I tt,I ls,sl At nt ct,sl none 0 0])::R)) hiZ ?_;refine⟨_,_,Z,Z,?_⟩;have j6:l.length=b.length:=by rw[<-hb,tH]
 rw[j6];have i8:mJ l (rd [at_] 0)=b:=hb;rw[i8];exact⟨_,_,Z,Z⟩
theorem aZu (dr:RdC B w0 R io mt iz 1 (ints .u8 l)) (Hc:mt=l.length) (d4:aP l) (hb:backL l (eZ (fsL l))=b) (hN:l.length<=100000):
  CT 161 #[PG g,sl io mt iz,sl none 0 0] B w0 ((rc 87 10 g [PG gc,I 2,I p1,I p2,I p3,I ms,I tt,I ls,sl At nt ct,sl none 0 0])::R) (λv R'=> ∃(A8:AF) (c8:Nat),v= .tuple #[sl A8 b.length c8,I 0]/\R'=(ru 5 A8 b.length c8 b)::(rc 87 10 g [PG gc,I 2,I p1,I p2,I p3,I ms,I tt,I ls,sl At nt ct,sl none 0 0])::R):=by
 subst Hc;refine fn2 Jb Z Z Z ?_;refine wq<|wg Z<|wn Z<|aC<|wq<|wm Z<|wy (aF Z)<|wy (yF 1 1 ic fD Z)<|wy (yF 0 1 bi sz3 Z)<|wy (yL 0 ai Z Z Z)<|aA<|aH ?_;refine wq<|wQ Z Z<|wn Z<|aJ Z<|wq<|wR Z Z<|wn Z<|bE Z<|wq<|wm Z ?_;refine wa (aD bGv Z (Ct.fresh (λw hw=>OW ((RdC.right dr [_]) w hw) d4 hN))) ?_;rintro _ _⟨_,rfl,bm,bl,rfl,rfl⟩;refine wX Z Z<|wX Z Z<|wg Z<|wn Z<|bN (R1:=((ru 5 bm ((backL l (eZ (fsL l))).length) bl (backL l (eZ (fsL l))))::(rc 87 10 g [PG gc,I 2,I p1,I p2,I p3,I ms,I tt,I ls,sl At nt ct,sl none 0 0])::R)) hiZ ?_;refine⟨_,_,Z,Z,?_⟩;rw[hb];exact⟨_,_,Z,Z⟩
theorem aIe (ac:RdC B w0 R0 ap ar ao 1 (ints .u8 u)) (ce:ar=u.length) (hN:u.length<=1000000) (an:aP u) (zr:nt=s.length) (hu:u=nJ 0 p2 b t) (cr:aP b) (w4:b.length<=100000/\s.length<=100000) (hf:(b.length:Int)<=p3/\(b.length:Int)<=ms-tt) (ph:p2=0\/p2=1) (hb:(-1000000<=ms/\ms<=1000000)/\(0<=tt/\tt<=1000000)):
  CT 91 #[PG g,I (b.length:Int)] B w0 ((rc 87 10 g [PG gc,I 0,I p1,I p2,I p3,I ms,I tt,I ls,sl At nt ct,sl none 0 0])::(rc 146 1 gc [sl ap ar ao])::(ru 5 At nt ct s)::(X++R0)) (λv R'=> ∃(A7:AF) (c7:Nat),∃(A9:AF) (c9:Nat),RdC B w0 R0 A9 (t).length c9 1 (ints .u8 (t))/\v=I 0/\R'=(rc 87 10 g [PG gc,I 0,I p1,I p2,I p3,I ms,I (tt+(b.length:Int)),I ls,sl A7 ((s++b).length) c7,sl none 0 0])::(rc 146 1 gc [sl A9 ((t).length) c9])::(ru 5 A7 ((s++b).length) c7 (s++b))::(X++R0)):=by
 subst ce;subst zr;rw[nJ,KS (t:=0) cC cC] at hu;dsimp only at hu;rw[je] at hu;have u6:b.length=b.length:=rfl;have a7:=bq List.length hu;simp only[ah] at a7;have Nb:=an;rw[hu] at Nb;have lf:0<=bv (iN b)/\bv (iN b)<4294967296:=⟨by unfold bv;omega,by unfold bv;have:=(iN b).isLt;omega⟩;refine fn1 Kb Z Z Z ?_;refine wq<|wn Z<|aC<|wq<|wm Z<|wm Z<|wa (aD aYb Z (Ct.at 0 Z (aGg hf.1 G))) ?_;rintro _ _⟨rfl,rfl⟩;refine fH 13 Z G<|wy (dI Z)<|aA<|aJ Z<|aI<|wq<|wm Z<|wy (aF Z)<|wy (yF 6 6 ic sz3 Z)<|wy (yL 0 ai Z Z Z)<|wm Z<|wA Z Z<|wy (aF Z)<|wy (yF 6 6 ic sz3 Z) ?_;refine bV (aX 0 Z Z Z sz3 Z Z Z Z (au Z)) ?_;rintro _ _ rfl;refine aA<|wq<|wm Z<|wm Z<|wa (aD aYa Z (Ct.at 0 Z (aOn))) ?_;rintro _ _⟨rfl,rfl⟩;refine wm Z<|wX Z Z<|wX Z Z<|wg Z<|wn Z<|aC<|wq<|wm Z<|wy (dI Z)<|aA<|aJ Z<|aI<|aC ?_;refine aL<|wm Z<|wm Z<|wa (aD aXz Z ((FO (X:=([(ru 5 At s.length ct s)]++X)) (R0:=R0) (x:=bv (iN b)) (l:=b) (t:=t) ac Z G an lf ph cr G hu))) ?_;rintro _ _⟨iu,js,bm,bl,se,rfl,rfl⟩;refine wm Z<|wX Z Z<|wX Z Z<|wX Z Z<|wg Z<|wg Z<|wn Z<|aC<|wq<|wm Z<|wy (dI Z)<|aA<|aJ Z ?_;refine aI<|wq<|wm Z<|wm Z<|wm Z<|wa (aD aXy Z (Ct.pick [1,0,2,3] 4 cC Z (aZw (rdr 0 Z) Z))) ?_;rintro _ _⟨rfl,rfl⟩;refine wm Z<|wX Z Z<|wX Z Z<|wg Z<|wn Z<|aC<|wq<|wm Z<|wy (Yl.f (fE Z Z) cC)<|aA<|aJ Z<|aI<|aC ?_;refine wq<|wa (aD aQb Z (Ct.fresh (λw hw=>qI))) ?_;rintro _ _⟨_,rfl,ki,rfl,rfl⟩;refine wm Z<|wa (mK [Value.slice iu ((b).length) js] dm yK Z Z Z Z) ?_;rintro _ _⟨yy,rfl,rfl⟩;refine wa (aD aQa Z (Ct.at 1 Z (qH (ls:=[b]) (.inl ⟨Z,Z,bu ..,G⟩) (rdr 0 rfl) rfl (AC.one (l:=b) (rdr 2 rfl) cr (by first|rfl|simp|(simp[upd];done))) (Big.one (by first|omega|decide|simp))))) ?_;rintro _ _⟨rfl,rfl⟩;refine wm Z<|wy (Yl.f (aRq (p:=iN ([b]).flatten) (q:=iN b) Z Z) (λh=>h cD)) ?_;refine aA<|aJ Z<|aI<|aC<|wq<|wm Z<|wy (aF Z)<|wy (yF 1 1 ic fD Z)<|wy (yF 0 1 bi sz3 Z)<|wy (yL 2 ai Z Z Z)<|wy (Yl.t (fE Z Z) cC)<|aA<|bE Z<|aL ?_;refine wm Z<|wm Z<|wy (aF Z)<|wy (yF 8 8 ic zG Z)<|wy (yF 0 8 jf dA Z)<|wy (yL 2 af Z Z Z)<|wm Z<|wa (aS 5 Z af zb5 Z Z Z (rdr 3 Z)) ?_;rintro _ _⟨eh,bo,rfl,rfl⟩;refine bF (v:=sl eh (s.length+((b).length)) bo) Z<|wy (aF Z)<|wy (yF 8 8 ic zG Z)<|wy (yF 0 8 jf dA Z)<|bV (aX 2 Z Z Z dA Z Z Z Z (au Z)) ?_;rintro _ _ rfl;refine aA<|wq<|wn Z<|aQ [2,4,5] 6 cC Z ?_;refine⟨_,Z,?_⟩;have Uf:s.length+b.length=(s++b).length:=by rw[ah]
 rw[Uf];exact⟨_,_,_,_,se,Z,Z⟩
theorem aId (ac:RdC B w0 R0 ap ar ao 1 (ints .u8 u)) (ce:ar=u.length) (hN:u.length<=1000000) (an:aP u) (zr:nt=s.length) (hu:u=nJ 1 p2 b t) (cr:aP b) (w4:b.length<=100000/\s.length<=100000) (hf:(b.length:Int)<=p3/\(b.length:Int)<=ms-tt) (ph:p2=0\/p2=1) (hb:(-1000000<=ms/\ms<=1000000)/\(0<=tt/\tt<=1000000)):
  CT 91 #[PG g,I (b.length:Int)] B w0 ((rc 87 10 g [PG gc,I 1,I p1,I p2,I p3,I ms,I tt,I ls,sl At nt ct,sl none 0 0])::(rc 146 1 gc [sl ap ar ao])::(ru 5 At nt ct s)::(X++R0)) (λv R'=> ∃(A7:AF) (c7:Nat),∃(A9:AF) (c9:Nat),RdC B w0 R0 A9 (t).length c9 1 (ints .u8 (t))/\v=I 0/\R'=(rc 87 10 g [PG gc,I 1,I p1,I p2,I p3,I ms,I (tt+(b.length:Int)),I ls,sl A7 ((s++b).length) c7,sl none 0 0])::(rc 146 1 gc [sl A9 ((t).length) c9])::(ru 5 A7 ((s++b).length) c7 (s++b))::(X++R0)):=by
 subst ce;subst zr;obtain⟨a,ye,Ue⟩:=pW b;rw[nJ,vO ye Ue] at hu;have hz:=mO ye Ue;have Ix:=zK (s:=b) (k:=0) G;dsimp only at hu;have u6:(ofL b a).length=b.length:=(wH ye Ue).length_eq;have a7:=bq List.length hu;simp only[ah] at a7;have Nb:=an;rw[hu] at Nb;have lf:0<=bv (iN b)/\bv (iN b)<4294967296:=⟨by unfold bv;omega,by unfold bv;have:=(iN b).isLt;omega⟩;refine fn1 Kb Z Z Z ?_;refine wq<|wn Z<|aC<|wq<|wm Z<|wm Z<|wa (aD aYb Z (Ct.at 0 Z (aGf hf.1 G))) ?_;rintro _ _⟨rfl,rfl⟩;refine fH 13 Z G<|wy (dI Z)<|aA<|aJ Z<|aI<|wq<|wm Z<|wy (aF Z)<|wy (yF 6 6 ic sz3 Z)<|wy (yL 0 ai Z Z Z)<|wm Z<|wA Z Z<|wy (aF Z)<|wy (yF 6 6 ic sz3 Z) ?_;refine bV (aX 0 Z Z Z sz3 Z Z Z Z (au Z)) ?_;rintro _ _ rfl;refine aA<|wq<|wm Z<|wm Z<|wa (aD aYa Z ((aOm (X:=([(ru 5 At s.length ct s)]++X)) (R0:=R0) (at_:=(zat a)) (t:=bL ((bY (ofL b a) p2).length:Int)++(fP (bv (iN b))++(bY (ofL b a) p2++t))) ac Z G cF G hu))) ?_;rintro _ _⟨iu,bm,bl,se,rfl,rfl⟩;refine wm Z<|wX Z Z<|wX Z Z<|wg Z<|wn Z<|aC<|wq<|wm Z<|wy (dI Z)<|aA<|aJ Z<|aI<|aC ?_;refine aL<|wm Z<|wm Z<|wa (aD aXz Z (Ct.pick [1,2,0,3] 4 cC Z (FO (X:=([(ri 3 iu 1 1 ([(zat a)])),(ru 5 At s.length ct s)]++X)) (R0:=R0) (x:=bv (iN b)) (l:=(ofL b a)) (t:=t) se Z (by simp only[ah];omega) (aP.back Nb) lf ph (uL cr ye) G Z))) ?_;rintro _ _⟨jz,lz,ef,kc,Mk,rfl,rfl⟩;refine wm Z<|wX Z Z<|wX Z Z<|wX Z Z<|wg Z<|wg Z<|wn Z<|aC<|wq<|wm Z<|wy (dI Z)<|aA<|aJ Z ?_;refine aI<|wq<|wm Z<|wm Z<|wm Z<|wa (aD aXy Z (Ct.pick [1,0,2,3,4] 5 cC Z (aZv (rdr 0 Z) Z (rdr 2 Z) (uL cr ye) (vN cr ye Ue).1 (vN cr ye Ue).2 G))) ?_;rintro _ _⟨br,bw,rfl,rfl⟩;refine wm Z<|wX Z Z<|wX Z Z<|wg Z<|wn Z<|aC<|wq<|wm Z<|wy (Yl.f (fE Z Z) cC)<|aA<|aJ Z<|aI<|aC ?_;refine wq<|wa (aD aQb Z (Ct.fresh (λw hw=>qI))) ?_;rintro _ _⟨_,rfl,kh,rfl,rfl⟩;refine wm Z<|wa (mK [Value.slice br ((b).length) bw] dm yK Z Z Z Z) ?_;rintro _ _⟨kb,rfl,rfl⟩;refine wa (aD aQa Z (Ct.at 1 Z (qH (ls:=[b]) (.inl ⟨Z,Z,bu ..,G⟩) (rdr 0 rfl) rfl (AC.one (l:=b) (rdr 1 rfl) cr (by first|rfl|simp|(simp[upd];done))) (Big.one (by first|omega|decide|simp))))) ?_;rintro _ _⟨rfl,rfl⟩;refine wm Z<|wy (Yl.f (aRq (p:=iN ([b]).flatten) (q:=iN b) Z Z) (λh=>h cD)) ?_;refine aA<|aJ Z<|aI<|aC<|wq<|wm Z<|wy (aF Z)<|wy (yF 1 1 ic fD Z)<|wy (yF 0 1 bi sz3 Z)<|wy (yL 3 ai Z Z Z)<|wy (Yl.t (fE Z Z) cC)<|aA<|bE Z<|aL ?_;refine wm Z<|wm Z<|wy (aF Z)<|wy (yF 8 8 ic zG Z)<|wy (yF 0 8 jf dA Z)<|wy (yL 3 af Z Z Z)<|wm Z<|wa (aS 7 Z af zb5 Z Z Z (rdr 2 Z)) ?_;rintro _ _⟨fh,rx,rfl,rfl⟩;refine bF (v:=sl fh (s.length+((b).length)) rx) Z<|wy (aF Z)<|wy (yF 8 8 ic zG Z)<|wy (yF 0 8 jf dA Z)<|bV (aX 3 Z Z Z dA Z Z Z Z (au Z)) ?_;rintro _ _ rfl;refine aA<|wq<|wn Z<|aQ [3,5,7] 8 cC Z ?_;refine⟨_,Z,?_⟩;have Uf:s.length+b.length=(s++b).length:=by rw[ah]
 rw[Uf];exact⟨_,_,_,_,Mk,Z,Z⟩
theorem aIc (ac:RdC B w0 R0 ap ar ao 1 (ints .u8 u)) (ce:ar=u.length) (hN:u.length<=1000000) (an:aP u) (zr:nt=s.length) (hu:u=nJ 2 p2 b t) (cr:aP b) (w4:b.length<=100000/\s.length<=100000) (hf:(b.length:Int)<=p3/\(b.length:Int)<=ms-tt) (ph:p2=0\/p2=1) (hb:(-1000000<=ms/\ms<=1000000)/\(0<=tt/\tt<=1000000)):
  CT 91 #[PG g,I (b.length:Int)] B w0 ((rc 87 10 g [PG gc,I 2,I p1,I p2,I p3,I ms,I tt,I ls,sl At nt ct,sl none 0 0])::(rc 146 1 gc [sl ap ar ao])::(ru 5 At nt ct s)::(X++R0)) (λv R'=> ∃(A7:AF) (c7:Nat),∃(A9:AF) (c9:Nat),RdC B w0 R0 A9 (t).length c9 1 (ints .u8 (t))/\v=I 0/\R'=(rc 87 10 g [PG gc,I 2,I p1,I p2,I p3,I ms,I (tt+(b.length:Int)),I ls,sl A7 ((s++b).length) c7,sl none 0 0])::(rc 146 1 gc [sl A9 ((t).length) c9])::(ru 5 A7 ((s++b).length) c7 (s++b))::(X++R0)):=by
 subst ce;subst zr;obtain⟨T,Tr,hsT⟩:=QD (bws b);rw[nJ,vP Tr hsT] at hu;dsimp only at hu;rw[je] at hu;have u6:(T.map (lastB (bws b))).length=b.length:=by rw[cu,yI Tr]
 have a7:=bq List.length hu;simp only[ah] at a7;have Nb:=an;rw[hu] at Nb;have lf:0<=bv (iN b)/\bv (iN b)<4294967296:=⟨by unfold bv;omega,by unfold bv;have:=(iN b).isLt;omega⟩;refine fn1 Kb Z Z Z ?_;refine wq<|wn Z<|aC<|wq<|wm Z<|wm Z<|wa (aD aYb Z (Ct.at 0 Z (aGe hf.1 G))) ?_;rintro _ _⟨rfl,rfl⟩;refine fH 13 Z G<|wy (dI Z)<|aA<|aJ Z<|aI<|wq<|wm Z<|wy (aF Z)<|wy (yF 6 6 ic sz3 Z)<|wy (yL 0 ai Z Z Z)<|wm Z<|wA Z Z<|wy (aF Z)<|wy (yF 6 6 ic sz3 Z) ?_;refine bV (aX 0 Z Z Z sz3 Z Z Z Z (au Z)) ?_;rintro _ _ rfl;refine aA<|wq<|wm Z<|wm Z<|wa (aD aYa Z (Ct.at 0 Z (aOl))) ?_;rintro _ _⟨rfl,rfl⟩;refine wm Z<|wX Z Z<|wX Z Z<|wg Z<|wn Z<|aC<|wq<|wm Z<|wy (dI Z)<|aA<|aJ Z<|aI<|aC ?_;refine aL<|wm Z<|wm Z<|wa (aD aXz Z ((FO (X:=([(ru 5 At s.length ct s)]++X)) (R0:=R0) (x:=bv (iN b)) (l:=(T.map (lastB (bws b)))) (t:=t) ac Z G an lf ph (kJ Tr (by rw[lL];exact cr)) G hu))) ?_;rintro _ _⟨iu,js,bm,bl,se,rfl,rfl⟩;refine wm Z<|wX Z Z<|wX Z Z<|wX Z Z<|wg Z<|wg Z<|wn Z<|aC<|wq<|wm Z<|wy (dI Z)<|aA<|aJ Z ?_;refine aI<|wq<|wm Z<|wm Z<|wm Z<|wa (aD aXy Z (Ct.pick [1,0,2,3] 4 cC Z (aZu (rdr 0 Z) Z (kJ Tr (by rw[lL];exact cr)) (TW cr Tr hsT) G))) ?_;rintro _ _⟨dy,jt,rfl,rfl⟩;refine wm Z<|wX Z Z<|wX Z Z<|wg Z<|wn Z<|aC<|wq<|wm Z<|wy (Yl.f (fE Z Z) cC)<|aA<|aJ Z<|aI<|aC ?_;refine wq<|wa (aD aQb Z (Ct.fresh (λw hw=>qI))) ?_;rintro _ _⟨_,rfl,yy,rfl,rfl⟩;refine wm Z<|wa (mK [Value.slice dy ((b).length) jt] dm yK Z Z Z Z) ?_;rintro _ _⟨Li,rfl,rfl⟩;refine wa (aD aQa Z (Ct.at 1 Z (qH (ls:=[b]) (.inl ⟨Z,Z,bu ..,G⟩) (rdr 0 rfl) rfl (AC.one (l:=b) (rdr 1 rfl) cr (by first|rfl|simp|(simp[upd];done))) (Big.one (by first|omega|decide|simp))))) ?_;rintro _ _⟨rfl,rfl⟩;refine wm Z<|wy (Yl.f (aRq (p:=iN ([b]).flatten) (q:=iN b) Z Z) (λh=>h cD)) ?_;refine aA<|aJ Z<|aI<|aC<|wq<|wm Z<|wy (aF Z)<|wy (yF 1 1 ic fD Z)<|wy (yF 0 1 bi sz3 Z)<|wy (yL 3 ai Z Z Z)<|wy (Yl.t (fE Z Z) cC)<|aA<|bE Z<|aL ?_;refine wm Z<|wm Z<|wy (aF Z)<|wy (yF 8 8 ic zG Z)<|wy (yF 0 8 jf dA Z)<|wy (yL 3 af Z Z Z)<|wm Z<|wa (aS 6 Z af zb5 Z Z Z (rdr 2 Z)) ?_;rintro _ _⟨kl,ci,rfl,rfl⟩;refine bF (v:=sl kl (s.length+((b).length)) ci) Z<|wy (aF Z)<|wy (yF 8 8 ic zG Z)<|wy (yF 0 8 jf dA Z)<|bV (aX 3 Z Z Z dA Z Z Z Z (au Z)) ?_;rintro _ _ rfl;refine aA<|wq<|wn Z<|aQ [3,5,6] 7 cC Z ?_;refine⟨_,Z,?_⟩;have Uf:s.length+b.length=(s++b).length:=by rw[ah]
 rw[Uf];exact⟨_,_,_,_,se,Z,Z⟩
end Go.Proofs.YtdbebmmhdefgdaaGreat
namespace Go.Eng
open Go Go.RowKit Go.Pure
section
variable {P:Program} {n:Nd} {B:Nat} {w0:World} {L:Env} {R:List Row} {ty:TypeId}
def CellIs (L:Env) (R:List Row) (p sz:Nat) (xs:AG):Prop:= ∃(g i:Nat) (r:Row),lk L p=some (.pointer (some ⟨g,0,none⟩))/\R[i]? =some r/\r.ro=false/\r.A=some ⟨g,0,none⟩/\r.n=1/\r.c=1/\r.sz=sz/\r.xs=xs
theorem CellIs.load {m:Nat} {p sz:Nat} {xs:AG} {a:Act} {w:World} (h:CellIs L R p sz xs) (hs:Sat (m:Nd) L a) (hp:Hp B w0 w R): ∃g e,a.tmps[p]?.getD undef= .pointer (some ⟨g,0,none⟩)/\w.heap[g]? =some (.cells xs.toArray e (0,0))/\xs.length=sz:=by
 obtain⟨g,i,r,h1,h2,h3,h4,h5,h6,h7,h8⟩:=h;have ge:=Row.lies_w (hp.own r (fw h2)) h3;rcases ge.2 with⟨hn,_⟩|⟨g',cap,cur,hv,_,hg,_,_,lf,ht⟩
 ·rw[h4] at hn;cases hn
 ·rw [h4] at hv;simp only[ku,lv,Aj,Au,Ag] at hv;obtain⟨rfl,rfl⟩:=hv;rw[h5,h7,Aa] at ht;rw[h6,h7,Aa] at lf
  have e:cur=r.xs.toArray:=by
   rw[<-ht,bg (by rw[jr];omega)]
  rw[h8] at e;subst e;exact⟨g,_,by have:=hs.getD h1;simpa using this,hg,by simpa using lf⟩
theorem bLj {f:FuncId} {fn:Func} {c:Code} {args:AG} {R:List Row} {Post:Value->List Row->Prop} {p1 p2 r3:Nat} {t1 t2:TypeId} {d1 d2:TypeDesc} {s1 s2:Nat} (hf:P.funcs[f]? =some fn) (hb:fn.body=some c) (hr:fn.results= #[.cell p1 t1, .cell p2 t2, .tmp r3]) (hl:Nat.ble args.length fn.ntmps=true)
  (hu1:P.underlying t1=some d1) (Fd:(match d1 with| .struct _| .array _ _=>true|_=>false)=true) (ia:(P.info? t1).map (·.size)=some s1)
  (Ns:P.underlying t2=some d2) (Ow:(match d2 with| .struct _| .array _ _=>true|_=>false)=true) (Ly:(P.info? t2).map (·.size)=some s2)
  (h:W P fn.ntmps B w0 c ⟨λL R'=> ∃xs ys u,CellIs L R' p1 s1 xs/\CellIs L R' p2 s2 ys/\lk L r3=some u/\ ∃R1,(∀w,Hp B w0 w R'->Hp B w0 w R1)/\Post (.tuple #[.agg xs.toArray, .agg ys.toArray,u]) R1,
   λL R'=> ∃xs ys u,CellIs L R' p1 s1 xs/\CellIs L R' p2 s2 ys/\lk L r3=some u/\ ∃R1,(∀w,Hp B w0 w R'->Hp B w0 w R1)/\Post (.tuple #[.agg xs.toArray, .agg ys.toArray,u]) R1,λ_ _ _=>False⟩ (ini 0 args) R):Ct P f args.toArray B w0 R Post:=by
 intro w hw;have wj:args.length<=fn.ntmps:=au hl
 have fin: ∀(L':Env) (R':List Row) (a':Act) (w':World),Sat fn.ntmps L' a'->Hp B w0 w' R'->(∃xs ys u,CellIs L' R' p1 s1 xs/\CellIs L' R' p2 s2 ys/\lk L' r3=some u/\ ∃R1,(∀w,Hp B w0 w R'->Hp B w0 w R1)/\Post (.tuple #[.agg xs.toArray, .agg ys.toArray,u]) R1)->
   ∃v R1,(results fn a'.tmps).run P w'= .ok v w'/\Hp B w0 w' R1/\Post v R1:=by
  rintro L' R' a' w' ee cm ⟨xs,ys,u,h1,h2,h3,R1,h8,h9⟩;obtain⟨g,e,a1,b1,l1⟩:=h1.load ee cm;obtain⟨g',e',a2,b2,l2⟩:=h2.load ee cm;have Zw:=ee.val r3 u h3
  have mw:(results fn a'.tmps).run P w'= .ok (.tuple #[.agg xs.toArray, .agg ys.toArray,u]) w':=by
   simp[results,hr,a1,a2,Zw,asAddr,Jm w' g e t1 xs.toArray (0,0) d1 b1 hu1 Fd (by rw[ia];simp[l1]),Jm w' g' e' t2 ys.toArray (0,0) d2 b2 Ns Ow (by rw[Ly];simp[l2])]
  exact⟨_,R1,mw,h8 _ cm,h9⟩
 refine calls_of_wp hf hb (wp_mono (wpIn_wide.1 (h _ w ⟨cH,rfl,λt v ht=> ?_⟩ hw)) ?_)
 ·obtain ⟨_,h2⟩:=WA args 0 t v ht;simp only[yo] at h2;have bc:=(dw.1 h2).1;rw[<-h2];simp[zo,bc]
 ·intro e a' w' hq;cases e with
  |normal=>
   obtain⟨L',R',ee,cm,hx⟩:=hq;obtain⟨v,R1,mw,hh,nh⟩:=fin L' R' _ _ ee cm hx;exact⟨ee.defers,v,mw,v,R1,rfl,hh,nh⟩
  |ret=>
   obtain⟨L',R',ee,cm,hx⟩:=hq;obtain⟨v,R1,mw,hh,nh⟩:=fin L' R' _ _ ee cm hx;exact⟨ee.defers,v,mw,v,R1,rfl,hh,nh⟩
  |exit id=>obtain⟨_,_,_,_,h⟩:=hq;exact h.elim
  |goto l=>exact hq
  |panic ch=>exact hq.elim
  |outgrown=>exact hq.elim
end
end Go.Eng
namespace Go.Proofs.YtdbebmmhdefgdaaGreat
open Go Go.Eng Go.Pure
open Tryz
set_option maxRecDepth 100000
variable {B g gc ar ao nt ct:Nat} {w0:World} {X R0:List Row} {ap At:AF} {u t:AH} {p1 p2 p3 ms tt ls sz k:Int}
theorem aWo {p0:Int} {b0 b1 b2:Int} (ac:RdC B w0 R0 ap ar ao 1 (ints .u8 u)) (ce:ar=u.length) (hN:u.length<=1000000) (an:aP u) (hu:u=[87,72,82,76,1]++([b0,b1,b2]++(bL sz++t))) (ye:0<=b0/\b0<=3) (Tt:(0<=b1/\b1<=2)/\(b2=0\/b2=1)/\(1<=sz/\sz<=16777216)):
  CT 89 #[PG g] B w0 ((rc 87 10 g [PG gc,I p0,I p1,I p2,I p3,I ms,I tt,I ls,sl At nt ct,sl none 0 0])::(rc 146 1 gc [sl ap ar ao])::(X++R0)) (λv R'=> ∃(A9:AF) (c9:Nat),RdC B w0 R0 A9 (t).length c9 1 (ints .u8 (t))/\v=bt/\R'=(rc 87 10 g [PG gc,I b0,I b1,I b2,I sz,I ms,I tt,I ls,sl At nt ct,sl none 0 0])::(rc 146 1 gc [sl A9 ((t).length) c9])::(X++R0)):=by
 have h5:u.take (5:Int).toNat=[87,72,82,76,1]:=by rw[hu];rfl
 have hd5:u.drop (5:Int).toNat=[b0,b1,b2]++(bL sz++t):=by rw[hu];rfl
 have hd8:(u.drop (5:Int).toNat).drop (3:Int).toNat=bL sz++t:=by rw[hd5];rfl
 have a7:u.length=8+((bL sz).length+t.length):=by rw[hu];simp only[ah,dh,jl];omega
 refine(aGp (R:=X++R0) (m:=(bL sz).length) (RdC.right ac X) ce hN an h5 (by rw[hd5];rfl) G (by rw[hd8];exact vC.of ⟨G,G⟩ t) ye Tt).mono λv R' hv=> ?_;obtain⟨rfl,rfl⟩:=hv;have e:=RdC.fromI (l:=(bL sz).length) (RdC.fromI (l:=(3:Int).toNat) (RdC.fromI (l:=(5:Int).toNat) ac (by show 5<=ar;omega)) (by show 3<=ar-5;omega)) (by show(bL sz).length<=ar-5-3;omega);have hl:ar-(5:Int).toNat-(3:Int).toNat-(bL sz).length=t.length:=by show ar-5-3-_=_;omega
 have hd:((u.drop (5:Int).toNat).drop (3:Int).toNat).drop (bL sz).length=t:=by rw[hd8];exact Gh
 rw[hl,hd] at e;rw[hl];exact⟨_,_,e,Z,Z⟩
theorem aQy {s b:AH} (ac:RdC B w0 R0 ap ar ao 1 (ints .u8 u)) (ce:ar=u.length) (hN:u.length<=1000000) (an:aP u) (zr:nt=s.length) (hu:u=nJ k p2 b t) (cr:aP b) (w4:b.length<=100000/\s.length<=100000) (hf:(b.length:Int)<=p3/\(b.length:Int)<=ms-tt) (ph:p2=0\/p2=1) (hb:(-1000000<=ms/\ms<=1000000)/\(0<=tt/\tt<=1000000)) (hk:k=0\/k=1\/k=2):
  CT 91 #[PG g,I (b.length:Int)] B w0 ((rc 87 10 g [PG gc,I k,I p1,I p2,I p3,I ms,I tt,I ls,sl At nt ct,sl none 0 0])::(rc 146 1 gc [sl ap ar ao])::(ru 5 At nt ct s)::(X++R0)) (λv R'=> ∃(A7:AF) (c7:Nat),∃(A9:AF) (c9:Nat),RdC B w0 R0 A9 (t).length c9 1 (ints .u8 (t))/\v=I 0/\R'=(rc 87 10 g [PG gc,I k,I p1,I p2,I p3,I ms,I (tt+(b.length:Int)),I ls,sl A7 ((s++b).length) c7,sl none 0 0])::(rc 146 1 gc [sl A9 ((t).length) c9])::(ru 5 A7 ((s++b).length) c7 (s++b))::(X++R0)):=by
 rcases hk with rfl|rfl|rfl
 ·exact aIe ac ce hN an zr hu cr w4 hf ph hb
 ·exact aId ac ce hN an zr hu cr w4 hf ph hb
 ·exact aIc ac ce hN an zr hu cr w4 hf ph hb
theorem aTz {q0 q1 q2 q3:Int} {w:AH} {so od:Int} (ac:RdC B w0 R0 ap ar ao 1 (ints .u8 u)) (ce:ar=u.length) (hN:u.length<=1000000) (an:aP u) (hu:u=jZ k so od sz w) (d5:aP w) (hS:w.length<=400) (hk:k=0\/k=1\/k=2) (hp:(0<=so/\so<=2)/\(od=0\/od=1)/\(1<=sz/\sz<=16777216)) (hms: -1000000<=ms/\ms<=1000000) (f7:(w.length:Int)<=ms\/w.length=0):
  CT 51 #[PG g] B w0 ((rc 87 10 g [PG gc,I q0,I q1,I q2,I q3,I ms,I 0,I 0,sl none 0 0,sl none 0 0])::(rc 146 1 gc [sl ap ar ao])::(ru 5 none 0 0 ([]))::(X++R0)) (λv R'=> ∃(A7:AF) (c7:Nat) (L7:Int) (A9:AF) (c9:Nat),v=I 0/\R'=(rc 87 10 g [PG gc,I k,I so,I od,I sz,I ms,I (w.length:Int),I L7,sl A7 w.length c7,sl none 0 0])::(rc 146 1 gc [sl A9 0 c9])::(ru 5 A7 w.length c7 w)::(X++R0)):=by
 subst ce;have heb:=NQ (t:=k) (so:=so) (o:=od) (sz:=sz) d5 hS G G G hp.2.2;have Ns:=hu;rw[aPx] at Ns;have a7:=bq List.length Ns;simp only[ah,dh,jl] at a7;have Vq:u.length<=400000:=by rw[hu];exact heb.2
 have Sk:=an;rw[Ns] at Sk;have o9:aP (kY k od sz.toNat w 0):=aP.back (aP.back (aP.back Sk));refine fn1 Tryz.func51 Z Z Z ?_;refine wq<|wn Z<|aC<|wq<|wm Z<|wa (aD bQo Z ((aWo (X:=([(ru 5 none 0 0 ([]))]++X)) (R0:=R0) (b0:=k) (b1:=so) (b2:=od) (sz:=sz) (t:=kY k od sz.toNat w 0) ac Z G an Ns G hp))) ?_;rintro _ _⟨bm,bl,se,rfl,rfl⟩;refine wy (dI Z)<|aA<|aJ Z<|aI<|wq<|wn Z<|aC<|aH ?_;refine UL (λ(kk:Nat) (Ac:AF) (cc:Nat) (At:AF) (nt:Nat) (ct:Nat) (s:AH) (tt:Int) (ls:Int)=>[(0,PG g),(3,bf)]) (λkk Ac cc At nt ct s tt ls=>((rc 87 10 g [PG gc,I k,I so,I od,I sz,I ms,I tt,I ls,sl At nt ct,sl none 0 0])::(rc 146 1 gc [sl Ac ((kY k od sz.toNat w kk).length) cc])::(ru 5 At nt ct s)::(X++R0))) (λkk Ac cc At nt ct s tt ls=>(kk<=chK w.length sz.toNat)/\(RdC B w0 R0 Ac (kY k od sz.toNat w kk).length cc 1 (ints .u8 (kY k od sz.toNat w kk)))/\((kY k od sz.toNat w kk).length<=400000)/\(aP (kY k od sz.toNat w kk))/\(s=w.take (kk*sz.toNat))/\(nt=s.length)/\(tt=(s.length:Int))/\(ls=0\/ls=sz\/w.length<=kk*sz.toNat)) (λkk Ac cc At nt ct s tt ls=>(chK w.length sz.toNat-kk)) ?_ ?_
 ·exact⟨0,bm,bl,none,0,0,[],0,0,⟨(qp _),(se),G,(o9),(by rw[Dr];rfl),(Z),(Z),(.inl Z)⟩,KP⟩
 intro kk Ac cc At nt ct s tt ls ⟨hkk,Oy,hln,Os,hs,kt,htt,Nl⟩;have Qi:(kk+1)*sz.toNat=kk*sz.toNat+sz.toNat:=by rw[yf,Aa]
 have mj:=aZf w sz.toNat kk;have Qf:=bJr (m:=w.length) (n:=sz.toNat) (k:=kk) G;have vf:s.length=min (kk*sz.toNat) w.length:=by rw[hs,ax]
 refine aH<|wq<|wm Z ?_;refine(Classical.em (kk<chK w.length sz.toNat)).elim (λFr=> ?_) (λFr=> ?_)
 ·have bc:kk+1<=chK w.length sz.toNat:=Fr;have hwk:=Qf.1 Fr;have Zs:=aFi (t:=k) (o:=od) Fr;have xt:=Os;rw[Zs] at xt;have zj:=bq List.length Zs;rw[ah] at zj;have i8:aP (kY k od sz.toNat w (kk+1)):=aP.back (x:=(gB k (rG w sz.toNat kk)).1++(bL (bY (gB k (rG w sz.toNat kk)).2 od).length++(fP (bv (iN (rG w sz.toNat kk)))++bY (gB k (rG w sz.toNat kk)).2 od))) (by have h:=aP.back xt;unfold nJ at h;simpa only[gy] using h);have un:(kY k od sz.toNat w (kk+1)).length<=(nJ k od (rG w sz.toNat kk) (kY k od sz.toNat w (kk+1))).length:=by unfold nJ;simp only[ah];omega
  refine wa (aD aPy Z ((CR (X:=([(ru 5 At nt ct s)]++X)) (R0:=R0) ((((rG w sz.toNat kk).length:Nat):Int)) (nJ k od (rG w sz.toNat kk) (kY k od sz.toNat w (kk+1))) Oy Z G Os G Zs))) ?_;rintro _ _⟨iu,js,Mj,rfl,rfl⟩;refine wm Z<|wX Z Z<|wX Z Z<|wg Z<|wn Z<|aC<|wq<|wm Z<|wy (dI Z)<|aA<|aJ Z<|aI<|aC ?_;refine wq<|wm Z<|wy (Yl.f (dR Z Z))<|aA<|aJ Z<|aI ?_;refine lM [(0,PG g),(3,bf),(4,I (((rG w sz.toNat kk).length:Nat):Int))] ((rc 87 10 g [PG gc,I k,I so,I od,I sz,I ms,I tt,I ls,sl At nt ct,sl none 0 0])::(rc 146 1 gc [sl iu ((nJ k od (rG w sz.toNat kk) (kY k od sz.toNat w (kk+1))).length) js])::(ru 5 At nt ct s)::(X++R0)) ?_ ?_
  ·refine bI mixed<|wD 0 Z (aK Z)<|wD 1 Z (aK Z)<|wG 2 Z Z Z (aK Z)<|wG 3 Z Z Z (aF Z)<|wG 4 Z Z Z (yF 7 7 ic sz3 Z)<|wG 5 Z Z Z (yL 0 ai Z Z Z)<|wG 6 Z Z Z (dE Z Z)<|wG 7 Z Z Z (aK Z)<|iL 28 Z (λaq=> ?_) (λaq=> ?_)
   ·refine wG 8 Z Z Z (aK Z)<|wG 9 Z Z Z (aF Z)<|wG 10 Z Z Z (yF 7 7 ic sz3 Z)<|wG 11 Z Z Z (yL 0 ai Z Z Z)<|wG 12 Z Z Z (aK Z)<|wG 13 Z Z Z (aF Z)<|wG 14 Z Z Z (yF 1 1 ic fD Z)<|wG 15 Z Z Z (yF 3 4 bi sz3 Z)<|wG 16 Z Z Z (yL 0 ai Z Z Z)<|wG 17 Z Z Z (Yl.f (eD Z Z))<|wG 18 Z Z Z (aT Z Z)<|wD 19 Z (aO Z Z)<|wD 20 Z (bC Z)<|wN ?_;exact KP
   ·refine wO 8 Z Z Z<|wO 9 Z Z Z<|wO 10 Z Z Z<|wO 11 Z Z Z<|wO 12 Z Z Z<|wO 13 Z Z Z<|wO 14 Z Z Z<|wO 15 Z Z Z<|wO 16 Z Z Z<|wO 17 Z Z Z<|wG 18 Z Z Z (aO Z Z)<|wD 19 Z (aO Z Z)<|wD 20 Z (bC Z)<|wN ?_;exact KP
  refine aC<|wq<|wm Z<|wm Z<|wa (aD bQn Z ((aQy (X:=([]++X)) (R0:=R0) (b:=(rG w sz.toNat kk)) (t:=kY k od sz.toNat w (kk+1)) Mj Z G (aP.back xt) kt Z (aHt d5 _ _) G G hp.2.1 G hk))) ?_;rintro _ _⟨br,bw,fc,dv,Hs,rfl,rfl⟩;refine wn Z<|wq<|wm Z<|wy (Yl.f (fE Z Z) cC)<|aA<|aJ Z<|aI<|aL<|wm Z<|wm Z<|wy (aF Z)<|wy (yF 7 7 ic sz3 Z)<|bV (aX 0 Z Z Z sz3 Z Z Z Z (au Z)) ?_;rintro _ _ rfl;refine aA ?_;exact⟨(kk+1),fc,dv,br,(s++(rG w sz.toNat kk)).length,bw,s++(rG w sz.toNat kk),tt+((((rG w sz.toNat kk)).length:Nat):Int),(((rG w sz.toNat kk).length:Nat):Int),⟨(bc),(Hs),G,(i8),(by rw[aQr,<-hs]),(Z),(by rw[ah];omega),G⟩,G,KP⟩
 ·have Ox:=aNk (t:=k) (o:=od) (n:=sz.toNat) (u:=w) (k:=kk) G;have hwk: ¬kk*sz.toNat<w.length:=λh=>Fr (Qf.2 h);have m6:s=w:=by rw[hs];exact bg G
  have hbe:aP (bL 0++bL (w.length:Int)):=by rw[<-Ox];exact Os
  refine wa (aD aPy Z ((CR (X:=([(ru 5 At nt ct s)]++X)) (R0:=R0) (0) (bL (w.length:Int)) Oy Z G Os G Ox))) ?_;rintro _ _⟨ln,co,Tx,rfl,rfl⟩;refine wm Z<|wX Z Z<|wX Z Z<|wg Z<|wn Z<|aC<|wq<|wm Z<|wy (dI Z)<|aA<|aJ Z<|aI<|aC ?_;refine wq<|wm Z<|wR Z Z<|aA<|bE Z<|aU<|wq<|wm Z<|wa (aD aPy Z ((CR (X:=([(ru 5 At nt ct s)]++X)) (R0:=R0) ((w.length:Int)) ([]) Tx Z (by have:=bq List.length Ox;rw[ah] at this;omega) (aP.back hbe) G (jk _).symm))) ?_;rintro _ _⟨fh,rx,Hn,rfl,rfl⟩;refine wm Z<|wX Z Z<|wX Z Z<|wg Z<|wn Z<|aC<|wq<|wm Z<|wy (dI Z)<|wm Z<|aB Z Z<|wm Z<|aB Z Z ?_;refine wm Z<|aB Z Z<|wy (aF Z)<|aB Z Z<|wy (yF 6 6 ic sz3 Z)<|aB Z Z<|wy (yL 0 ai Z Z Z)<|aB Z Z<|wy (Yl.f (fE Z Z) (by rw[<-m6];omega)) ?_;refine wy (aO Z Z)<|wm Z<|aB Z Z<|wm Z<|aB Z Z<|wy (aF Z)<|aB Z Z<|wy (yF 0 0 ic aMn Z)<|aB Z Z<|wy (yL 0 Ai Z Z Z)<|aB Z Z<|wa (aD bQm Z (Ct.pick [1,0,2] 3 cC Z (aVs (k:=0) (R:=([(rc 87 10 g [PG gc,I k,I so,I od,I sz,I ms,I tt,I ls,sl At nt ct,sl none 0 0]),(ru 5 At nt ct s)]++X)++R0) (RdC.right Hn ([(rc 87 10 g [PG gc,I k,I so,I od,I sz,I ms,I tt,I ls,sl At nt ct,sl none 0 0]),(ru 5 At nt ct s)]++X)) Z))) ?_;rintro _ _⟨rfl,rfl⟩;refine aB Z Z<|wy (Yl.f (dE Z Z) cC)<|wy (aO Z Z)<|wm Z<|aB Z Z<|wm Z<|aB Z Z<|wm Z<|aM Z Z Z Z<|aM Z Z Z Z<|aM Z Z Z Z<|aM Z Z Z Z<|aM Z Z Z Z<|aM Z Z Z Z<|aB Z Z ?_;refine wy (aO Z Z)<|wy (aO Z Z)<|aA<|aJ Z<|aI<|wq<|wn Z<|aQ [1,0,2] 3 cC Z ?_;refine⟨_,Z,?_⟩;rw[htt,kt,m6];exact⟨_,_,_,_,_,Z,Z⟩
theorem bEe {w_:World} {ap:AF} {ar ao:Nat} {u:AH} {lim:Int} {w:AH} {k so od sz:Int} (ac:Rd w_ ap ar ao 1 (ints .u8 u)) (an:aP u) (hN:u.length<=1000000) (hu:u=jZ k so od sz w) (d5:aP w) (hS:w.length<=400) (hk:k=0\/k=1\/k=2) (hp:(0<=so/\so<=2)/\(od=0\/od=1)/\(1<=sz/\sz<=16777216)) (Pf: -1000<=lim/\lim<=1000000) (f7:(w.length:Int)<=lim\/w.length=0):
  CF 19 #[sl ap ar ao,I lim] w_ (λv R'=> ∃A c,v= .tuple #[.agg #[sl A w.length c,sl none 0 0], .agg #[I k,I so,I od,I sz],I 0]/\R'=[(ru 5 A w.length c w)]):=by
 obtain rfl:=ac.lenI;refine bLj Tryz.func19 Z Z Z jf Z zG bi Z fD ?_;have li:=ac.max;refine wq<|wa (iC (sz:=2) bKh Z) ?_;rintro _ _⟨am,rfl,rfl⟩;refine wa (iC (sz:=4) bKg Z) ?_;rintro _ _⟨bx,rfl,rfl⟩;refine wn Z<|wq<|wm Z<|wa (aD bQz Z (Ct.fresh (λw hw=>WS ((ac.c _) w hw) hN))) ?_;rintro _ _⟨_,rfl,du,iu,js,rfl,rfl⟩;refine wm Z<|wy (sJ Z Z)<|wy (dW (v:= .agg #[PG du,I 0,I 0,I 0,I 0,I (min lim 100000),I 0,I 0,sl none 0 0,sl none 0 0]) Z (λw=>cA))<|wa (bO (sz:=10) rfl rfl) ?_;rintro _ _⟨ki,rfl,rfl⟩;refine dB (R1:=[(ru 5 none 0 0 ([])),(rc 87 10 ki [PG du,I 0,I 0,I 0,I 0,I (min lim 100000),I 0,I 0,sl none 0 0,sl none 0 0]),(rc 146 1 du [sl iu ((u).length) js]),(ru 5 iu ((u).length) js u),(rc 27 4 bx [I 0,I 0,I 0,I 0]),(rc 25 2 am [sl none 0 0,sl none 0 0])]) (Sub.refl _) (λ_ h=>h.nil 5 1)<|wn Z<|aC<|wq<|wm Z<|wa (aD bQy Z (Ct.pick [1,2,0,3,4,5] 99 cC Z (aTz (X:=[]) (R0:=[(ru 5 iu ((u).length) js u),(rc 27 4 bx [I 0,I 0,I 0,I 0]),(rc 25 2 am [sl none 0 0,sl none 0 0])]) (rdr 0 Z) Z hN an hu d5 hS hk hp G G))) ?_;rintro _ _⟨fc,dv,L_9,br,bw,rfl,rfl⟩;refine wn Z<|wq<|wm Z<|wy (Yl.f (fE Z Z) cC)<|aA<|aJ Z<|aI<|aC<|aIy (Rc:=[(rc 87 10 ki [PG du,I k,I so,I od,I sz,I (min lim 100000),I (w.length:Int),I L_9,sl fc w.length dv,sl none 0 0])]) mixed (λ_ h=>h.sel [0] cC Z) ?_;refine lK 0 Z cA Z (aK Z) ?_;refine lK 1 Z cA Z (aF Z) ?_;refine lK 2 Z cA Z (yF 8 8 ic zG Z) ?_;refine lK 3 Z cA Z (cB (vs:=[sl fc w.length dv,sl none 0 0]) (rdr 0 Z) jf Z zG Z Z (au Z) Z) ?_;refine lK 4 Z cA Z (aK Z) ?_;refine lK 5 Z cA Z (aF Z) ?_;refine lK 6 Z cA Z (yF 1 1 ic fD Z) ?_;refine lK 7 Z cA Z (cB (vs:=[I k,I so,I od,I sz]) (rdr 0 Z) bi Z fD Z Z (au Z) Z) ?_;refine pQ 8 cA ?_;refine bPt 8 Z (fQ (vs:=[sl fc w.length dv,sl none 0 0]) 5 Z zG Z Z Z (by intro v hv;simp at hv;rcases hv with rfl|rfl<;>rfl) Z) ?_;rintro _ _ rfl;refine⟨λ_ h=>h.sel [0] cC Z,?_⟩;refine pQ 9 cA ?_;refine bPt 9 Z (fQ (vs:=[I k,I so,I od,I sz]) 4 Z fD Z Z Z (by intro v hv;simp at hv;rcases hv with rfl|rfl|rfl|rfl<;>rfl) Z) ?_;rintro _ _ rfl;refine⟨λ_ h=>h.sel [0] cC Z,?_⟩;refine lK 10 Z cA Z (bC Z) ?_;refine OT cA ?_;refine bS ?_;refine⟨_,_,_,⟨_,5,_,Z,Z,Z,Z,Z,Z,Z,Z⟩,⟨_,4,_,Z,Z,Z,Z,Z,Z,Z,Z⟩,Z,[(ru 5 fc w.length dv w)],λ_ h=>h.sel [2] cC Z,?_⟩;exact⟨_,_,Z,Z⟩
variable {w w0:World} {f:Value} {B ar ao:Nat} {R:List Row} {ap:AF} {u:AH} {so od sz:Int}
theorem aPh:
  CF 114 #[sl none 0 0,f] w (λv R'=>v=I (-1)):=by
 refine fn1 Tryz.func114 Z Z Z ?_;refine wq<|wn Z<|aC<|wq<|wm Z<|wy (aN dm Z)<|wm Z<|aA<|aH<|mR 1<|dY<|aC ?_;refine aL<|wy (Yl.f (eD Z Z) cC)<|aA<|aC<|aJ Z<|aU<|wq<|wn Z<|bS ?_;refine⟨_,Z,?_⟩;rfl
theorem rD:
  CF 68 #[sl none 0 0,f] w (λv R'=>v=bf):=by
 refine fn1 Tryz.func68 Z Z Z ?_;refine wq<|wn Z<|wq<|wm Z<|wm Z<|wa (aD bPm Z (Ct.quiet (λw hw=>aPh))) ?_;rintro _ _⟨rfl,rfl⟩;refine wy (Yl.f (iA Z Z))<|wn Z<|bS ?_;refine⟨_,Z,?_⟩;rfl
theorem aDk:CT 39 #[sl none 0 0] B w0 R (λv R'=> ∃(A:AF) (c:Nat),v=sl A 0 c/\R'=R):=by
 intro w hw;refine(Ct.fresh (λw hw=>aQt (ws:=[]) (JM 1 w (Hp.refl w)) (jI _ _) ⟨(λ_ h=>by cases h),cC⟩) w hw).mono ?_;rintro e w' ⟨v,R',he,hh,Rn,rfl,A,c,vals,Rs,hv,hs,rfl⟩;have h1:vals.length=(canon []).length:=hs.1;have h0:vals.length=0:=by rw[h1,aQs];rfl
 rw[h0] at hv;exact⟨v,R,he,hh.right,A,c,hv,Z⟩
theorem bDb (ac:RdC B w0 R ap ar ao 1 (ints .u8 u)) (ce:ar=u.length) (an:aP u) (hN:u.length<=100000) (hp:(0<=so/\so<=2)/\(od=0\/od=1)/\(1<=sz/\sz<=16777216)):
  CT 36 #[.agg #[sl ap ar ao,sl none 0 0], .agg #[I 0,I so,I od,I sz]] B w0 (R) (λv R'=>v=I 0/\R'=R):=by
 subst ce;refine fn1 Ha Z Z Z ?_;refine wq<|wa (bO (sz:=2) Z Z) ?_;rintro _ _⟨am,rfl,rfl⟩;refine wa (bO (sz:=4) Z Z) ?_;rintro _ _⟨du,rfl,rfl⟩;refine wn Z<|wq<|wn Z<|wq<|wy (yF 0 0 bi sz3 Z)<|wy (yL 0 ai Z Z Z)<|wQ Z Z<|wn Z<|aC<|aC ?_;refine aL<|wy (cB (vs:=[I 0,I so,I od,I sz]) (rdr 0 Z) bi Z fD Z Z (au Z) Z)<|wa (aD aXp Z (EG G hp)) ?_;rintro _ _⟨rfl,rfl⟩;refine wy (dI Z)<|wm Z<|aB Z Z<|wm Z<|aB Z Z<|wy (dI Z)<|aB Z Z<|wm Z<|aB Z Z<|wy (yF 1 1 jf mM Z)<|aB Z Z<|wy (yL 1 dm Z Z Z)<|aB Z Z<|wy (aN dm Z)<|aB Z Z ?_;refine wy (Yl.f (dE Z Z))<|aB Z Z<|wy (aT Z Z)<|wy (aO Z Z)<|wm Z<|aB Z Z<|wm Z<|aB Z Z<|wm Z<|aM Z Z Z Z<|aM Z Z Z Z<|aM Z Z Z Z<|aM Z Z Z Z<|aB Z Z<|wy (aO Z Z) ?_;refine wy (aO Z Z)<|wm Z<|aB Z Z<|wy (yF 1 1 jf mM Z)<|aB Z Z<|wy (yL 1 dm Z Z Z)<|aB Z Z<|wm Z<|aB Z Z<|wa (aD bJh Z (Ct.quiet (λw hw=>rD))) ?_;rintro _ _⟨rfl,rfl⟩;refine wy (aO Z Z)<|aA<|aJ Z<|aI<|aC<|aC<|bI mixed<|wD 0 Z (yF 0 0 jf dA Z)<|wD 1 Z (yL 1 af Z Z Z)<|wD 2 Z (aN af Z)<|wD 3 Z (yF 1 1 jf mM Z)<|wD 4 Z (yL 1 dm Z Z Z)<|wC 5 Z (aD QG Z (Ct.fresh (λw hw=>kL ((JM _) w hw) (jI _ _) cE))) ?_;rintro _ _⟨_,rfl,ef,kc,rfl,rfl⟩;refine⟨.inr hrZ,?_⟩;refine wD 6 Z (aN af Z)<|wD 7 Z (bX Z Z (by have e:([]:AD).flatten.length=0:=rfl;omega)) ?_;refine wD 8 Z (Yl.f (dE Z Z) (by have e:([]:AD).flatten.length=0:=rfl;omega)) ?_;refine wD 9 Z (aK Z)<|wG 10 Z Z Z (yF 1 1 jf mM Z)<|wG 11 Z Z Z (yL 2 dm Z Z Z)<|wG 12 Z Z Z (aN dm Z)<|wG 13 Z Z Z (Yl.f (dE Z Z))<|wD 14 Z (aO Z Z)<|wN<|aJ Z<|aI<|wq<|wn Z<|aQ [] 3 cC Z ?_;exact⟨_,Z,Z,Z⟩
theorem bDa (ac:RdC B w0 R ap ar ao 1 (ints .u8 u)) (ce:ar=u.length) (an:aP u) (hN:u.length<=100000) (hp:(0<=so/\so<=2)/\(od=0\/od=1)/\(1<=sz/\sz<=16777216)):
  CT 36 #[.agg #[sl ap ar ao,sl none 0 0], .agg #[I 1,I so,I od,I sz]] B w0 (R) (λv R'=>v=I 0/\R'=R):=by
 subst ce;refine fn1 Ha Z Z Z ?_;refine wq<|wa (bO (sz:=2) Z Z) ?_;rintro _ _⟨am,rfl,rfl⟩;refine wa (bO (sz:=4) Z Z) ?_;rintro _ _⟨du,rfl,rfl⟩;refine wn Z<|wq<|wn Z<|wq<|wy (yF 0 0 bi sz3 Z)<|wy (yL 0 ai Z Z Z)<|wQ Z Z<|wn Z<|aC<|aC ?_;refine aL<|wy (cB (vs:=[I 1,I so,I od,I sz]) (rdr 0 Z) bi Z fD Z Z (au Z) Z)<|wa (aD aXp Z (EG G hp)) ?_;rintro _ _⟨rfl,rfl⟩;refine wy (dI Z)<|wm Z<|aB Z Z<|wm Z<|aB Z Z<|wy (dI Z)<|aB Z Z<|wm Z<|aB Z Z<|wy (yF 1 1 jf mM Z)<|aB Z Z<|wy (yL 1 dm Z Z Z)<|aB Z Z<|wy (aN dm Z)<|aB Z Z ?_;refine wy (Yl.f (dE Z Z))<|aB Z Z<|wy (aT Z Z)<|wy (aO Z Z)<|wm Z<|aB Z Z<|wm Z<|aB Z Z<|wm Z<|aM Z Z Z Z<|aM Z Z Z Z<|aM Z Z Z Z<|aM Z Z Z Z<|aB Z Z<|wy (aO Z Z) ?_;refine wy (aO Z Z)<|wm Z<|aB Z Z<|wy (yF 1 1 jf mM Z)<|aB Z Z<|wy (yL 1 dm Z Z Z)<|aB Z Z<|wm Z<|aB Z Z<|wa (aD bJh Z (Ct.quiet (λw hw=>rD))) ?_;rintro _ _⟨rfl,rfl⟩;refine wy (aO Z Z)<|aA<|aJ Z<|aI<|aC<|aC<|bI mixed<|wD 0 Z (yF 0 0 jf dA Z)<|wD 1 Z (yL 1 af Z Z Z)<|wD 2 Z (aN af Z)<|wD 3 Z (yF 1 1 jf mM Z)<|wD 4 Z (yL 1 dm Z Z Z)<|wC 5 Z (aD QG Z (Ct.fresh (λw hw=>kL ((JM _) w hw) (jI _ _) cE))) ?_;rintro _ _⟨_,rfl,ef,kc,rfl,rfl⟩;refine⟨.inr hrZ,?_⟩;refine wD 6 Z (aN af Z)<|wD 7 Z (bX Z Z (by have e:([]:AD).flatten.length=0:=rfl;omega)) ?_;refine wD 8 Z (Yl.f (dE Z Z) (by have e:([]:AD).flatten.length=0:=rfl;omega)) ?_;refine wD 9 Z (aK Z)<|wG 10 Z Z Z (yF 1 1 jf mM Z)<|wG 11 Z Z Z (yL 2 dm Z Z Z)<|wG 12 Z Z Z (aN dm Z)<|wG 13 Z Z Z (Yl.f (dE Z Z))<|wD 14 Z (aO Z Z)<|wN<|aJ Z<|aI<|wq<|wn Z<|aQ [] 3 cC Z ?_;exact⟨_,Z,Z,Z⟩
theorem bCz (ac:RdC B w0 R ap ar ao 1 (ints .u8 u)) (ce:ar=u.length) (an:aP u) (hN:u.length<=100000) (hp:(0<=so/\so<=2)/\(od=0\/od=1)/\(1<=sz/\sz<=16777216)):
  CT 36 #[.agg #[sl ap ar ao,sl none 0 0], .agg #[I 2,I so,I od,I sz]] B w0 (R) (λv R'=>v=I 0/\R'=R):=by
 subst ce;refine fn1 Ha Z Z Z ?_;refine wq<|wa (bO (sz:=2) Z Z) ?_;rintro _ _⟨am,rfl,rfl⟩;refine wa (bO (sz:=4) Z Z) ?_;rintro _ _⟨du,rfl,rfl⟩;refine wn Z<|wq<|wn Z<|wq<|wy (yF 0 0 bi sz3 Z)<|wy (yL 0 ai Z Z Z)<|wQ Z Z<|wn Z<|aC<|aC ?_;refine aL<|wy (cB (vs:=[I 2,I so,I od,I sz]) (rdr 0 Z) bi Z fD Z Z (au Z) Z)<|wa (aD aXp Z (EG G hp)) ?_;rintro _ _⟨rfl,rfl⟩;refine wy (dI Z)<|wm Z<|aB Z Z<|wm Z<|aB Z Z<|wy (dI Z)<|aB Z Z<|wm Z<|aB Z Z<|wy (yF 1 1 jf mM Z)<|aB Z Z<|wy (yL 1 dm Z Z Z)<|aB Z Z<|wy (aN dm Z)<|aB Z Z ?_;refine wy (Yl.f (dE Z Z))<|aB Z Z<|wy (aT Z Z)<|wy (aO Z Z)<|wm Z<|aB Z Z<|wm Z<|aB Z Z<|wm Z<|aM Z Z Z Z<|aM Z Z Z Z<|aM Z Z Z Z<|aM Z Z Z Z<|aB Z Z<|wy (aO Z Z) ?_;refine wy (aO Z Z)<|wm Z<|aB Z Z<|wy (yF 1 1 jf mM Z)<|aB Z Z<|wy (yL 1 dm Z Z Z)<|aB Z Z<|wm Z<|aB Z Z<|wa (aD bJh Z (Ct.quiet (λw hw=>rD))) ?_;rintro _ _⟨rfl,rfl⟩;refine wy (aO Z Z)<|aA<|aJ Z<|aI<|aC<|aC<|bI mixed<|wD 0 Z (yF 0 0 jf dA Z)<|wD 1 Z (yL 1 af Z Z Z)<|wD 2 Z (aN af Z)<|wD 3 Z (yF 1 1 jf mM Z)<|wD 4 Z (yL 1 dm Z Z Z)<|wC 5 Z (aD QG Z (Ct.fresh (λw hw=>kL ((JM _) w hw) (jI _ _) cE))) ?_;rintro _ _⟨_,rfl,ef,kc,rfl,rfl⟩;refine⟨.inr hrZ,?_⟩;refine wD 6 Z (aN af Z)<|wD 7 Z (bX Z Z (by have e:([]:AD).flatten.length=0:=rfl;omega)) ?_;refine wD 8 Z (Yl.f (dE Z Z) (by have e:([]:AD).flatten.length=0:=rfl;omega)) ?_;refine wD 9 Z (aK Z)<|wG 10 Z Z Z (yF 1 1 jf mM Z)<|wG 11 Z Z Z (yL 2 dm Z Z Z)<|wG 12 Z Z Z (aN dm Z)<|wG 13 Z Z Z (Yl.f (dE Z Z))<|wD 14 Z (aO Z Z)<|wN<|aJ Z<|aI<|wq<|wn Z<|aQ [] 3 cC Z ?_;exact⟨_,Z,Z,Z⟩
end Go.Proofs.YtdbebmmhdefgdaaGreat
namespace Go.Proofs.YtdbebmmhdefgdaaGreat
open Go Go.Eng Go.RowKit Go.Shelf Go.Proofs
variable {n c m k g1 g2:Nat} {xs:AG} {A:AF} {zs:AH}
attribute [local go_sem] Oper.semAt_some
theorem lZ {W:World} {a:Addr} (h:Rd W (some a) n c 1 xs) {j:Nat} (hj:j<xs.length):W.cell? (a.add j)=some (xs[j]'hj):=by
 obtain⟨b,h1,h2⟩:=h.at_ j _ (av hj);obtain rfl:=jc h1;exact h2
def chN (m n:Nat):Nat:=(m+n-1)/n
theorem OQ (hn:1<=n):k<chN m n↔k*n<m:=by
 unfold chN;rw[Nat.lt_iff_add_one_le,Nat.le_div_iff_mul_le G,yf];omega
theorem aHo (h:n<=m-k*n):((k:Int)*(n:Int)+(n:Int)).toNat-k*n=min n (m-k*n):=by
 have ya:(k:Int)*(n:Int)=((k*n:Nat):Int):=cD
 omega
theorem aHm:((k:Int)*(n:Int)+min (n:Int) ((m-k*n:Nat):Int)).toNat-k*n=min n (m-k*n):=by
 have ya:(k:Int)*(n:Int)=((k*n:Nat):Int):=cD
 omega
theorem aHn (h:m-k*n<=n):((k:Int)*(n:Int)+((m-k*n:Nat):Int)).toNat-k*n=min n (m-k*n):=by
 have ya:(k:Int)*(n:Int)=((k*n:Nat):Int):=cD
 omega
theorem aHp {N:Nat} (hn:1<=n) (h:k<N):N-(intOf (.int .i64 ((k:Int)*n+n))).toNat/n<N-(intOf (.int .i64 ((k:Int)*n))).toNat/n:=by
 have e0:(intOf (.int .i64 ((k:Int)*n))).toNat=k*n:=by
  have ya:(k:Int)*(n:Int)=((k*n:Nat):Int):=cD
  simp only[intOf,ya];omega
 have e1:(intOf (.int .i64 ((k:Int)*n+n))).toNat=(k+1)*n:=by
  have ya:(k:Int)*(n:Int)=((k*n:Nat):Int):=cD
  simp only[intOf,ya,yf];omega
 rw[e0,e1,Cu _ G,Cu _ G];omega
theorem aHr {P:Program} {t e:TypeId} {p:Nat} {tm:Array Value} {s:Nat} {w:World} {o:Oper} (ht:P.underlying t=some (.slice e)) (hi:(P.info? e).map (·.size)=some 1)
  (ho:o.op= .slice t (.tmp 14) (some (.tmp 15)) none none) (hs:tm.size=s) (h14:tm[14]? =some (.slice A m c)) (h15:tm[15]? =some (.int .i64 (p:Int))) (hp:p<=m):
  (execOp ({tmps:=tm,defers:=[]}:Act).eval o).run P w= .ok (.value (.slice (jE A p c 1) (m-p) (c-p))) w:=by
 have h:=dK (P:=P) (n:=⟨s,[],none⟩) (B:=w.heap.size) (w0:=w) (L:=[(14, .slice A m c),(15, .int .i64 (p:Int))]) (R:=[]) (ty:=o.type) (x:= .tmp 14) (y:= .tmp 15) ht hi rfl rfl (l:=(p:Int)) G G
 have h2:=h {tmps:=tm,defers:=[]} w o ho rfl ⟨hs,rfl,λt v hv=>by
  rcases yB hv with⟨rfl,rfl⟩|⟨_,hv⟩
  ·exact h14
  ·rcases yB hv with⟨rfl,rfl⟩|⟨_,hv⟩
   ·exact h15
   ·simp[lk] at hv⟩ (Hp.refl w)
 rw[cz] at h2;exact h2
set_option maxRecDepth 100000 in
theorem aZe (hn:1<=n) (tg:n<=16777216) (vb:xs.length<=1000000):Iter Tryz.prog 73 #[.pointer (some ⟨g1,0,none⟩), .pointer (some ⟨g2,0,none⟩)] (λw=>Rd w (some ⟨g1,0,none⟩) 1 1 1 [.slice A xs.length c]/\Rd w (some ⟨g2,0,none⟩) 1 1 1 [.int .i64 (n:Int)]/\Rd w A xs.length c 1 xs) (chN xs.length n)
  (λk=>[.slice (jE A (k*n) c 1) (min n (xs.length-k*n)) (min n (xs.length-k*n))]):=by
 intro l J W hR hD hY h0;have hc:W.cell? ⟨g1,0,none⟩=some (.slice A xs.length c):=lZ (hR _ _ h0).1 (j:=0) cD;have hd:W.cell? ⟨g2,0,none⟩=some (.int .i64 (n:Int)):=lZ (hR _ _ h0).2.1 (j:=0) cD;have pv:=(hR _ _ h0).2.2.le;refine Bc Tryz.func73 rfl trivial ?_ rfl;simp only[Tryz.ntmps73,ql,dh,jl,Nat.reduceAdd,Nat.reduceSub,wz,xc,yw,uk,je,jh]
 gi_wp2
 gi_loopw [4] (λi wr=> ∃k:Nat,k<=chN xs.length n/\i= .int .i64 ((k*n:Nat):Int)/\J k wr) (λi _=>chN xs.length n-(intOf i).toNat/n)
 case atStart=>exact⟨0,qp _,cD,h0⟩
 case round=>
  obtain⟨k,hk,rfl,ti⟩:=hrel;have aq:wr.cell? ⟨g1,0,none⟩=some (.slice A xs.length c):=lZ (hR _ _ ti).1 (j:=0) cD;have Fd:wr.cell? ⟨g2,0,none⟩=some (.int .i64 (n:Int)):=lZ (hR _ _ ti).2.1 (j:=0) cD;by_cases bc:k<chN xs.length n
  ·have Qi:k*n<xs.length:=(OQ hn).1 bc
   have Yg:jE A (k*n) c 1=Option.map (λx=>x.add (k*n)) A:=by
    unfold jE;rw[bz G,qy]
   gi_wp2
   refine wpIn_region_quiet_lit rfl cA cA ?_
   iterate 3 quiet_step_in (skip)
   refine wpQuietIn_step (by quiet_asked_in) (λK hK=> ?_);rw[df (by simp[Region.wanted])];refine⟨.slice (jE A (k*n) c 1) (xs.length-k*n) (c-k*n),λw' Nu=> ?_,hK _ ?_⟩
   ·unfold Oper.quietAtIn;rw[aHr (p:=k*n) (A:=A) (m:=xs.length) (c:=c) Tryz.underlying22 sz5 rfl rfl rfl cD G];exact⟨rfl,rfl⟩
   clear hK K
   iterate 3 quiet_step_in (skip)
   refine wpQuietIn_nil ?_;intro _ Nu;obtain⟨nq,hw''⟩:=Nu;subst hw'';have Xh:J k (wr.drewN nq):=hD k wr (wr.drawn+nq) ti G;have bp:(wr.drewN nq).cell? ⟨g1,0,none⟩=some (.slice A xs.length c):=lZ (hR _ _ Xh).1 (j:=0) cD;have Ow:(wr.drewN nq).cell? ⟨g2,0,none⟩=some (.int .i64 (n:Int)):=lZ (hR _ _ Xh).2.1 (j:=0) cD;obtain⟨fn,tmps,assign,body,hy,Oi⟩:=hY k _ bc Xh;have px:(k*n)/n=k:=Cu _ G;have oc:(k*n+n)/n=k+1:=by rw[<-Fv];exact Cu _ G
   gi_wp2
   all_goals
    rw[Yg] at hy
    first
     |rw[aHo (k:=k) (n:=n) (m:=xs.length) G,hy]
     |rw[aHn (k:=k) (n:=n) (m:=xs.length) G,hy]
     |rw[aHm (k:=k) (n:=n) (m:=xs.length),hy]
    gi_wp2
    refine⟨rfl,Oi.mono ?_⟩;rintro e W3 ⟨rfl,Kl⟩;have hd3:W3.cell? ⟨g2,0,none⟩=some (.int .i64 (n:Int)):=lZ (hR _ _ Kl).2.1 (j:=0) cD
    gi_wp2
    go_roundw
    case rel=>exact⟨k+1,G,by simp[yf],Kl⟩
    case measure=>
     exact aHp hn bc
  ·obtain rfl:k=chN xs.length n:=G
   have Qi: ¬chN xs.length n*n<xs.length:=λh=>bc ((OQ hn).2 h)
   gi_wp2
   go_end0
   exact⟨⟨_,rfl⟩,ti⟩
theorem aHq (hn:1<=n) (tg:n<=16777216) (vb:zs.length<=1000000):Iter Tryz.prog 73 #[.pointer (some ⟨g1,0,none⟩), .pointer (some ⟨g2,0,none⟩)] (λw=>Rd w (some ⟨g1,0,none⟩) 1 1 1 [.slice A zs.length c]/\Rd w (some ⟨g2,0,none⟩) 1 1 1 [.int .i64 (n:Int)]/\Rd w A zs.length c 1 (ints .u8 zs)) (chN zs.length n)
  (λk=>[.slice (jE A (k*n) c 1) (min n (zs.length-k*n)) (min n (zs.length-k*n))]):=by
 have h:=aZe (g1:=g1) (g2:=g2) (A:=A) (c:=c) (xs:=ints .u8 zs) hn tg (by rw[cZ];exact vb);rw[cZ] at h;exact h
theorem aDj {sz:Int} (hn:1<=sz) (tg:sz<=16777216) (vb:zs.length<=1000000):Iter Tryz.prog 73 #[.pointer (some ⟨g1,0,none⟩), .pointer (some ⟨g2,0,none⟩)] (λw=>Rd w (some ⟨g1,0,none⟩) 1 1 1 [.slice A zs.length c]/\Rd w (some ⟨g2,0,none⟩) 1 1 1 [.int .i64 sz]/\Rd w A zs.length c 1 (ints .u8 zs)) (chN zs.length sz.toNat)
  (λk=>[.slice (jE A (k*sz.toNat) c 1) (min sz.toNat (zs.length-k*sz.toNat)) (min sz.toNat (zs.length-k*sz.toNat))]):=by
 have h:=aHq (g1:=g1) (g2:=g2) (A:=A) (c:=c) (n:=sz.toNat) (zs:=zs) G G vb;rw[qf G] at h;exact h
theorem aNx {B:Nat} {w0:World} {R:List Row} {l:Nat} {k:IntKind} {xs:AH} (hr:RdC B w0 R A m c 1 (ints k xs)) (h1:l<=m):RdC B w0 R (jE A l c 1) (min n (m-l)) (min n (m-l)) 1 (ints k ((xs.drop l).take n)):=by
 intro w hw;have hl:=(hr w hw).lenI;have h:=hr.cutI (l:=l) (h:=l+min n (m-l)) G G w hw;rw[show l+min n (m-l)-l=min n (m-l) by omega] at h
 have e:(xs.drop l).take (min n (m-l))=(xs.drop l).take n:=by
  rcases Nat.le_total n (m-l) with a|a
  ·rw[za a]
  ·rw[Nat.min_eq_right a,bg (by rw[az];omega),bg (by rw[az];omega)]
 rw[e] at h;exact⟨h.len,h.max,di _,h.at_⟩
end Go.Proofs.YtdbebmmhdefgdaaGreat
namespace Go.Proofs.YtdbebmmhdefgdaaGreat
open Go Go.Eng Go.Pure
open Tryz
set_option maxRecDepth 100000
variable {w w0:World} {ap:AF} {ar ao B:Nat} {u acc:AH} {R:List Row} {k so od sz:Int}
theorem aHs {n:Int} (ac:Rd w ap ar ao 1 (ints .u8 u)) (hn:1<=n):
  CF 40 #[sl ap ar ao,I n] w (λv R'=> ∃g1 g2,v= .func (.func 73) #[] #[PG g1,PG g2]/\R'=[(rc 22 1 g1 [sl ap u.length ao]),(rc 3 1 g2 [I n])]):=by
 obtain rfl:=ac.lenI;refine fn1 Tryz.func40 Z Z Z ?_;have li:=ac.max;refine wq<|wa (bO (sz:=1) Z Z) ?_;rintro _ _⟨am,rfl,rfl⟩;refine wa (bO (sz:=1) Z Z) ?_;rintro _ _⟨bx,rfl,rfl⟩;refine wn Z<|aC<|wq<|wy (yL 0 ai Z Z Z)<|wy (Yl.f (eD Z Z))<|aA<|aJ Z<|aI<|wq<|wy (lU Z Z)<|wn Z ?_;refine aQ [1,0] 99 cC Z ?_;exact⟨_,Z,_,_,Z,Z⟩
theorem zW {gg:AF} {mm gi:Nat} {dt:AG} {ws:AD} (go:Rd w gg mm gi 1 dt) (mz:SlW .u8 w dt ws) (hN:ws.flatten.length<=1000000/\ws.length<=1000000) (e:ws.flatten=u):
  CF 38 #[sl gg mm gi] w (λv R'=> ∃A c,v=sl A u.length c/\R'=[(ru 5 A u.length c u)]):=by
 subst e;exact kL go mz hN
theorem bBw {A:AF} {c:Nat}:RdC B w0 R A 0 c 1 []:=λ_ _=>⟨rfl,G,G,λj v hv=>by simp at hv⟩
theorem aXf (h:acc=(([87,72,82,76]++[1,k%256,so%256,od%256])++bL sz)++kS k od sz.toNat u (chN u.length sz.toNat)) (hs:0<=so/\so<=2) (ho:od=0\/od=1) (hk:0<=k/\k<256):
  ([]++[acc]++[bL 0]++[bL (u.length:Int)]:AD).flatten=jZ k so od sz u:=by
 rw[h,pz hk.1 hk.2,pz (a:=so) G G,pz (a:=od) G G];unfold jZ;simp[chN,chK]
theorem aPv (h:acc=(([87,72,82,76]++[1,k%256,so%256,od%256])++bL sz)++kS k od sz.toNat u (chN u.length sz.toNat)) (hs:0<=so/\so<=2) (ho:od=0\/od=1) (hk:0<=k/\k<256) (hu:aP u) (hN:u.length<=100000) (hz:0<=sz):aP acc:=by
 rw[h];intro x hx;rcases gp.1 hx with hx|hx
 ·rcases gp.1 hx with hx|hx
  ·simp only[jh,je,jm,zi,or_false] at hx;omega
  ·exact fU hz x hx
 ·exact(kM hu hN _).2 x hx
theorem aKz (h:acc=(([87,72,82,76]++[1,k%256,so%256,od%256])++bL sz)++kS k od sz.toNat u (chN u.length sz.toNat)) (hu:aP u) (hS:u.length<=400) (h1:1<=sz) (h2:sz<=16777216):acc.length<=400000:=by
 have e1:=(kM (t:=k) (o:=od) (n:=sz.toNat) hu G (chN u.length sz.toNat)).1;have e2:chN u.length sz.toNat<=u.length:=WW G;have e3:(2*u.length+22)*chN u.length sz.toNat<=822*400:=Dq G G;have e4:=dV 4 sz G;have e5:=bq List.length h;rw[ah,ah] at e5;have e6:([87,72,82,76]++[1,k%256,so%256,od%256]:AH).length=8:=rfl;omega
theorem aQz (ac:RdC B w0 R ap ar ao 1 (ints .u8 u)) (ce:ar=u.length) (an:aP u) (hN:u.length<=100000) (hp:(0<=so/\so<=2)/\(od=0\/od=1)/\(1<=sz/\sz<=16777216)) (hk:k=0\/k=1\/k=2):
  CT 41 #[sl ap ar ao,sl none 0 0, .agg #[I k,I so,I od,I sz]] B w0 R (λv R'=> ∃(A1:AF) (c1:Nat),v=sl A1 (bZ k od u).length c1/\R'=(ru 5 A1 ((bZ k od u).length) c1 (bZ k od u))::R):=by
 rcases hk with rfl|rfl|rfl
 ·exact aRc ac ce an hN hp
 ·exact aRb ac ce an hN hp
 ·exact aRa ac ce an hN hp
theorem bCy (ac:RdC B w0 R ap ar ao 1 (ints .u8 u)) (ce:ar=u.length) (an:aP u) (hN:u.length<=100000) (hp:(0<=so/\so<=2)/\(od=0\/od=1)/\(1<=sz/\sz<=16777216)) (hk:k=0\/k=1\/k=2):
  CT 36 #[.agg #[sl ap ar ao,sl none 0 0], .agg #[I k,I so,I od,I sz]] B w0 R (λv R'=>v=I 0/\R'=R):=by
 subst ce;rcases hk with rfl|rfl|rfl
 ·exact bDb ac rfl an hN hp
 ·exact bDa ac rfl an hN hp
 ·exact bCz ac rfl an hN hp
theorem bDz (ac:Rd w ap ar ao 1 (ints .u8 u)) (an:aP u) (hS:u.length<=400) (hp:(0<=so/\so<=2)/\(od=0\/od=1)/\(1<=sz/\sz<=16777216)) (hk:k=0\/k=1\/k=2):
  CF 16 #[.agg #[sl ap u.length ao,sl none 0 0], .agg #[I k,I so,I od,I sz]] w (λv R'=> ∃A c,v= .tuple #[sl A (jZ k so od sz u).length c,I 0]/\R'=[(ru 5 A ((jZ k so od sz u).length) c (jZ k so od sz u))]):=by
 obtain rfl:=ac.lenI;refine fnV Tryz.func16 Z Z ?_;have li:=ac.max;have hN:u.length<=100000:=G
 have hpz:=dV 4 sz G;have hpu:=dV 2 (u.length:Int) G;refine gW ?_;refine aL<|wa (bO (sz:=2) Z Z) ?_;rintro _ _⟨am,rfl,rfl⟩;refine jG (R1:=[(rc 25 2 am [sl ap u.length ao,sl none 0 0])]) Z<|wa (bO (sz:=4) Z Z) ?_;rintro _ _⟨bx,rfl,rfl⟩;refine jG (R1:=[(rc 27 4 bx [I k,I so,I od,I sz]),(rc 25 2 am [sl ap u.length ao,sl none 0 0])]) Z<|wg Z<|wn Z ?_;refine gW ?_;refine wq<|wy (cB (vs:=[sl ap u.length ao,sl none 0 0]) (rdr 1 Z) jf Z zG Z Z (au Z) Z)<|wy (cB (vs:=[I k,I so,I od,I sz]) (rdr 0 Z) bi Z fD Z Z (au Z) Z)<|wa (aD bLu Z (bCy (ac.c _) (by first|rfl|(simp;done)|omega) an hN hp hk)) ?_;rintro _ _⟨rfl,rfl⟩;refine wn Z<|wq<|wm Z<|wy (Yl.f (fE Z Z) cC)<|aA<|aJ Z<|aI ?_;refine gW ?_;refine aL<|wa (bH .u8 [87,72,82,76] af zs5 Z Z Z) ?_;rintro _ _⟨fb,rfl,rfl⟩;refine wa (aIo 0 Z Z af ay Z Z) ?_;rintro _ _⟨rfl,rfl⟩;refine jG (R1:=[⟨5,1,(GG fb),4,4,ints .u8 ([87,72,82,76]),true⟩,(rc 27 4 bx [I k,I so,I od,I sz]),(rc 25 2 am [sl ap u.length ao,sl none 0 0])]) Z<|wy (yF 0 0 bi sz3 Z)<|wy (yL 1 ai Z Z Z)<|wy (eQ ai ay Z)<|wy (yF 1 1 bi sz3 Z)<|wy (yL 1 ai Z Z Z)<|wy (eQ ai ay Z)<|wy (yF 2 2 bi sz3 Z)<|wy (yL 1 ai Z Z Z)<|wy (eQ ai ay Z)<|wa (bH .u8 [1,k%256,so%256,od%256] af zs5 Z Z Z) ?_;rintro _ _⟨ki,rfl,rfl⟩;refine wa (IM af zb5 Z (rdr 1 Z) Z (rdr 0 Z) (by first|decide|(dsimp only;decide)) (by first|decide|(dsimp only;decide)) (by first|decide|(dsimp only;decide)) (by first|decide|(dsimp only;decide)) (by first|decide|(dsimp only;decide)) Z) ?_;rintro _ _⟨kp,dv,rfl,rfl⟩;refine jG (R1:=[(ru 5 (GG kp) 8 dv (([87,72,82,76])++([1,k%256,so%256,od%256]))),(ru 5 (GG ki) 4 4 ([1,k%256,so%256,od%256])),⟨5,1,(GG fb),4,4,ints .u8 ([87,72,82,76]),true⟩,(rc 27 4 bx [I k,I so,I od,I sz]),(rc 25 2 am [sl ap u.length ao,sl none 0 0])]) Z<|bF (v:=sl (GG kp) 8 dv) Z<|wa (iC (sz:=1) bKi Z) ?_;rintro _ _⟨pi,rfl,rfl⟩;refine jG (R1:=[(rc 22 1 pi [sl none 0 0]),(ru 5 (GG kp) 8 dv (([87,72,82,76])++([1,k%256,so%256,od%256]))),(ru 5 (GG ki) 4 4 ([1,k%256,so%256,od%256])),⟨5,1,(GG fb),4,4,ints .u8 ([87,72,82,76]),true⟩,(rc 27 4 bx [I k,I so,I od,I sz]),(rc 25 2 am [sl ap u.length ao,sl none 0 0])]) Z<|bV (aX 0 Z Z Z dA Z Z Z Z (au Z)) ?_;rintro _ _ rfl;refine jG (R1:=[(rc 22 1 pi [sl (GG kp) 8 dv]),(ru 5 (GG kp) 8 dv (([87,72,82,76])++([1,k%256,so%256,od%256]))),(ru 5 (GG ki) 4 4 ([1,k%256,so%256,od%256])),⟨5,1,(GG fb),4,4,ints .u8 ([87,72,82,76]),true⟩,(rc 27 4 bx [I k,I so,I od,I sz]),(rc 25 2 am [sl ap u.length ao,sl none 0 0])]) Z<|aA ?_;refine gW ?_;refine bI mixed<|wD 0 Z (yL 0 af Z Z Z)<|wD 1 Z (yF 3 3 bi sz3 Z)<|wD 2 Z (yL 4 ai Z Z Z)<|wC 3 Z (aD QH Z (Ct.fresh (λw hw=>lJ G))) ?_;rintro _ _⟨_,rfl,br,bw,rfl,rfl⟩;refine⟨.inr hrZ,?_⟩;refine wC 4 Z (aS 2 Z af zb5 Z Z Z (rdr 0 Z)) ?_;rintro _ _⟨im,ir,rfl,rfl⟩;refine⟨.inl cA,?_⟩;refine BA (R1:=[(ru 5 br ((bL sz).length) bw (bL sz)),(rc 22 1 pi [sl (GG kp) 8 dv]),(ru 5 im (8+((bL sz).length)) ir ((([87,72,82,76])++([1,k%256,so%256,od%256]))++(bL sz))),(ru 5 (GG ki) 4 4 ([1,k%256,so%256,od%256])),⟨5,1,(GG fb),4,4,ints .u8 ([87,72,82,76]),true⟩,(rc 27 4 bx [I k,I so,I od,I sz]),(rc 25 2 am [sl ap u.length ao,sl none 0 0])]) Z<|iF (v:=sl im (8+((bL sz).length)) ir) Z<|oU 5 Z cA (aX 1 Z Z Z dA Z Z Z Z (au Z)) ?_;rintro _ _ rfl;refine⟨.inl cA,?_⟩;refine BA (R1:=[(ru 5 br ((bL sz).length) bw (bL sz)),(rc 22 1 pi [sl im (8+((bL sz).length)) ir]),(ru 5 im (8+((bL sz).length)) ir ((([87,72,82,76])++([1,k%256,so%256,od%256]))++(bL sz))),(ru 5 (GG ki) 4 4 ([1,k%256,so%256,od%256])),⟨5,1,(GG fb),4,4,ints .u8 ([87,72,82,76]),true⟩,(rc 27 4 bx [I k,I so,I od,I sz]),(rc 25 2 am [sl ap u.length ao,sl none 0 0])]) Z<|wN ?_;refine gW ?_;refine bI mixed<|wD 0 Z (yF 0 0 jf dA Z)<|wD 1 Z (yL 6 af Z Z Z)<|wD 2 Z (yF 1 1 jf mM Z)<|wD 3 Z (yL 6 dm Z Z Z)<|wC 4 Z (aD bRf Z (aDk)) ?_;rintro _ _⟨fh,rx,rfl,rfl⟩;refine⟨.inr hiZ,?_⟩;refine wC 5 Z (aD QG Z (Ct.fresh (λw hw=>zW (u:=([]:AH)) (bBw w hw) (jI _ _) ⟨cC,cC⟩ rfl))) ?_;rintro _ _⟨_,rfl,db,de,rfl,rfl⟩;refine⟨.inr hrZ,?_⟩;refine wC 6 Z (mK [Value.slice ap u.length ao,Value.slice db ((([]:AH)).length) de] dm yK Z Z Z Z) ?_;rintro _ _⟨gn,rfl,rfl⟩;refine⟨.inr hrZ,?_⟩;refine wC 7 Z (aD QG Z (Ct.fresh (λw hw=>zW (u:=u) ((rdr 0 Z) w hw) (((jI _ _).snoc ((ac.c _) w hw) (λx hx=>fZ (an x hx)) G).snoc ((rdr 1 Z) w hw) (λx hx=>fZ ((show aP [] from λ_ h=>nomatch h) x hx)) cC) ⟨cH,cD⟩ cD))) ?_;rintro _ _⟨_,rfl,gv,gw,rfl,rfl⟩;refine⟨.inr hrZ,?_⟩;refine wD 8 Z (bC Z)<|wN ?_;refine gW ?_;refine aL<|wy (yF 3 3 bi sz3 Z)<|wy (yL 8 ai Z Z Z)<|wn Z ?_;refine gW ?_;refine wq<|wy (yF 0 0 bi sz3 Z)<|wy (yL 8 ai Z Z Z)<|wy (Yl.f (dR Z Z))<|aA<|aJ Z<|aI ?_;refine aIz ?_;refine gW ?_;refine aL<|wm Z<|wm Z<|wa (aD bRe Z (Ct.fresh (λw hw=>aHs ((rdr 0 Z) w hw) G))) ?_;rintro _ _⟨_,rfl,Lk,yv,rfl,rfl⟩;refine aA ?_;refine JE ?_;refine XY Z bQs (aDj (A:=gv) (c:=gw) (zs:=u) (sz:=sz) G G G) Z (λ_=>Z) Gd.refl (λ(kr:Nat) (A1:AF) (n1:Nat) (c1:Nat) (acc:AH)=>[(rc 22 1 Lk [sl gv ((u).length) gw]),(rc 3 1 yv [I sz]),(ru 5 gv ((u).length) gw u),⟨22,1,(GG gn),2,2,[Value.slice ap u.length ao,Value.slice db ((([]:AH)).length) de],false⟩,(ru 5 db ((([]:AH)).length) de ([]:AH)),(ru 5 br ((bL sz).length) bw (bL sz)),(rc 22 1 pi [sl A1 n1 c1]),(ru 5 A1 n1 c1 acc),(ru 5 (GG ki) 4 4 ([1,k%256,so%256,od%256])),⟨5,1,(GG fb),4,4,ints .u8 ([87,72,82,76]),true⟩,(rc 27 4 bx [I k,I so,I od,I sz]),(rc 25 2 am [sl ap u.length ao,sl none 0 0])]) (λkr A1 n1 c1 acc=>(n1=acc.length)/\(acc=(([87,72,82,76]++[1,k%256,so%256,od%256])++bL sz)++kS k od sz.toNat u kr)) ?_ ?_ ?_ ?_
 ·exact⟨im,8+((bL sz).length),ir,(([87,72,82,76])++([1,k%256,so%256,od%256]))++(bL sz),⟨(by rw[ah];rfl),(by rw[uT,jk])⟩,λ_ h=>h⟩
 ·intro kr A1 n1 c1 acc w ⟨cv,ba⟩ hw;exact⟨(rdr 0 Z) w hw,(rdr 1 Z) w hw,(rdr 2 Z) w hw⟩
 ·intro lr kr A1 n1 c1 acc WW1 Ni ⟨cv,ba⟩ Sl;have Tc:kr*sz.toNat<u.length:=(OQ G).1 cF;have Qf:kr<=400:=qx (Nat.le_mul_of_pos_right kr (show 0<sz.toNat by omega)) G;have qk:=bq List.length ba;rw[ah,ah,ah] at qk;have j6:=kM (t:=k) (o:=od) (n:=sz.toNat) an hN kr;have Vk:(2*u.length+22)*kr<=822*400:=Dq G Qf;have Eq:=zY (t:=k) (o:=od) (b:=(u.drop (kr*sz.toNat)).take sz.toNat) ((an.drop _).take _) (by rw[ax,az];omega);have Xz:((u.drop (kr*sz.toNat)).take sz.toNat).length<=u.length:=by rw[ax,az];omega
  have h8:([87,72,82,76]:AH).length=4:=rfl;have h9:([1,k%256,so%256,od%256]:AH).length=4:=rfl;refine aL<|wn Z ?_;intro Rh l3;refine aH<|bI mixed<|wD 0 Z (yL 6 af Z Z Z)<|wD 1 Z (aK Z)<|wD 2 Z (yF 1 1 jf mM Z)<|wD 3 Z (yL 11 dm Z Z Z)<|wD 4 Z (cB (vs:=[I k,I so,I od,I sz]) (rdr 10 Z) bi Z fD Z Z (au Z) Z)<|wC 5 Z (aD bRd Z (aQz (aNx (l:=kr*sz.toNat) (n:=sz.toNat) (rdr 2 Z) cG) (by rw[ax,az]) ((an.drop _).take _) (by rw[ax,az];omega) hp hk)) ?_;rintro _ _⟨pm,pn,rfl,rfl⟩;refine⟨.inr hrZ,?_⟩;refine wC 6 Z (aS 8 Z af zb5 Z Z Z (rdr 0 Z)) ?_;rintro _ _⟨py,qe,rfl,rfl⟩;refine⟨.inl cA,?_⟩;refine BA (R1:=[(ru 5 pm ((bZ k od ((u.drop (kr*sz.toNat)).take sz.toNat)).length) pn (bZ k od ((u.drop (kr*sz.toNat)).take sz.toNat))),(rc 22 1 Lk [sl gv ((u).length) gw]),(rc 3 1 yv [I sz]),(ru 5 gv ((u).length) gw u),⟨22,1,(GG gn),2,2,[Value.slice ap u.length ao,Value.slice db ((([]:AH)).length) de],false⟩,(ru 5 db ((([]:AH)).length) de ([]:AH)),(ru 5 br ((bL sz).length) bw (bL sz)),(rc 22 1 pi [sl A1 n1 c1]),(ru 5 py (n1+((bZ k od ((u.drop (kr*sz.toNat)).take sz.toNat)).length)) qe (acc++(bZ k od ((u.drop (kr*sz.toNat)).take sz.toNat)))),(ru 5 (GG ki) 4 4 ([1,k%256,so%256,od%256])),⟨5,1,(GG fb),4,4,ints .u8 ([87,72,82,76]),true⟩,(rc 27 4 bx [I k,I so,I od,I sz]),(rc 25 2 am [sl ap u.length ao,sl none 0 0])]) Z<|iF (v:=sl py (n1+((bZ k od ((u.drop (kr*sz.toNat)).take sz.toNat)).length)) qe) Z<|oU 7 Z cA (aX 7 Z Z Z dA Z Z Z Z (au Z)) ?_;rintro _ _ rfl;refine⟨.inl cA,?_⟩;refine BA (R1:=[(ru 5 pm ((bZ k od ((u.drop (kr*sz.toNat)).take sz.toNat)).length) pn (bZ k od ((u.drop (kr*sz.toNat)).take sz.toNat))),(rc 22 1 Lk [sl gv ((u).length) gw]),(rc 3 1 yv [I sz]),(ru 5 gv ((u).length) gw u),⟨22,1,(GG gn),2,2,[Value.slice ap u.length ao,Value.slice db ((([]:AH)).length) de],false⟩,(ru 5 db ((([]:AH)).length) de ([]:AH)),(ru 5 br ((bL sz).length) bw (bL sz)),(rc 22 1 pi [sl py (n1+((bZ k od ((u.drop (kr*sz.toNat)).take sz.toNat)).length)) qe]),(ru 5 py (n1+((bZ k od ((u.drop (kr*sz.toNat)).take sz.toNat)).length)) qe (acc++(bZ k od ((u.drop (kr*sz.toNat)).take sz.toNat)))),(ru 5 (GG ki) 4 4 ([1,k%256,so%256,od%256])),⟨5,1,(GG fb),4,4,ints .u8 ([87,72,82,76]),true⟩,(rc 27 4 bx [I k,I so,I od,I sz]),(rc 25 2 am [sl ap u.length ao,sl none 0 0])]) Z<|wN ?_;exact⟨py,n1+((bZ k od ((u.drop (kr*sz.toNat)).take sz.toNat)).length),qe,acc++(bZ k od ((u.drop (kr*sz.toNat)).take sz.toNat)),⟨(by rw[ah,cv]),(by rw[uU,<-gy,<-ba])⟩,λ_=>λ_ h=>h.sel [1,2,3,4,5,6,7,8,9,10,11,12] cC Z⟩
 intro Ri DW1 A1 n1 c1 acc ⟨cv,ba⟩ Mz d7;refine aJb ?_;refine bAp ?_;refine v_w ?_;refine aC<|bI mixed<|wD 0 Z (yL 6 af Z Z Z)<|wD 2 Z (aK Z)<|wD 3 Z (aN af Z)<|wC 1 Z (aD QH Z (Ct.fresh (λw hw=>lJ cC))) ?_;rintro _ _⟨_,rfl,n5,o3,rfl,rfl⟩;refine⟨.inr hrZ,?_⟩;refine wC 4 Z (aD QH Z (Ct.fresh (λw hw=>lJ G))) ?_;rintro _ _⟨_,rfl,Wl,Ws,rfl,rfl⟩;refine⟨.inr hrZ,?_⟩;refine wC 5 Z (mK [Value.slice A1 n1 c1,Value.slice n5 ((bL 0).length) o3,Value.slice Wl ((bL (((u).length:Nat):Int)).length) Ws] dm yK Z Z Z Z) ?_;rintro _ _⟨g_37,rfl,rfl⟩;refine⟨.inr hrZ,?_⟩;refine wC 6 Z (aD QG Z (Ct.fresh (λw hw=>zW (u:=(jZ k so od sz u)) ((rdr 0 Z) w hw) ((((jI _ _).snoc ((rdr 10 Z) w hw) (λx hx=>fZ ((aPv ba hp.1 hp.2.1 G an hN G) x hx)) (by have:=aKz ba an hS G G;omega)).snoc ((rdr 2 Z) w hw) (λx hx=>fZ ((fU G) x hx)) cC).snoc ((rdr 1 Z) w hw) (λx hx=>fZ ((fU G) x hx)) G) ⟨by have:=aKz ba an hS G G;simp only[um,je,jh,lm,si,ym,Iq];have h0:(bL 0).length=1:=rfl;omega,cD⟩ (aXf ba hp.1 hp.2.1 G)))) ?_;rintro _ _⟨_,rfl,A_38,c_39,rfl,rfl⟩;refine⟨.inr hrZ,?_⟩;refine wD 7 Z (bC Z)<|wD 8 Z (bC Z)<|wN<|aQ [0] 99 cC Z ?_;refine aWz Z d7 ⟨_,_,Z,Z,?_⟩;exact⟨_,_,Z,Z⟩
variable {w:World} {k so od sz:Int} {ap:AF} {ar ao:Nat} {u:AH}
theorem aQv (mn: ¬((0<=k/\k<=3)/\(0<=so/\so<=2)/\(od=0\/od=1)/\(1<=sz/\sz<=16777216))):
  CF 23 #[.agg #[I k,I so,I od,I sz]] w (λv R'=>v=bf):=by
 refine fn1 Tryz.func23 Z Z Z ?_;refine wq<|wa (bO (sz:=4) Z Z) ?_;rintro _ _⟨am,rfl,rfl⟩;refine wn Z<|wq<|wy (yF 0 0 bi sz3 Z)<|wy (yL 0 ai Z Z Z)<|wy (iA Z Z)<|wm Z<|cK 4 [(1,PG am),(10, .bool (decide ((0<=k)/\(k<=3))))] [(rc 27 4 am [I k,I so,I od,I sz])] ?_ ?_
 ·refine bR 6 Z (λaq=> ?_) (λaq=> ?_)
  ·refine aB Z Z<|wy (yF 0 0 bi sz3 Z)<|aB Z Z<|wy (yL 0 ai Z Z Z)<|aB Z Z<|wy (qK Z Z)<|wy (aT Z Z)<|aA ?_;exact KP
  ·refine aM Z Z Z Z<|aM Z Z Z Z<|aM Z Z Z Z<|wy (aO Z Z)<|aA ?_;exact KP
 refine wm Z<|cK 4 [(1,PG am),(15, .bool (decide (((0<=k)/\(k<=3))/\(0<=so))))] [(rc 27 4 am [I k,I so,I od,I sz])] ?_ ?_
 ·refine bR 11 Z (λbp=> ?_) (λbp=> ?_)
  ·refine aB Z Z<|wy (yF 1 1 bi sz3 Z)<|aB Z Z<|wy (yL 0 ai Z Z Z)<|aB Z Z<|wy (iA Z Z)<|wy (aT Z Z)<|aA ?_;exact KP
  ·refine aM Z Z Z Z<|aM Z Z Z Z<|aM Z Z Z Z<|wy (aO Z Z)<|aA ?_;exact KP
 refine wm Z<|cK 4 [(1,PG am),(20, .bool (decide ((((0<=k)/\(k<=3))/\(0<=so))/\(so<3))))] [(rc 27 4 am [I k,I so,I od,I sz])] ?_ ?_
 ·refine bR 16 Z (λew=> ?_) (λew=> ?_)
  ·refine aB Z Z<|wy (yF 1 1 bi sz3 Z)<|aB Z Z<|wy (yL 0 ai Z Z Z)<|aB Z Z<|wL Z Z<|wy (aT Z Z)<|aA ?_;exact KP
  ·refine aM Z Z Z Z<|aM Z Z Z Z<|aM Z Z Z Z<|wy (aO Z Z)<|aA ?_;exact KP
 refine wm Z<|cK 9 [(1,PG am),(30, .bool (decide (((((0<=k)/\(k<=3))/\(0<=so))/\(so<3))/\((od=0)\/(od=1)))))] [(rc 27 4 am [I k,I so,I od,I sz])] ?_ ?_
 ·refine bR 21 Z (λkd=> ?_) (λkd=> ?_)
  ·refine aB Z Z<|wy (yF 2 2 bi sz3 Z)<|aB Z Z<|wy (yL 0 ai Z Z Z)<|aB Z Z<|wy (dR Z Z)<|aB Z Z<|wm Z<|cK 4 [(1,PG am),(21,bt),(29, .bool (decide ((od=0)\/(od=1))))] [(rc 27 4 am [I k,I so,I od,I sz])] ?_ ?_
   ·refine bR 25 Z (λme=> ?_) (λme=> ?_)
    ·refine aM Z Z Z Z<|aM Z Z Z Z<|aM Z Z Z Z<|aB Z Z<|wy (aT Z Z)<|aA ?_;exact KP
    ·refine aB Z Z<|wy (yF 2 2 bi sz3 Z)<|aB Z Z<|wy (yL 0 ai Z Z Z)<|aB Z Z<|wy (dR Z Z)<|aB Z Z<|wy (aO Z Z)<|aA ?_;exact KP
   refine wy (aT Z Z)<|aA ?_;exact KP
  ·refine aM Z Z Z Z<|aM Z Z Z Z<|aM Z Z Z Z<|aM Z Z Z Z<|dX Z Z Z<|dX Z Z Z<|dX Z Z Z<|aM Z Z Z Z<|wy (aO Z Z)<|aA ?_;exact KP
 refine wm Z<|cK 4 [(1,PG am),(35, .bool (decide ((((((0<=k)/\(k<=3))/\(0<=so))/\(so<3))/\((od=0)\/(od=1)))/\(1<=sz))))] [(rc 27 4 am [I k,I so,I od,I sz])] ?_ ?_
 ·refine bR 31 Z (λvq=> ?_) (λvq=> ?_)
  ·refine aB Z Z<|wy (yF 3 3 bi sz3 Z)<|aB Z Z<|wy (yL 0 ai Z Z Z)<|aB Z Z<|wy (iA Z Z)<|wy (aT Z Z)<|aA ?_;exact KP
  ·refine aM Z Z Z Z<|aM Z Z Z Z<|aM Z Z Z Z<|wy (aO Z Z)<|aA ?_;exact KP
 refine wm Z<|cK 4 [(40, .bool (decide (((((((0<=k)/\(k<=3))/\(0<=so))/\(so<3))/\((od=0)\/(od=1)))/\(1<=sz))/\(sz<=16777216))))] [(rc 27 4 am [I k,I so,I od,I sz])] ?_ ?_
 ·refine bR 36 Z (λr7=> ?_) (λr7=> ?_)
  ·refine aB Z Z<|wy (yF 3 3 bi sz3 Z)<|aB Z Z<|wy (yL 0 ai Z Z Z)<|aB Z Z<|wy (qK Z Z)<|wy (aT Z Z)<|aA ?_;exact KP
  ·refine aM Z Z Z Z<|aM Z Z Z Z<|aM Z Z Z Z<|wy (aO Z Z)<|aA ?_;exact KP
 refine wn Z<|aQ [] 99 cC Z ?_;refine⟨_,Z,?_⟩;exact bq Value.bool (mr G)
theorem bCx (ac:Rd w ap ar ao 1 (ints .u8 u)) (mn: ¬((0<=k/\k<=3)/\(0<=so/\so<=2)/\(od=0\/od=1)/\(1<=sz/\sz<=16777216))):
  CF 36 #[.agg #[sl ap u.length ao,sl none 0 0], .agg #[I k,I so,I od,I sz]] w (λv R'=>v=I 1):=by
 obtain rfl:=ac.lenI;refine fn1 Ha Z Z Z ?_;have li:=ac.max;refine wq<|wa (bO (sz:=2) Z Z) ?_;rintro _ _⟨am,rfl,rfl⟩;refine wa (bO (sz:=4) Z Z) ?_;rintro _ _⟨du,rfl,rfl⟩;refine wn Z<|wq<|wn Z<|wq<|wy (yF 0 0 bi sz3 Z)<|wy (yL 0 ai Z Z Z)<|wy (dR Z Z)<|wn Z<|aC<|aC ?_;refine aL<|wy (cB (vs:=[I k,I so,I od,I sz]) (rdr 0 Z) bi Z fD Z Z (au Z) Z)<|wa (aD aXp Z (Ct.quiet (λw hw=>aQv mn))) ?_;rintro _ _⟨rfl,rfl⟩;refine wy (dI Z)<|wm Z<|aM Z Z Z Z<|aM Z Z Z Z<|aM Z Z Z Z<|dX Z Z Z<|dX Z Z Z<|dX Z Z Z<|dX Z Z Z<|aM Z Z Z Z<|wy (aT Z Z)<|wm Z<|aM Z Z Z Z<|aM Z Z Z Z<|dX Z Z Z ?_;refine dX Z Z Z<|dX Z Z Z<|dX Z Z Z<|aM Z Z Z Z<|wy (aT Z Z)<|wm Z<|aM Z Z Z Z<|aM Z Z Z Z<|aM Z Z Z Z<|aM Z Z Z Z<|wy (aT Z Z)<|aA<|bE Z<|wq ?_;refine wn Z<|aQ [] 99 cC Z ?_;refine⟨_,Z,?_⟩;rfl
theorem bEa (ac:Rd w ap ar ao 1 (ints .u8 u)) (mn: ¬((0<=k/\k<=3)/\(0<=so/\so<=2)/\(od=0\/od=1)/\(1<=sz/\sz<=16777216))):
  CF 16 #[.agg #[sl ap u.length ao,sl none 0 0], .agg #[I k,I so,I od,I sz]] w (λv R'=>v= .tuple #[sl none 0 0,I 1]):=by
 obtain rfl:=ac.lenI;refine fnV Tryz.func16 Z Z ?_;have li:=ac.max;refine gW ?_;refine aL<|wa (bO (sz:=2) Z Z) ?_;rintro _ _⟨am,rfl,rfl⟩;refine wa (bO (sz:=4) Z Z) ?_;rintro _ _⟨du,rfl,rfl⟩;refine wg Z<|wn Z ?_;refine gW ?_;refine wq<|wy (cB (vs:=[sl ap u.length ao,sl none 0 0]) (rdr 1 Z) jf Z zG Z Z (au Z) Z)<|wy (cB (vs:=[I k,I so,I od,I sz]) (rdr 0 Z) bi Z fD Z Z (au Z) Z)<|wa (aD bLu Z (Ct.quiet (λw hw=>bCx ((ac.c _) w hw) mn))) ?_;rintro _ _⟨rfl,rfl⟩;refine wn Z<|wq<|wm Z<|wy (Yl.t (fE Z Z) cC)<|aA<|bE Z<|wq<|wm Z<|wg Z<|wn Z<|aQ [] 99 cC Z ?_;refine aWz Z Gd.refl ⟨_,_,Z,Z,?_⟩;rfl
variable {w:World} {ap:AF} {ar ao:Nat} {u:AH}
theorem bHr {ke:AF} {ot kf:Nat} {a:AH} (ac:Rd w ap ar ao 1 (ints .u8 u)) (da:Rd w ke ot kf 1 (ints .i64 a)) (hp:a.Perm (iota u.length)) (hN:u.length<=1000000):
  CF 143 #[sl ap ar ao,sl ke ot kf] w (λv R'=> ∃A c,v= .tuple #[sl A (ofL u a).length c,I (zat a),bt]/\R'=[(ru 5 A ((ofL u a).length) c (ofL u a))]):=by
 obtain rfl:=ac.lenI;obtain rfl:=da.lenI;refine fn3 Tryz.func143 Z Z Z ?_;have li:=ac.max;have i6:=da.max;have On:a.length=u.length:=by rw[hp.length_eq,bB]
 have hnd:a.Nodup:=hp.symm.nodup (eH _);have ye:a.Perm (iota a.length):=by rw[On];exact hp
 refine wq<|dB (R1:=[(ru 5 none 0 0 ([]))]) (Sub.refl _) (λ_ h=>h.nil 5 1)<|wg Z<|wg Z<|wn Z<|aC<|wq<|wm Z<|wy (aN aa Z)<|wm Z<|wy (aN af Z)<|wy (Yl.f (fE Z Z)) ?_;refine wm Z<|aB Z Z<|wm Z<|aB Z Z<|wa (aD bNt Z (Ct.quiet (λw hw=>bDo ((da.c _) w hw) ye G))) ?_;rintro _ _⟨rfl,rfl⟩;refine aB Z Z<|wy (dI Z)<|wy (aO Z Z)<|aA<|aJ Z<|aI<|aC<|wq<|wm Z<|wy (aN af Z)<|wy (dR Z Z)<|aA<|bA Z (λaq=> ?_) (λaq=> ?_)
 ·refine wq<|wg Z<|wg Z<|wn Z<|aQ [0] 99 cC Z ?_;refine⟨_,_,_,Z,Z,Z,?_⟩;have e:=bCq (u:=u) (a:=a) G G;rw[e.1,e.2];exact⟨none,0,Z,Z⟩
 ·refine aI<|wq<|wm Z<|wm Z<|wy (aN af Z)<|wS Z Z<|wy (aG af sz5 Z Z (ac.c _))<|wy (aR ay Z Z (ac.c _))<|wa (bH .u8 [rd u ((u.length:Int)-1)] af zs5 Z Z Z) ?_;rintro _ _⟨bx,rfl,rfl⟩;refine wn Z<|wq<|wn Z<|aC<|wq<|wn Z<|aH ?_;refine mU (λ(i:Int) (A1:AF) (n1:Nat) (c1:Nat) (acc:AH) (m:Int)=>[(0,sl ap u.length ao),(1,sl ke a.length kf),(7,sl A1 n1 c1),(8,I m),(9,I i)]) (λi A1 n1 c1 acc m=>[(ru 5 A1 n1 c1 acc),(ru 5 none 0 0 ([]))]) (λi A1 n1 c1 acc m=>(0<=i)/\(i<=a.length)/\(n1=acc.length)/\(acc=(if 0<u.length then [rd u (u.length-1)] else [])++ofT u (a.take i.toNat))/\(m=zat (a.take i.toNat))) (λi A1 n1 c1 acc m=>(a.length-i).toNat) ?_ ?_
  ·exact⟨0,GG bx,1,1,[rd u ((u.length:Int)-1)],0,⟨G,G,(by first|rfl|simp),(by first|(rw[df G];rfl)|(rw[bz G];rfl)),(Z)⟩,KP⟩
  intro i A1 n1 c1 acc m ⟨aw,ia,cv,ba,hm⟩
  have qk:acc.length<=i.toNat+1:=by
   have h1:=VW u (a.take i.toNat);rw[ax] at h1;rw[ba,ah];split<;>simp only[dh,jl]<;>omega
  have v8:i<a.length->0<=rd a i/\rd a i<u.length:=λh=>aZ.1 (hp.subset (bJ aw h));refine aC<|wq<|wm Z<|wm Z<|wy (aN aa Z)<|wL Z Z<|aA<|bA Z (λbp=> ?_) (λbp=> ?_)
  ·have Sj:=v8 G;refine aI<|aC<|aH<|aC<|wq<|wm Z<|wm Z<|wy (aG aa sz3 Z Z (da.c _))<|wy (aR ai Z Z (da.c _))<|wy (dR Z Z)<|aA<|bA Z (λew=> ?_) (λew=> ?_)
   ·refine wq<|wm Z<|wA Z Z<|wn Z<|aU<|aL<|wm Z<|wA Z Z<|wn Z ?_;exact⟨i+1,A1,n1,c1,acc,i+1,⟨G,G,(cv),(VV aw G ba cF),(UF hnd aw G cF)⟩,G,KP⟩
   ·refine aI<|aL<|wm Z<|wm Z<|wm Z<|wm Z<|wy (aG aa sz3 Z Z (da.c _))<|wy (aR ai Z Z (da.c _))<|wS Z Z<|wy (aG af sz5 Z Z (ac.c _))<|wy (aR ay Z Z (ac.c _))<|wa (bH .u8 [rd u ((rd a i)-1)] af zs5 Z Z Z) ?_;rintro _ _⟨kx,rfl,rfl⟩;refine wa (aS 1 Z af zb5 Z Z Z (rdr 0 Z)) ?_;rintro _ _⟨dy,jt,rfl,rfl⟩;refine bF (v:=sl dy (n1+1) jt) Z<|wn Z<|aL<|wm Z<|wA Z Z<|wn Z ?_;exact⟨i+1,dy,n1+1,jt,acc++([rd u ((rd a i)-1)]),m,⟨G,G,(by rw[ah,cv];rfl),(aFw aw G ba cF),(aEb hnd aw G hm cF)⟩,G,SA,λ_ h=>h.sel [1,2] cC Z⟩
  ·refine aU<|wq<|wm Z<|wm Z<|wg Z<|wg Z<|wn Z<|aQ [0] 99 cC Z ?_;refine⟨_,_,_,Z,Z,Z,?_⟩;have Ui:a.take i.toNat=a:=bg G;rw[Ui] at ba hm;obtain rfl:acc=ofL u a:=ba;obtain rfl:=cv;subst hm;exact⟨_,_,Z,Z⟩
theorem ZC (ac:Rd w ap ar ao 1 (ints .u8 u)) (an:aP u) (hN:u.length<=100000):
  CF 82 #[sl ap ar ao] w (λv R'=> ∃(b:AH) (A:AF) (c:Nat),v= .tuple #[sl A (ofL u b).length c,I (zat b)]/\b.Perm (iota u.length)/\b.Pairwise (bU u)/\R'=[(ru 5 A ((ofL u b).length) c (ofL u b))]):=by
 obtain rfl:=ac.lenI;refine fn2 Tryz.func82 Z Z Z ?_;have li:=ac.max;refine wq<|wg Z<|wn Z<|wq<|wm Z<|wm Z<|wa (aD bOx Z (Ct.fresh (λw hw=>aHx ((ac.c _) w hw) an G))) ?_;rintro _ _⟨_,rfl,b1,bm,bl,rfl,cq,dj,rfl⟩;refine wa (aD bOy Z (Ct.fresh (λw hw=>bHr ((ac.c _) w hw) ((rdr 0 Z) w hw) cq G))) ?_;rintro _ _⟨_,rfl,iu,js,rfl,rfl⟩;refine wm Z<|wX Z Z<|wX Z Z<|wX Z Z<|wg Z<|wg Z<|wn Z<|wq<|wm Z<|wm Z<|wg Z<|wn Z ?_;refine aQ [0] 99 cC Z ?_;refine⟨_,_,Z,Z,?_⟩;exact⟨b1,_,_,Z,cq,dj,Z⟩
variable {w:World} {o last:Int}
theorem wB {ff:Int}:
  CF 232 #[I ff] w (λv R'=>v=I (iJ ff)):=by
 refine fn1 Tryz.func232 Z Z Z ?_;refine wq<|wn Z<|aC<|wq<|wm Z<|wL Z Z<|aA<|bA Z (λaq=> ?_) (λaq=> ?_)
 ·refine wq<|wn Z<|bS ?_;refine⟨_,Z,?_⟩;exact bq (Value.int .i64) (by unfold iJ;rw[df cF])
 ·refine aI<|aC<|wq<|wm Z<|wy (qK Z Z)<|aA<|bA Z (λbp=> ?_) (λbp=> ?_)
  ·refine wq<|wn Z<|bS ?_;refine⟨_,Z,?_⟩;exact bq (Value.int .i64) (by unfold iJ;rw[bz cF,df G])
  ·refine aI<|wq<|wn Z<|bS ?_;refine⟨_,Z,?_⟩;exact bq (Value.int .i64) (by unfold iJ;rw[bz cF,bz G])
theorem PY (ho:o=0\/o=1) (hk:iJ last*o=0):
  CF 166 #[I o,I last] w (λv R'=>v=I 0):=by
 refine fn1 Jc Z Z Z ?_;refine wq<|wn Z<|aC<|wq<|wm Z<|wy (dR Z Z)<|aA<|bA Z (λaq=> ?_) (λaq=> ?_)
 ·refine wq<|wn Z<|bS ?_;refine⟨_,Z,?_⟩;exact bq (Value.int .i64) (by first|rfl|(rw[(by assumption:o=0)] at hk;omega))
 ·refine aI<|wq<|wm Z<|wa (aD aXn Z (Ct.quiet (λw hw=>wB))) ?_;rintro _ _⟨rfl,rfl⟩;refine wn Z<|bS ?_;refine⟨_,Z,?_⟩;exact bq (Value.int .i64) (by rw[show o=1 by omega] at hk;omega)
theorem PX (ho:o=0\/o=1) (hk:iJ last*o=1):
  CF 166 #[I o,I last] w (λv R'=>v=I 1):=by
 refine fn1 Jc Z Z Z ?_;refine wq<|wn Z<|aC<|wq<|wm Z<|wy (dR Z Z)<|aA<|bA Z (λaq=> ?_) (λaq=> ?_)
 ·refine wq<|wn Z<|bS ?_;refine⟨_,Z,?_⟩;exact bq (Value.int .i64) (by first|rfl|(rw[(by assumption:o=0)] at hk;omega))
 ·refine aI<|wq<|wm Z<|wa (aD aXn Z (Ct.quiet (λw hw=>wB))) ?_;rintro _ _⟨rfl,rfl⟩;refine wn Z<|bS ?_;refine⟨_,Z,?_⟩;exact bq (Value.int .i64) (by rw[show o=1 by omega] at hk;omega)
theorem PW (ho:o=0\/o=1) (hk:iJ last*o=2):
  CF 166 #[I o,I last] w (λv R'=>v=I 2):=by
 refine fn1 Jc Z Z Z ?_;refine wq<|wn Z<|aC<|wq<|wm Z<|wy (dR Z Z)<|aA<|bA Z (λaq=> ?_) (λaq=> ?_)
 ·refine wq<|wn Z<|bS ?_;refine⟨_,Z,?_⟩;exact bq (Value.int .i64) (by first|rfl|(rw[(by assumption:o=0)] at hk;omega))
 ·refine aI<|wq<|wm Z<|wa (aD aXn Z (Ct.quiet (λw hw=>wB))) ?_;rintro _ _⟨rfl,rfl⟩;refine wn Z<|bS ?_;refine⟨_,Z,?_⟩;exact bq (Value.int .i64) (by rw[show o=1 by omega] at hk;omega)
theorem VF:
  CF 165 #[] w (λv R'=> ∃(g g0 g1 g2:Nat) (A0 A1 A2:AF) (c0 c1 c2:Nat),v=sl (GG g) 3 3/\R'=[⟨223,1,(GG g),3,3,[Value.pointer (GG g0),Value.pointer (GG g1),Value.pointer (GG g2)],false⟩,(rc 277 1 g0 [sl A0 258 c0]),(ri 3 A0 258 c0 uN),(rc 277 1 g1 [sl A1 258 c1]),(ri 3 A1 258 c1 uN),(rc 277 1 g2 [sl A2 258 c2]),(ri 3 A2 258 c2 uN)]):=by
 refine fn1 Tryz.func165 Z Z Z ?_;refine wq<|wn Z<|wq<|wa (aD aXo Z (Ct.fresh (λw hw=>uF))) ?_;rintro _ _⟨_,rfl,am,fk,fm,rfl,rfl⟩;refine wa (aD aXo Z (Ct.fresh (λw hw=>uF))) ?_;rintro _ _⟨_,rfl,kx,dy,jt,rfl,rfl⟩;refine wa (aD aXo Z (Ct.fresh (λw hw=>uF))) ?_;rintro _ _⟨_,rfl,pi,br,bw,rfl,rfl⟩;refine wa (mK [Value.pointer (GG am),Value.pointer (GG kx),Value.pointer (GG pi)] Ic bKm Z Z Z Z) ?_;rintro _ _⟨kb,rfl,rfl⟩;refine wn Z<|aQ [0,5,6,3,4,1,2] 99 cC Z ?_;exact⟨_,Z,_,_,_,_,_,_,_,_,_,_,Z,Z⟩
theorem aFc {mu:AF} {sn mv:Nat} {b:AH} (jp:Rd w mu sn mv 1 (ints .u8 b)) (cr:aP b) (ho:o=0\/o=1) (hN:b.length<=100000):
  CF 140 #[sl mu sn mv,I o] w (λv R'=> ∃A c,v= .tuple #[sl A (bY b o).length c,bt]/\R'=[(ru 5 A ((bY b o).length) c (bY b o))]):=by
 obtain rfl:=jp.lenI;refine fn2 Tryz.func140 Z Z Z ?_;have Jl:=jp.max;have m7:=qM cr;have vf:=EX b;have Pt:=oW (bG aV b) 0;rw[fV] at Pt;have wk:(bK b).length=(bT 0 (bG aV b)).length+1:=by unfold bK;rw[ah];rfl
 refine wq<|wg Z<|wn Z<|aC<|wq<|wm Z<|wy (Yl.f (eD Z Z))<|wm Z<|aB Z Z<|wm Z<|aB Z Z<|wy (Yl.f (dE Z Z)) ?_;refine wy (aO Z Z)<|wm Z<|aB Z Z<|wm Z<|aB Z Z<|wy (aN af Z)<|aB Z Z<|wy (Yl.f (dE Z Z))<|wy (aO Z Z)<|aA<|aJ Z<|aI<|wq<|wm Z ?_;refine wa (aD bGt Z (Ct.fresh (λw hw=>LG ((jp.c _) w hw) cr G))) ?_;rintro _ _⟨_,rfl,bm,bl,rfl,rfl⟩;refine wa (aD bNw Z (Ct.fresh (λw hw=>aFb ((rdr 0 Z) w hw) (lW cr) (by rw[fV];omega)))) ?_;rintro _ _⟨_,rfl,iu,js,rfl,rfl⟩;refine wa (bH .i64 [257] aa zs3 Z Z Z) ?_;rintro _ _⟨yy,rfl,rfl⟩;refine wa (aS 1 Z aa zb3 Z Z Z (rdr 0 Z)) ?_;rintro _ _⟨eh,bo,rfl,rfl⟩;refine bF (v:=sl eh (((bT 0 (bG aV b)).length)+1) bo) Z<|wn Z<|wq<|wa (aD bOm Z (Ct.fresh (λw hw=>VF))) ?_;rintro _ _⟨_,rfl,gl,kh,ka,kb,fh,fz,db,de,gh,jn,rfl,rfl⟩;refine wn Z<|wq<|wa (aD bNv Z (Ct.fresh (λw hw=>IU))) ?_;rintro _ _⟨_,rfl,gn,gv,gw,rfl,rfl⟩;refine wn Z<|wq<|wn Z<|aC<|wq<|wn Z<|aH ?_;refine fK (λ(i:Int) (last:Int) (Aw:AF) (cw:Nat) (Sx:PpS)=>[(1,I o),(6,sl eh (((bT 0 (bG aV b)).length)+1) bo),(7,sl (GG gl) 3 3),(8,PG gn),(9,I last),(10,I i)]) (λi last Aw cw Sx=>[(rc 262 2 gn [sl Aw (Sx.cd.k+4) cw, .int .u64 Sx.cd.R]),(ru 5 Aw (Sx.cd.k+4) cw (beL (Sx.cd.k+4) Sx.cd.N)),⟨223,1,(GG gl),3,3,[Value.pointer (GG kh),Value.pointer (GG ka),Value.pointer (GG kb)],false⟩,(rc 277 1 kh [sl fh 258 de]),(ri 3 fh 258 de Sx.c0),(rc 277 1 ka [sl fz 258 gh]),(ri 3 fz 258 gh Sx.c1),(rc 277 1 kb [sl db 258 jn]),(ri 3 db 258 jn Sx.c2),(ri 3 (GG yy) 1 1 ([257])),(ri 3 eh (((bT 0 (bG aV b)).length)+1) bo (syb b)),(ru 5 bm ((b).length) bl (bG aV b))]) (λi last Aw cw Sx=>(0<=i)/\(i<=(bK b).length)/\(Sx.cls=iJ last)/\(Sx=encP o ((bK b).take i.toNat))) (λi last Aw cw Sx=>((bK b).length-i).toNat) ?_ ?_
 ·exact⟨0,0,gv,gw,pp0,⟨G,G,(Z),(Z)⟩,KP⟩
 intro i last Aw cw Sx ⟨aw,ia,mj,hS⟩;have cj:=WP m7 hS;refine aC<|wq<|wm Z<|wm Z<|wy (aN aa Z)<|wL Z Z<|aA<|bA Z (λaq=> ?_) (λaq=> ?_)
 ·have hx:=m7 _ (bJ (L:=bK b) (k:=i) aw G);refine aI<|aC<|aH<|wq ?_;rcases OJ cj.1 ho with hk|hk|hk
  ·refine wm Z<|wm Z<|wm Z<|wa (aD aXx Z (Ct.quiet (λw hw=>PY ho (by rw[<-mj];exact hk)))) ?_;rintro _ _⟨rfl,rfl⟩;refine wy (aG Ic aSp Z Z (rdr 2 Z))<|wy (rF underlying223 Z Z Z (rdr 2 Z) Z)<|wn Z<|wq<|wm Z<|wm Z<|wm Z<|wy (aG aa sz3 Z Z (rdr 10 Z))<|wy (aR ai Z Z (rdr 10 Z))<|wa (aD aXw Z (Ct.sub (R1:=[(rc 277 1 kh [sl fh 258 de]),(ri 3 fh 258 de Sx.c0),(rc 262 2 gn [sl Aw (Sx.cd.k+4) cw, .int .u64 Sx.cd.R]),(ru 5 Aw (Sx.cd.k+4) cw (beL (Sx.cd.k+4) Sx.cd.N)),⟨223,1,(GG gl),3,3,[Value.pointer (GG kh),Value.pointer (GG ka),Value.pointer (GG kb)],false⟩,(rc 277 1 ka [sl fz 258 gh]),(ri 3 fz 258 gh Sx.c1),(rc 277 1 kb [sl db 258 jn]),(ri 3 db 258 jn Sx.c2),(ri 3 (GG yy) 1 1 ([257])),(ri 3 eh (((bT 0 (bG aV b)).length)+1) bo (syb b)),(ru 5 bm ((b).length) bl (bG aV b))]) (λ_ h=>h.sel [3,4,0,1,2,5,6,7,8,9,10,11] cC Z) (rW (by rw[cj.1.1.1.1]) (by rw[cj.1.1.1.1];exact hx) cj.1.1.1))) ?_;rintro _ _⟨rfl,rfl⟩;refine wm Z<|wX Z Z<|wX Z Z<|wX Z Z<|wg Z<|wg Z<|wn Z<|wq<|wm Z<|wm Z<|wm Z<|wm Z<|wa (aD aLc Z (Ct.sub (R1:=[(rc 277 1 kh [sl fh 258 de]),(ri 3 fh 258 de Sx.c0),(rc 262 2 gn [sl Aw (Sx.cd.k+4) cw, .int .u64 Sx.cd.R]),(ru 5 Aw (Sx.cd.k+4) cw (beL (Sx.cd.k+4) Sx.cd.N)),⟨223,1,(GG gl),3,3,[Value.pointer (GG kh),Value.pointer (GG ka),Value.pointer (GG kb)],false⟩,(rc 277 1 ka [sl fz 258 gh]),(ri 3 fz 258 gh Sx.c1),(rc 277 1 kb [sl db 258 jn]),(ri 3 db 258 jn Sx.c2),(ri 3 (GG yy) 1 1 ([257])),(ri 3 eh (((bT 0 (bG aV b)).length)+1) bo (syb b)),(ru 5 bm ((b).length) bl (bG aV b))]) hiZ (mX (by rw[cj.1.1.1.1]) cj.1.1.1.le))) ?_;rintro _ _⟨rfl,rfl⟩;refine wa (aD aXq Z (Ct.sub (R1:=[(rc 262 2 gn [sl Aw (Sx.cd.k+4) cw, .int .u64 Sx.cd.R]),(ru 5 Aw (Sx.cd.k+4) cw (beL (Sx.cd.k+4) Sx.cd.N)),(rc 277 1 kh [sl fh 258 de]),(ri 3 fh 258 de Sx.c0),⟨223,1,(GG gl),3,3,[Value.pointer (GG kh),Value.pointer (GG ka),Value.pointer (GG kb)],false⟩,(rc 277 1 ka [sl fz 258 gh]),(ri 3 fz 258 gh Sx.c1),(rc 277 1 kb [sl db 258 jn]),(ri 3 db 258 jn Sx.c2),(ri 3 (GG yy) 1 1 ([257])),(ri 3 eh (((bT 0 (bG aV b)).length)+1) bo (syb b)),(ru 5 bm ((b).length) bl (bG aV b))]) (λ_ h=>h.sel [2,3,0,1,4,5,6,7,8,9,10,11] cC Z) (EZ Z cj.1.2.2 (jY cj.1.1.1 hx.1 hx.2) G))) ?_;rintro _ _⟨ov,oy,rfl,rfl⟩;refine aA<|wq<|wm Z<|wm Z<|wm Z<|wy (aG aa sz3 Z Z (rdr 10 Z))<|wy (aR ai Z Z (rdr 10 Z))<|wa (aD aXv Z (Ct.sub (R1:=[(rc 277 1 kh [sl fh 258 de]),(ri 3 fh 258 de Sx.c0),(rc 262 2 gn [sl ov ((eY Sx.cd (aW (Sx.c0.take (rd (syb b) i).toNat)) (rd Sx.c0 (rd (syb b) i)) (aW Sx.c0)).k+4) oy, .int .u64 ((eY Sx.cd (aW (Sx.c0.take (rd (syb b) i).toNat)) (rd Sx.c0 (rd (syb b) i)) (aW Sx.c0)).R)]),(ru 5 ov ((eY Sx.cd (aW (Sx.c0.take (rd (syb b) i).toNat)) (rd Sx.c0 (rd (syb b) i)) (aW Sx.c0)).k+4) oy (beL ((eY Sx.cd (aW (Sx.c0.take (rd (syb b) i).toNat)) (rd Sx.c0 (rd (syb b) i)) (aW Sx.c0)).k+4) (eY Sx.cd (aW (Sx.c0.take (rd (syb b) i).toNat)) (rd Sx.c0 (rd (syb b) i)) (aW Sx.c0)).N)),⟨223,1,(GG gl),3,3,[Value.pointer (GG kh),Value.pointer (GG ka),Value.pointer (GG kb)],false⟩,(rc 277 1 ka [sl fz 258 gh]),(ri 3 fz 258 gh Sx.c1),(rc 277 1 kb [sl db 258 jn]),(ri 3 db 258 jn Sx.c2),(ri 3 (GG yy) 1 1 ([257])),(ri 3 eh (((bT 0 (bG aV b)).length)+1) bo (syb b)),(ru 5 bm ((b).length) bl (bG aV b))]) (λ_ h=>h.sel [2,3,0,1,4,5,6,7,8,9,10,11] cC Z) (uE (by rw[cj.1.1.1.1]) (by rw[cj.1.1.1.1];exact hx) cj.1.1.1))) ?_;rintro _ _⟨rfl,rfl⟩;refine aA<|aL<|wm Z<|wm Z<|wy (aG aa sz3 Z Z (rdr 10 Z))<|wy (aR ai Z Z (rdr 10 Z))<|wn Z<|aL<|wm Z<|wA Z Z<|wn Z ?_;exact⟨i+1,rd (syb b) i,ov,oy,(⟨jX Sx.c0 (rd (bK b) i),Sx.c1,Sx.c2,iJ (rd (bK b) i),qN Sx.cd Sx.c0 (rd (bK b) i)⟩:PpS),⟨G,G,(Z),(mV hS aw G (UV hk))⟩,G,SA,λ_ h=>h.sel [2,3,4,0,1,5,6,7,8,9,10,11] cC Z⟩
  ·refine wm Z<|wm Z<|wm Z<|wa (aD aXx Z (Ct.quiet (λw hw=>PX ho (by rw[<-mj];exact hk)))) ?_;rintro _ _⟨rfl,rfl⟩;refine wy (aG Ic aSp Z Z (rdr 2 Z))<|wy (rF underlying223 Z Z Z (rdr 2 Z) Z)<|wn Z<|wq<|wm Z<|wm Z<|wm Z<|wy (aG aa sz3 Z Z (rdr 10 Z))<|wy (aR ai Z Z (rdr 10 Z))<|wa (aD aXw Z (Ct.sub (R1:=[(rc 277 1 ka [sl fz 258 gh]),(ri 3 fz 258 gh Sx.c1),(rc 262 2 gn [sl Aw (Sx.cd.k+4) cw, .int .u64 Sx.cd.R]),(ru 5 Aw (Sx.cd.k+4) cw (beL (Sx.cd.k+4) Sx.cd.N)),⟨223,1,(GG gl),3,3,[Value.pointer (GG kh),Value.pointer (GG ka),Value.pointer (GG kb)],false⟩,(rc 277 1 kh [sl fh 258 de]),(ri 3 fh 258 de Sx.c0),(rc 277 1 kb [sl db 258 jn]),(ri 3 db 258 jn Sx.c2),(ri 3 (GG yy) 1 1 ([257])),(ri 3 eh (((bT 0 (bG aV b)).length)+1) bo (syb b)),(ru 5 bm ((b).length) bl (bG aV b))]) (λ_ h=>h.sel [5,6,0,1,2,3,4,7,8,9,10,11] cC Z) (rW (by rw[cj.1.1.2.1.1]) (by rw[cj.1.1.2.1.1];exact hx) cj.1.1.2.1))) ?_;rintro _ _⟨rfl,rfl⟩;refine wm Z<|wX Z Z<|wX Z Z<|wX Z Z<|wg Z<|wg Z<|wn Z<|wq<|wm Z<|wm Z<|wm Z<|wm Z<|wa (aD aLc Z (Ct.sub (R1:=[(rc 277 1 ka [sl fz 258 gh]),(ri 3 fz 258 gh Sx.c1),(rc 262 2 gn [sl Aw (Sx.cd.k+4) cw, .int .u64 Sx.cd.R]),(ru 5 Aw (Sx.cd.k+4) cw (beL (Sx.cd.k+4) Sx.cd.N)),⟨223,1,(GG gl),3,3,[Value.pointer (GG kh),Value.pointer (GG ka),Value.pointer (GG kb)],false⟩,(rc 277 1 kh [sl fh 258 de]),(ri 3 fh 258 de Sx.c0),(rc 277 1 kb [sl db 258 jn]),(ri 3 db 258 jn Sx.c2),(ri 3 (GG yy) 1 1 ([257])),(ri 3 eh (((bT 0 (bG aV b)).length)+1) bo (syb b)),(ru 5 bm ((b).length) bl (bG aV b))]) hiZ (mX (by rw[cj.1.1.2.1.1]) cj.1.1.2.1.le))) ?_;rintro _ _⟨rfl,rfl⟩;refine wa (aD aXq Z (Ct.sub (R1:=[(rc 262 2 gn [sl Aw (Sx.cd.k+4) cw, .int .u64 Sx.cd.R]),(ru 5 Aw (Sx.cd.k+4) cw (beL (Sx.cd.k+4) Sx.cd.N)),(rc 277 1 ka [sl fz 258 gh]),(ri 3 fz 258 gh Sx.c1),⟨223,1,(GG gl),3,3,[Value.pointer (GG kh),Value.pointer (GG ka),Value.pointer (GG kb)],false⟩,(rc 277 1 kh [sl fh 258 de]),(ri 3 fh 258 de Sx.c0),(rc 277 1 kb [sl db 258 jn]),(ri 3 db 258 jn Sx.c2),(ri 3 (GG yy) 1 1 ([257])),(ri 3 eh (((bT 0 (bG aV b)).length)+1) bo (syb b)),(ru 5 bm ((b).length) bl (bG aV b))]) (λ_ h=>h.sel [2,3,0,1,4,5,6,7,8,9,10,11] cC Z) (EZ Z cj.1.2.2 (jY cj.1.1.2.1 hx.1 hx.2) G))) ?_;rintro _ _⟨pm,pn,rfl,rfl⟩;refine aA<|wq<|wm Z<|wm Z<|wm Z<|wy (aG aa sz3 Z Z (rdr 10 Z))<|wy (aR ai Z Z (rdr 10 Z))<|wa (aD aXv Z (Ct.sub (R1:=[(rc 277 1 ka [sl fz 258 gh]),(ri 3 fz 258 gh Sx.c1),(rc 262 2 gn [sl pm ((eY Sx.cd (aW (Sx.c1.take (rd (syb b) i).toNat)) (rd Sx.c1 (rd (syb b) i)) (aW Sx.c1)).k+4) pn, .int .u64 ((eY Sx.cd (aW (Sx.c1.take (rd (syb b) i).toNat)) (rd Sx.c1 (rd (syb b) i)) (aW Sx.c1)).R)]),(ru 5 pm ((eY Sx.cd (aW (Sx.c1.take (rd (syb b) i).toNat)) (rd Sx.c1 (rd (syb b) i)) (aW Sx.c1)).k+4) pn (beL ((eY Sx.cd (aW (Sx.c1.take (rd (syb b) i).toNat)) (rd Sx.c1 (rd (syb b) i)) (aW Sx.c1)).k+4) (eY Sx.cd (aW (Sx.c1.take (rd (syb b) i).toNat)) (rd Sx.c1 (rd (syb b) i)) (aW Sx.c1)).N)),⟨223,1,(GG gl),3,3,[Value.pointer (GG kh),Value.pointer (GG ka),Value.pointer (GG kb)],false⟩,(rc 277 1 kh [sl fh 258 de]),(ri 3 fh 258 de Sx.c0),(rc 277 1 kb [sl db 258 jn]),(ri 3 db 258 jn Sx.c2),(ri 3 (GG yy) 1 1 ([257])),(ri 3 eh (((bT 0 (bG aV b)).length)+1) bo (syb b)),(ru 5 bm ((b).length) bl (bG aV b))]) (λ_ h=>h.sel [2,3,0,1,4,5,6,7,8,9,10,11] cC Z) (uE (by rw[cj.1.1.2.1.1]) (by rw[cj.1.1.2.1.1];exact hx) cj.1.1.2.1))) ?_;rintro _ _⟨rfl,rfl⟩;refine aA<|aL<|wm Z<|wm Z<|wy (aG aa sz3 Z Z (rdr 10 Z))<|wy (aR ai Z Z (rdr 10 Z))<|wn Z<|aL<|wm Z<|wA Z Z<|wn Z ?_;exact⟨i+1,rd (syb b) i,pm,pn,(⟨Sx.c0,jX Sx.c1 (rd (bK b) i),Sx.c2,iJ (rd (bK b) i),qN Sx.cd Sx.c1 (rd (bK b) i)⟩:PpS),⟨G,G,(Z),(mV hS aw G (UU hk))⟩,G,SA,λ_ h=>h.sel [2,3,4,5,6,0,1,7,8,9,10,11] cC Z⟩
  ·refine wm Z<|wm Z<|wm Z<|wa (aD aXx Z (Ct.quiet (λw hw=>PW ho (by rw[<-mj];exact hk)))) ?_;rintro _ _⟨rfl,rfl⟩;refine wy (aG Ic aSp Z Z (rdr 2 Z))<|wy (rF underlying223 Z Z Z (rdr 2 Z) Z)<|wn Z<|wq<|wm Z<|wm Z<|wm Z<|wy (aG aa sz3 Z Z (rdr 10 Z))<|wy (aR ai Z Z (rdr 10 Z))<|wa (aD aXw Z (Ct.sub (R1:=[(rc 277 1 kb [sl db 258 jn]),(ri 3 db 258 jn Sx.c2),(rc 262 2 gn [sl Aw (Sx.cd.k+4) cw, .int .u64 Sx.cd.R]),(ru 5 Aw (Sx.cd.k+4) cw (beL (Sx.cd.k+4) Sx.cd.N)),⟨223,1,(GG gl),3,3,[Value.pointer (GG kh),Value.pointer (GG ka),Value.pointer (GG kb)],false⟩,(rc 277 1 kh [sl fh 258 de]),(ri 3 fh 258 de Sx.c0),(rc 277 1 ka [sl fz 258 gh]),(ri 3 fz 258 gh Sx.c1),(ri 3 (GG yy) 1 1 ([257])),(ri 3 eh (((bT 0 (bG aV b)).length)+1) bo (syb b)),(ru 5 bm ((b).length) bl (bG aV b))]) (λ_ h=>h.sel [7,8,0,1,2,3,4,5,6,9,10,11] cC Z) (rW (by rw[cj.1.1.2.2.1]) (by rw[cj.1.1.2.2.1];exact hx) cj.1.1.2.2))) ?_;rintro _ _⟨rfl,rfl⟩;refine wm Z<|wX Z Z<|wX Z Z<|wX Z Z<|wg Z<|wg Z<|wn Z<|wq<|wm Z<|wm Z<|wm Z<|wm Z<|wa (aD aLc Z (Ct.sub (R1:=[(rc 277 1 kb [sl db 258 jn]),(ri 3 db 258 jn Sx.c2),(rc 262 2 gn [sl Aw (Sx.cd.k+4) cw, .int .u64 Sx.cd.R]),(ru 5 Aw (Sx.cd.k+4) cw (beL (Sx.cd.k+4) Sx.cd.N)),⟨223,1,(GG gl),3,3,[Value.pointer (GG kh),Value.pointer (GG ka),Value.pointer (GG kb)],false⟩,(rc 277 1 kh [sl fh 258 de]),(ri 3 fh 258 de Sx.c0),(rc 277 1 ka [sl fz 258 gh]),(ri 3 fz 258 gh Sx.c1),(ri 3 (GG yy) 1 1 ([257])),(ri 3 eh (((bT 0 (bG aV b)).length)+1) bo (syb b)),(ru 5 bm ((b).length) bl (bG aV b))]) hiZ (mX (by rw[cj.1.1.2.2.1]) cj.1.1.2.2.le))) ?_;rintro _ _⟨rfl,rfl⟩;refine wa (aD aXq Z (Ct.sub (R1:=[(rc 262 2 gn [sl Aw (Sx.cd.k+4) cw, .int .u64 Sx.cd.R]),(ru 5 Aw (Sx.cd.k+4) cw (beL (Sx.cd.k+4) Sx.cd.N)),(rc 277 1 kb [sl db 258 jn]),(ri 3 db 258 jn Sx.c2),⟨223,1,(GG gl),3,3,[Value.pointer (GG kh),Value.pointer (GG ka),Value.pointer (GG kb)],false⟩,(rc 277 1 kh [sl fh 258 de]),(ri 3 fh 258 de Sx.c0),(rc 277 1 ka [sl fz 258 gh]),(ri 3 fz 258 gh Sx.c1),(ri 3 (GG yy) 1 1 ([257])),(ri 3 eh (((bT 0 (bG aV b)).length)+1) bo (syb b)),(ru 5 bm ((b).length) bl (bG aV b))]) (λ_ h=>h.sel [2,3,0,1,4,5,6,7,8,9,10,11] cC Z) (EZ Z cj.1.2.2 (jY cj.1.1.2.2 hx.1 hx.2) G))) ?_;rintro _ _⟨py,qe,rfl,rfl⟩;refine aA<|wq<|wm Z<|wm Z<|wm Z<|wy (aG aa sz3 Z Z (rdr 10 Z))<|wy (aR ai Z Z (rdr 10 Z))<|wa (aD aXv Z (Ct.sub (R1:=[(rc 277 1 kb [sl db 258 jn]),(ri 3 db 258 jn Sx.c2),(rc 262 2 gn [sl py ((eY Sx.cd (aW (Sx.c2.take (rd (syb b) i).toNat)) (rd Sx.c2 (rd (syb b) i)) (aW Sx.c2)).k+4) qe, .int .u64 ((eY Sx.cd (aW (Sx.c2.take (rd (syb b) i).toNat)) (rd Sx.c2 (rd (syb b) i)) (aW Sx.c2)).R)]),(ru 5 py ((eY Sx.cd (aW (Sx.c2.take (rd (syb b) i).toNat)) (rd Sx.c2 (rd (syb b) i)) (aW Sx.c2)).k+4) qe (beL ((eY Sx.cd (aW (Sx.c2.take (rd (syb b) i).toNat)) (rd Sx.c2 (rd (syb b) i)) (aW Sx.c2)).k+4) (eY Sx.cd (aW (Sx.c2.take (rd (syb b) i).toNat)) (rd Sx.c2 (rd (syb b) i)) (aW Sx.c2)).N)),⟨223,1,(GG gl),3,3,[Value.pointer (GG kh),Value.pointer (GG ka),Value.pointer (GG kb)],false⟩,(rc 277 1 kh [sl fh 258 de]),(ri 3 fh 258 de Sx.c0),(rc 277 1 ka [sl fz 258 gh]),(ri 3 fz 258 gh Sx.c1),(ri 3 (GG yy) 1 1 ([257])),(ri 3 eh (((bT 0 (bG aV b)).length)+1) bo (syb b)),(ru 5 bm ((b).length) bl (bG aV b))]) (λ_ h=>h.sel [2,3,0,1,4,5,6,7,8,9,10,11] cC Z) (uE (by rw[cj.1.1.2.2.1]) (by rw[cj.1.1.2.2.1];exact hx) cj.1.1.2.2))) ?_;rintro _ _⟨rfl,rfl⟩;refine aA<|aL<|wm Z<|wm Z<|wy (aG aa sz3 Z Z (rdr 10 Z))<|wy (aR ai Z Z (rdr 10 Z))<|wn Z<|aL<|wm Z<|wA Z Z<|wn Z ?_;exact⟨i+1,rd (syb b) i,py,qe,(⟨Sx.c0,Sx.c1,jX Sx.c2 (rd (bK b) i),iJ (rd (bK b) i),qN Sx.cd Sx.c2 (rd (bK b) i)⟩:PpS),⟨G,G,(Z),(mV hS aw G (UT hk))⟩,G,SA,λ_ h=>h.sel [2,3,4,5,6,7,8,0,1,9,10,11] cC Z⟩
 ·refine aU<|wq<|wm Z<|wy (aF Z)<|wy (yF 0 0 xu dA Z)<|wy (yL 0 af Z Z Z)<|wg Z<|wn Z<|bN (R1:=[(ru 5 Aw (Sx.cd.k+4) cw (beL (Sx.cd.k+4) Sx.cd.N))]) (λ_ h=>h.sel [1] cC Z) ?_;refine⟨_,_,Z,Z,?_⟩;rw[bg G] at hS;have e:(bY b o).length=Sx.cd.k+4:=by unfold bY;rw[jW,<-hS]
  have e2:bY b o=beL (Sx.cd.k+4) Sx.cd.N:=by unfold bY;rw[<-hS]
  rw[e,e2];exact⟨_,_,Z,Z⟩
variable {w:World} {k so od sz:Int} {ap:AF} {ar ao m:Nat} {u l:AH}
theorem aAb:
  CF 24 #[.agg #[I k,I so,I od,I sz]] w (λv R'=>v= .bool (decide ((0<=k/\k<=3)/\(0<=so/\so<=2)/\(od=0\/od=1)/\(1<=sz/\sz<=16777216)))):=by
 refine fn1 Tryz.func24 Z Z Z ?_;refine wq<|wa (bO (sz:=4) Z Z) ?_;rintro _ _⟨am,rfl,rfl⟩;refine wn Z<|wq<|wy (yF 0 0 bi sz3 Z)<|wy (yL 0 ai Z Z Z)<|wy (iA Z Z)<|wm Z<|cK 4 [(1,PG am),(10, .bool (decide ((0<=k)/\(k<=3))))] [(rc 27 4 am [I k,I so,I od,I sz])] ?_ ?_
 ·refine bR 6 Z (λaq=> ?_) (λaq=> ?_)
  ·refine aB Z Z<|wy (yF 0 0 bi sz3 Z)<|aB Z Z<|wy (yL 0 ai Z Z Z)<|aB Z Z<|wy (qK Z Z)<|wy (aT Z Z)<|aA ?_;exact KP
  ·refine aM Z Z Z Z<|aM Z Z Z Z<|aM Z Z Z Z<|wy (aO Z Z)<|aA ?_;exact KP
 refine wm Z<|cK 4 [(1,PG am),(15, .bool (decide (((0<=k)/\(k<=3))/\(0<=so))))] [(rc 27 4 am [I k,I so,I od,I sz])] ?_ ?_
 ·refine bR 11 Z (λbp=> ?_) (λbp=> ?_)
  ·refine aB Z Z<|wy (yF 1 1 bi sz3 Z)<|aB Z Z<|wy (yL 0 ai Z Z Z)<|aB Z Z<|wy (iA Z Z)<|wy (aT Z Z)<|aA ?_;exact KP
  ·refine aM Z Z Z Z<|aM Z Z Z Z<|aM Z Z Z Z<|wy (aO Z Z)<|aA ?_;exact KP
 refine wm Z<|cK 4 [(1,PG am),(20, .bool (decide ((((0<=k)/\(k<=3))/\(0<=so))/\(so<=2))))] [(rc 27 4 am [I k,I so,I od,I sz])] ?_ ?_
 ·refine bR 16 Z (λew=> ?_) (λew=> ?_)
  ·refine aB Z Z<|wy (yF 1 1 bi sz3 Z)<|aB Z Z<|wy (yL 0 ai Z Z Z)<|aB Z Z<|wy (qK Z Z)<|wy (aT Z Z)<|aA ?_;exact KP
  ·refine aM Z Z Z Z<|aM Z Z Z Z<|aM Z Z Z Z<|wy (aO Z Z)<|aA ?_;exact KP
 refine wm Z<|cK 9 [(1,PG am),(30, .bool (decide (((((0<=k)/\(k<=3))/\(0<=so))/\(so<=2))/\((od=0)\/(od=1)))))] [(rc 27 4 am [I k,I so,I od,I sz])] ?_ ?_
 ·refine bR 21 Z (λkd=> ?_) (λkd=> ?_)
  ·refine aB Z Z<|wy (yF 2 2 bi sz3 Z)<|aB Z Z<|wy (yL 0 ai Z Z Z)<|aB Z Z<|wy (dR Z Z)<|aB Z Z<|wm Z<|cK 4 [(1,PG am),(21,bt),(29, .bool (decide ((od=0)\/(od=1))))] [(rc 27 4 am [I k,I so,I od,I sz])] ?_ ?_
   ·refine bR 25 Z (λme=> ?_) (λme=> ?_)
    ·refine aM Z Z Z Z<|aM Z Z Z Z<|aM Z Z Z Z<|aB Z Z<|wy (aT Z Z)<|aA ?_;exact KP
    ·refine aB Z Z<|wy (yF 2 2 bi sz3 Z)<|aB Z Z<|wy (yL 0 ai Z Z Z)<|aB Z Z<|wy (dR Z Z)<|aB Z Z<|wy (aO Z Z)<|aA ?_;exact KP
   refine wy (aT Z Z)<|aA ?_;exact KP
  ·refine aM Z Z Z Z<|aM Z Z Z Z<|aM Z Z Z Z<|aM Z Z Z Z<|dX Z Z Z<|dX Z Z Z<|dX Z Z Z<|aM Z Z Z Z<|wy (aO Z Z)<|aA ?_;exact KP
 refine wm Z<|cK 4 [(1,PG am),(35, .bool (decide ((((((0<=k)/\(k<=3))/\(0<=so))/\(so<=2))/\((od=0)\/(od=1)))/\(1<=sz))))] [(rc 27 4 am [I k,I so,I od,I sz])] ?_ ?_
 ·refine bR 31 Z (λvq=> ?_) (λvq=> ?_)
  ·refine aB Z Z<|wy (yF 3 3 bi sz3 Z)<|aB Z Z<|wy (yL 0 ai Z Z Z)<|aB Z Z<|wy (iA Z Z)<|wy (aT Z Z)<|aA ?_;exact KP
  ·refine aM Z Z Z Z<|aM Z Z Z Z<|aM Z Z Z Z<|wy (aO Z Z)<|aA ?_;exact KP
 refine wm Z<|cK 4 [(40, .bool (decide (((((((0<=k)/\(k<=3))/\(0<=so))/\(so<=2))/\((od=0)\/(od=1)))/\(1<=sz))/\(sz<=16777216))))] [(rc 27 4 am [I k,I so,I od,I sz])] ?_ ?_
 ·refine bR 36 Z (λr7=> ?_) (λr7=> ?_)
  ·refine aB Z Z<|wy (yF 3 3 bi sz3 Z)<|aB Z Z<|wy (yL 0 ai Z Z Z)<|aB Z Z<|wy (qK Z Z)<|wy (aT Z Z)<|aA ?_;exact KP
  ·refine aM Z Z Z Z<|aM Z Z Z Z<|aM Z Z Z Z<|wy (aO Z Z)<|aA ?_;exact KP
 refine wn Z<|aQ [] 99 cC Z ?_;refine⟨_,Z,?_⟩;exact bq Value.bool (yj.2 G)
theorem GX:
  CF 44 #[sl none 0 0] w (λv R'=>v=sl none 0 0):=by
 refine fn1 Tryz.func44 Z Z Z ?_;refine wq<|wn Z<|wq<|wn Z<|aC<|wq<|wn Z<|aH<|mR 1 ?_;refine dY<|aC<|wq<|wm Z<|wm Z<|wy (aN dm Z)<|wy (Yl.f (eD Z Z) cC)<|aA<|aJ Z<|aU<|wq<|wm Z<|wg Z ?_;refine aA<|bS ?_;refine⟨_,Z,?_⟩;rfl
theorem aTs (ac:Rd w ap ar ao 1 (ints .u8 u)) (mn: ¬((0<=k/\k<=3)/\(0<=so/\so<=2)/\(od=0\/od=1)/\(1<=sz/\sz<=16777216))) (h3:k≠3):
  CF 42 #[.agg #[sl ap u.length ao,sl none 0 0], .agg #[I k,I so,I od,I sz]] w (λv R'=>v=I 1):=by
 obtain rfl:=ac.lenI;refine fn1 Tryz.func42 Z Z Z ?_;have li:=ac.max;refine wq<|wa (bO (sz:=2) Z Z) ?_;rintro _ _⟨am,rfl,rfl⟩;refine wa (bO (sz:=4) Z Z) ?_;rintro _ _⟨du,rfl,rfl⟩;refine wn Z<|aC<|wq<|wy (cB (vs:=[I k,I so,I od,I sz]) (rdr 0 Z) bi Z fD Z Z (au Z) Z)<|wa (aD bNe Z (Ct.quiet (λw hw=>aAb))) ?_;rintro _ _⟨rfl,rfl⟩;refine oL 7 Z (mn)<|wy (dI Z)<|wm Z<|aM Z Z Z Z<|aM Z Z Z Z<|aM Z Z Z Z<|aM Z Z Z Z<|dX Z Z Z<|dX Z Z Z<|dX Z Z Z<|dX Z Z Z<|aM Z Z Z Z<|wy (aT Z Z)<|wm Z<|aM Z Z Z Z ?_;refine aM Z Z Z Z<|aM Z Z Z Z<|aM Z Z Z Z<|dX Z Z Z<|dX Z Z Z<|dX Z Z Z<|dX Z Z Z<|aM Z Z Z Z<|wy (aT Z Z)<|aA<|bE Z<|wq<|wn Z ?_;refine aQ [] 99 cC Z ?_;refine⟨_,Z,?_⟩;rfl
theorem aTr (ac:Rd w ap ar ao 1 (ints .u8 u)) (hp:(0<=so/\so<=2)/\(od=0\/od=1)/\(1<=sz/\sz<=16777216)) (hk:k=0\/k=1\/k=2) (hN:u.length<=100000):
  CF 42 #[.agg #[sl ap u.length ao,sl none 0 0], .agg #[I k,I so,I od,I sz]] w (λv R'=>v=I 0):=by
 obtain rfl:=ac.lenI;refine fn1 Tryz.func42 Z Z Z ?_;have li:=ac.max;refine wq<|wa (bO (sz:=2) Z Z) ?_;rintro _ _⟨am,rfl,rfl⟩;refine wa (bO (sz:=4) Z Z) ?_;rintro _ _⟨du,rfl,rfl⟩;refine wn Z<|aC<|wq<|wy (cB (vs:=[I k,I so,I od,I sz]) (rdr 0 Z) bi Z fD Z Z (au Z) Z)<|wa (aD bNe Z (Ct.quiet (λw hw=>aAb))) ?_;rintro _ _⟨rfl,rfl⟩;refine fH 7 Z (⟨G,hp⟩)<|wy (dI rfl)<|wm rfl<|aB rfl rfl<|wy (yF 0 0 bi sz3 rfl)<|aB rfl rfl<|wy (yL 0 ai rfl rfl rfl)<|aB rfl rfl<|wy (Yl.f (dR rfl rfl))<|aB rfl rfl<|wm rfl<|aM rfl rfl rfl rfl<|aM rfl rfl rfl rfl<|aM rfl rfl rfl rfl<|aM rfl rfl rfl rfl ?_;refine aB Z Z<|wy (aO Z Z)<|wy (aO Z Z)<|wm Z<|aB Z Z<|wy (yF 0 0 bi sz3 Z)<|aB Z Z<|wy (yL 0 ai Z Z Z)<|aB Z Z<|wy (Yl.t (fE Z Z) G)<|aB Z Z<|wm Z<|aB Z Z<|wy (yF 1 1 jf mM Z)<|aB Z Z ?_;refine wy (yL 1 dm Z Z Z)<|aB Z Z<|wy (aN dm Z)<|aB Z Z<|wy (Yl.f (dE Z Z) cC)<|aB Z Z<|wy (aT Z Z)<|wy (aO Z Z)<|aA<|aJ Z<|aI<|aC<|wq<|wg Z ?_;refine aA<|aH<|mR 1<|dY<|aC<|wq<|wm Z<|wy (yF 1 1 jf mM Z)<|wy (yL 1 dm Z Z Z)<|wy (aN dm Z)<|wy (Yl.f (eD Z Z) cC)<|aA<|aJ Z<|aU ?_;refine aC<|aC<|bI mixed<|wD 0 Z (yF 0 0 jf dA Z)<|wD 1 Z (yL 1 af Z Z Z)<|wD 2 Z (aN af Z)<|wD 3 Z (yF 1 1 jf mM Z)<|wD 4 Z (yL 1 dm Z Z Z)<|wC 5 Z (aD bLr Z (Ct.quiet (λw hw=>GX))) ?_;rintro _ _⟨rfl,rfl⟩;refine⟨.inr hiZ,?_⟩;refine wD 6 Z (aN af Z)<|wD 7 Z (bX Z Z)<|wD 8 Z (Yl.f (dE Z Z))<|wD 9 Z (aK Z)<|wG 10 Z Z Z (yF 1 1 jf mM Z)<|wG 11 Z Z Z (yL 1 dm Z Z Z)<|wG 12 Z Z Z (aN dm Z)<|wG 13 Z Z Z (Yl.f (dE Z Z) cC)<|wD 14 Z (aO Z Z)<|wN<|aJ Z<|aI<|wq<|wg Z ?_;refine aA<|aQ [] 99 cC Z ?_;refine⟨_,Z,?_⟩;rfl
theorem wE {p0 p1 p2 p3:Int} {ke:AF} {ot kf:Nat} {a:AH} {io:AF} {mt iz:Nat} (ac:Rd w ap ar ao 1 (ints .u8 u)) (da:Rd w ke ot kf 1 (ints .u8 a)) (dr:Rd w io mt iz 1 (ints .u8 l)) (an:aP u) (d4:aP l) (ho:p2=0\/p2=1) (hN:u.length<=100000/\a.length<=1000/\l.length<=100000):
  CF 81 #[.agg #[I p0,I p1,I p2,I p3],sl ap ar ao,sl ke ot kf,sl io mt iz] w (λv R'=> ∃A c,v=sl A (bL (u.length:Nat)++(a++(bL ((bY l p2).length:Nat)++(fP (bv (iN u))++bY l p2)))).length c/\R'=[(ru 5 A ((bL (u.length:Nat)++(a++(bL ((bY l p2).length:Nat)++(fP (bv (iN u))++bY l p2)))).length) c (bL (u.length:Nat)++(a++(bL ((bY l p2).length:Nat)++(fP (bv (iN u))++bY l p2)))))]):=by
 obtain rfl:=ac.lenI;obtain rfl:=da.lenI;obtain rfl:=dr.lenI;refine fn1 Tryz.func81 Z Z Z ?_;have li:=ac.max;have i6:=da.max;have Nw:=dr.max;have Me:=nX (b:=l) (o:=p2) d4;have yi:=dV 2 (u.length:Int) G;have Vx:=dV 2 ((bY l p2).length:Int) G;have Qn:(fP (bv (iN u))).length=4:=rfl;refine wq<|wa (bO (sz:=4) Z Z) ?_;rintro _ _⟨am,rfl,rfl⟩;refine wn Z<|wq<|wm Z<|wy (yF 2 2 bi sz3 Z)<|wy (yL 0 ai Z Z Z)<|wa (aD bPb Z (Ct.fresh (λw hw=>aFc ((dr.c _) w hw) d4 ho G))) ?_;rintro _ _⟨_,rfl,fi,fj,rfl,rfl⟩;refine wm Z<|wX Z Z<|wX Z Z<|wg Z<|wn Z<|wq<|wm Z<|wy (aN af Z)<|wa (aD aXi Z (Ct.fresh (λw hw=>mW G))) ?_;rintro _ _⟨_,rfl,dy,jt,rfl,rfl⟩;refine wm Z<|wa (aS 0 Z af zb5 Z Z Z (da.c _)) ?_;rintro _ _⟨eh,bo,rfl,rfl⟩;refine bF (v:=sl eh (((bL (u.length:Int)).length)+a.length) bo) Z<|wn Z<|wq<|wm Z<|wm Z<|wy (aN af Z)<|wa (aD aXi Z (Ct.fresh (λw hw=>mW G))) ?_;rintro _ _⟨_,rfl,kl,ci,rfl,rfl⟩;refine wa (aS 1 Z af zb5 Z Z Z (rdr 0 Z)) ?_;rintro _ _⟨en,es,rfl,rfl⟩;refine bF (v:=sl en ((((bL (u.length:Int)).length)+a.length)+((bL (((bY l p2).length:Nat):Int)).length)) es) Z<|wm Z<|wa (aD bOz Z (Ct.quiet (λw hw=>bAw ((ac.c _) w hw) an))) ?_;rintro _ _⟨rfl,rfl⟩;refine wa (aD bPa Z (Ct.fresh (λw hw=>aNj ⟨by unfold bv;omega,by unfold bv;have:=(iN u).isLt;omega⟩))) ?_;rintro _ _⟨_,rfl,fz,th,rfl,rfl⟩;refine wa (aS 2 Z af zb5 Z Z Z (rdr 0 Z)) ?_;rintro _ _⟨b7,jn,rfl,rfl⟩;refine bF (v:=sl b7 (((((bL (u.length:Int)).length)+a.length)+((bL (((bY l p2).length:Nat):Int)).length))+4) jn) Z<|wn Z<|wq<|wm Z<|wm Z<|wa (aS 2 Z af zb5 Z Z Z (rdr 3 Z)) ?_;rintro _ _⟨yq,yr,rfl,rfl⟩;refine bF (v:=sl yq ((((((bL (u.length:Int)).length)+a.length)+((bL (((bY l p2).length:Nat):Int)).length))+4)+((bY l p2).length)) yr) Z<|wn Z<|aQ [2] 99 cC Z ?_;refine⟨_,Z,?_⟩;rw[show bL (u.length:Nat)++(a++(bL ((bY l p2).length:Nat)++(fP (bv (iN u))++bY l p2)))=(bL (u.length:Nat)++a++bL ((bY l p2).length:Nat)++fP (bv (iN u)))++bY l p2 by simp only[gy]];simp only[ah];exact⟨_,_,Z,Z⟩
theorem VE (ac:Rd w ap ar ao 1 (ints .u8 u)) (an:aP u) (hN:u.length<=100000) (hp:(0<=so/\so<=2)/\(od=0\/od=1)/\(1<=sz/\sz<=16777216)):
  CF 46 #[.agg #[I 0,I so,I od,I sz],sl ap ar ao] w (λv R'=> ∃A c,v=sl A (bZ 0 od u).length c/\R'=[(ru 5 A ((bZ 0 od u).length) c (bZ 0 od u))]):=by
 obtain rfl:=ac.lenI;refine fn1 Jt Z Z Z ?_;have li:=ac.max;refine wq<|wa (bO (sz:=4) Z Z) ?_;rintro _ _⟨am,rfl,rfl⟩;refine wn Z<|aC<|wq<|wy (yF 0 0 bi sz3 Z)<|wy (yL 0 ai Z Z Z)<|aA<|aH<|wq<|wQ Z Z<|wn Z<|aJ Z ?_;refine wq<|wQ Z Z<|wn Z<|aJ Z<|aI<|wq<|wy (cB (vs:=[I 0,I so,I od,I sz]) (rdr 0 Z) bi Z fD Z Z (au Z) Z)<|wm Z<|wm Z<|wa (aD bJe Z (Ct.fresh (λw hw=>wE ((ac.c _) w hw) ((VL _) w hw) ((ac.c _) w hw) an an hp.2.1 ⟨hN,cC,hN⟩))) ?_;rintro _ _⟨_,rfl,fi,fj,rfl,rfl⟩;refine wn Z<|aQ [0] 99 cC Z ?_;refine⟨_,Z,?_⟩
 have e:bZ 0 od u=bL (u.length:Nat)++([]++(bL ((bY u od).length:Nat)++(fP (bv (iN u))++bY u od))):=by
  unfold bZ;rw[KS (t:=0) (u:=u) cC cC]
 rw[e];exact⟨_,_,Z,Z⟩
theorem VD (ac:Rd w ap ar ao 1 (ints .u8 u)) (an:aP u) (hN:u.length<=100000) (hp:(0<=so/\so<=2)/\(od=0\/od=1)/\(1<=sz/\sz<=16777216)):
  CF 46 #[.agg #[I 1,I so,I od,I sz],sl ap ar ao] w (λv R'=> ∃A c,v=sl A (bZ 1 od u).length c/\R'=[(ru 5 A ((bZ 1 od u).length) c (bZ 1 od u))]):=by
 obtain rfl:=ac.lenI;refine fn1 Jt Z Z Z ?_;have li:=ac.max;refine wq<|wa (bO (sz:=4) Z Z) ?_;rintro _ _⟨am,rfl,rfl⟩;refine wn Z<|aC<|wq<|wy (yF 0 0 bi sz3 Z)<|wy (yL 0 ai Z Z Z)<|aA<|aH<|wq<|wR Z Z<|wn Z<|bE Z ?_;refine wq<|wm Z<|wa (aD bLo Z (Ct.fresh (λw hw=>ZC ((ac.c _) w hw) an hN))) ?_;rintro _ _⟨_,rfl,b1,fi,fj,rfl,cq,dj,rfl⟩;refine wm Z<|wX Z Z<|wX Z Z<|wg Z<|wn Z<|aC<|bI mixed<|wD 0 Z (cB (vs:=[I 1,I so,I od,I sz]) (rdr 1 Z) bi Z fD Z Z (au Z) Z)<|wD 1 Z (aK Z)<|wD 2 Z (aK Z)<|wD 4 Z (aK Z)<|wC 3 Z (aD aXi Z (Ct.fresh (λw hw=>mW (by have e1:=mO cq dj;have e2:=zK (s:=u) (k:=0) G;omega)))) ?_;rintro _ _⟨_,rfl,dy,jt,rfl,rfl⟩;refine⟨.inr hrZ,?_⟩;refine wC 5 Z (aD bJe Z (Ct.fresh (λw hw=>wE ((ac.c _) w hw) ((rdr 0 Z) w hw) ((rdr 1 Z) w hw) an (uL an cq) hp.2.1 ⟨hN,by have e1:=mO cq dj;have e2:=zK (s:=u) (k:=0) G;have:=dV 2 (zat b1) G;omega,by rw[(wH cq dj).length_eq];exact hN⟩))) ?_;rintro _ _⟨_,rfl,eh,bo,rfl,rfl⟩;refine⟨.inr hrZ,?_⟩;refine wD 6 Z (bC Z)<|wN<|aQ [0] 99 cC Z ?_;refine⟨_,Z,?_⟩
 have e:bZ 1 od u=bL (u.length:Nat)++(bL (zat b1)++(bL ((bY (ofL u b1) od).length:Nat)++(fP (bv (iN u))++bY (ofL u b1) od))):=by
  unfold bZ;rw[vO cq dj]
 rw[e];exact⟨_,_,Z,Z⟩
theorem VC (ac:Rd w ap ar ao 1 (ints .u8 u)) (an:aP u) (hN:u.length<=100000) (hp:(0<=so/\so<=2)/\(od=0\/od=1)/\(1<=sz/\sz<=16777216)):
  CF 46 #[.agg #[I 2,I so,I od,I sz],sl ap ar ao] w (λv R'=> ∃A c,v=sl A (bZ 2 od u).length c/\R'=[(ru 5 A ((bZ 2 od u).length) c (bZ 2 od u))]):=by
 obtain rfl:=ac.lenI;refine fn1 Jt Z Z Z ?_;have li:=ac.max;refine wq<|wa (bO (sz:=4) Z Z) ?_;rintro _ _⟨am,rfl,rfl⟩;refine wn Z<|aC<|wq<|wy (yF 0 0 bi sz3 Z)<|wy (yL 0 ai Z Z Z)<|aA<|aH<|wq<|wQ Z Z<|wn Z<|aJ Z ?_;refine wq<|wR Z Z<|wn Z<|bE Z<|aC<|bI mixed<|wD 0 Z (cB (vs:=[I 2,I so,I od,I sz]) (rdr 0 Z) bi Z fD Z Z (au Z) Z)<|wD 1 Z (aK Z)<|wD 2 Z (aK Z)<|wC 3 Z (aD bLn Z (Ct.fresh (λw hw=>QV ((ac.c _) w hw) an hN))) ?_;rintro _ _⟨_,rfl,l2,fi,fj,rfl,qs,ub,rfl⟩;refine⟨.inr hrZ,?_⟩;refine wC 4 Z (aD bJe Z (Ct.fresh (λw hw=>wE ((ac.c _) w hw) ((VL _) w hw) ((rdr 0 Z) w hw) an (kJ qs (by rw[lL];exact an)) hp.2.1 ⟨hN,cC,by rw[cu,yI qs];exact hN⟩))) ?_;rintro _ _⟨_,rfl,dy,jt,rfl,rfl⟩;refine⟨.inr hrZ,?_⟩;refine wD 5 Z (bC Z)<|wN<|aQ [0] 99 cC Z ?_;refine⟨_,Z,?_⟩
 have e:bZ 2 od u=bL (u.length:Nat)++([]++(bL ((bY (l2.map (lastB (bws u))) od).length:Nat)++(fP (bv (iN u))++bY (l2.map (lastB (bws u))) od))):=by
  unfold bZ;rw[vP qs ub]
 rw[e];exact⟨_,_,Z,Z⟩
theorem aNd (ac:Rd w ap ar ao 1 (ints .u8 u)) (an:aP u) (hN:u.length<=100000) (hp:(0<=so/\so<=2)/\(od=0\/od=1)/\(1<=sz/\sz<=16777216)) (hk:k=0\/k=1\/k=2):
  CF 46 #[.agg #[I k,I so,I od,I sz],sl ap ar ao] w (λv R'=> ∃A c,v=sl A (bZ k od u).length c/\R'=[(ru 5 A ((bZ k od u).length) c (bZ k od u))]):=by
 rcases hk with rfl|rfl|rfl
 ·exact VE ac an hN hp
 ·exact VD ac an hN hp
 ·exact VC ac an hN hp
theorem aSn (hm:m=l.length) (h:0<=sz):l.take (min sz (m:Int)).toNat=l.take sz.toNat:=by
 subst hm;rcases bn sz l.length with h1|h1
 ·rw[Ex G]
 ·rw[Int.min_eq_right h1,bg G,bg G]
theorem aYh {kr:Nat} (hm:m=u.length-kr*sz.toNat) (h:0<=sz):(u.drop (kr*sz.toNat)).drop (min sz (m:Int)).toNat=u.drop ((kr+1)*sz.toNat):=by
 subst hm;have e:(kr+1)*sz.toNat=kr*sz.toNat+sz.toNat:=by rw[yf,Aa]
 rw[Gg,e];rcases bn sz (u.length-kr*sz.toNat:Nat) with h1|h1
 ·rw[Ex G]
 ·rw[Int.min_eq_right h1,ou G,ou G]
theorem aTy (ac:Rd w ap ar ao 1 (ints .u8 u)) (mn: ¬((0<=k/\k<=3)/\(0<=so/\so<=2)/\(od=0\/od=1)/\(1<=sz/\sz<=16777216))) (h3:k≠3):
  CF 17 #[.agg #[sl ap u.length ao,sl none 0 0], .agg #[I k,I so,I od,I sz]] w (λv R'=>v= .tuple #[sl none 0 0,I 1]):=by
 obtain rfl:=ac.lenI;refine fn2 Tryz.func17 Z Z Z ?_;have li:=ac.max;refine wq<|wa (bO (sz:=2) Z Z) ?_;rintro _ _⟨am,rfl,rfl⟩;refine wa (bO (sz:=4) Z Z) ?_;rintro _ _⟨du,rfl,rfl⟩;refine wg Z<|wn Z<|wq<|wy (cB (vs:=[sl ap u.length ao,sl none 0 0]) (rdr 1 Z) jf Z zG Z Z (au Z) Z)<|wy (cB (vs:=[I k,I so,I od,I sz]) (rdr 0 Z) bi Z fD Z Z (au Z) Z)<|wa (aD bLs Z (Ct.quiet (λw hw=>aTs ((ac.c _) w hw) mn h3))) ?_;rintro _ _⟨rfl,rfl⟩;refine wn Z<|aC<|wq<|wm Z<|wy (Yl.t (fE Z Z) cC)<|aA<|bE Z<|wq<|wm Z<|wg Z<|wn Z ?_;refine aQ [] 99 cC Z ?_;refine⟨_,_,Z,Z,?_⟩;rfl
theorem aTx (ac:Rd w ap ar ao 1 (ints .u8 u)) (an:aP u) (hS:u.length<=400) (hp:(0<=so/\so<=2)/\(od=0\/od=1)/\(1<=sz/\sz<=16777216)) (hk:k=0\/k=1\/k=2):
  CF 17 #[.agg #[sl ap u.length ao,sl none 0 0], .agg #[I k,I so,I od,I sz]] w (λv R'=> ∃A c,v= .tuple #[sl A (jZ k so od sz u).length c,I 0]/\R'=[(ru 5 A ((jZ k so od sz u).length) c (jZ k so od sz u))]):=by
 obtain rfl:=ac.lenI;refine fn2 Tryz.func17 Z Z Z ?_;have li:=ac.max;have hN:u.length<=100000:=G
 have hpz:=dV 4 sz G;have hpu:=dV 2 (u.length:Int) G;refine wq<|wa (bO (sz:=2) Z Z) ?_;rintro _ _⟨am,rfl,rfl⟩;refine wa (bO (sz:=4) Z Z) ?_;rintro _ _⟨bx,rfl,rfl⟩;refine wg Z<|wn Z<|wq<|wy (cB (vs:=[sl ap u.length ao,sl none 0 0]) (rdr 1 Z) jf Z zG Z Z (au Z) Z)<|wy (cB (vs:=[I k,I so,I od,I sz]) (rdr 0 Z) bi Z fD Z Z (au Z) Z)<|wa (aD bLs Z (Ct.quiet (λw hw=>aTr ((ac.c _) w hw) hp hk G))) ?_;rintro _ _⟨rfl,rfl⟩;refine wn Z<|aC<|wq<|wm Z<|wy (Yl.f (fE Z Z) cC)<|aA<|aJ Z<|aI<|wq<|wa (bH .u8 [87,72,82,76,1] af zs5 Z Z Z) ?_;rintro _ _⟨fb,rfl,rfl⟩;refine wa (aIo 0 Z Z af ay Z Z) ?_;rintro _ _⟨rfl,rfl⟩;refine wy (yF 0 0 bi sz3 Z)<|wy (yL 1 ai Z Z Z)<|wy (eQ ai ay Z)<|wy (yF 1 1 bi sz3 Z)<|wy (yL 1 ai Z Z Z)<|wy (eQ ai ay Z)<|wy (yF 2 2 bi sz3 Z)<|wy (yL 1 ai Z Z Z)<|wy (eQ ai ay Z)<|wa (bH .u8 [k%256,so%256,od%256] af zs5 Z Z Z) ?_;rintro _ _⟨ki,rfl,rfl⟩;refine wa (IM af zb5 Z (rdr 1 Z) Z (rdr 0 Z) (by first|decide|(dsimp only;decide)) (by first|decide|(dsimp only;decide)) (by first|decide|(dsimp only;decide)) (by first|decide|(dsimp only;decide)) (by first|decide|(dsimp only;decide)) Z) ?_;rintro _ _⟨kp,dv,rfl,rfl⟩;refine bF (v:=sl (GG kp) 8 dv) Z<|wn Z<|wq<|wm Z<|wy (yF 3 3 bi sz3 Z)<|wy (yL 3 ai Z Z Z)<|wa (aD aXi Z (Ct.fresh (λw hw=>mW G))) ?_;rintro _ _⟨_,rfl,eh,bo,rfl,rfl⟩;refine wa (aS 1 Z af zb5 Z Z Z (rdr 0 Z) (by dsimp only;omega)) ?_;rintro _ _⟨ln,co,rfl,rfl⟩;refine bF (v:=sl ln (8+((bL sz).length)) co) Z<|wn Z<|aC<|bI mixed<|wD 0 Z (yF 0 0 jf dA Z)<|wD 1 Z (yL 5 af Z Z Z)<|wD 2 Z (aN af Z)<|wD 3 Z (yF 1 1 jf mM Z)<|wD 4 Z (yL 5 dm Z Z Z)<|wC 5 Z (aD bLr Z (Ct.quiet (λw hw=>GX))) ?_;rintro _ _⟨rfl,rfl⟩;refine⟨.inr hiZ,?_⟩;refine wD 6 Z (aN af Z)<|wD 7 Z (Yl.is (bX Z Z) (bq (Value.int .i64) (yl _)))<|wD 8 Z (bC Z)<|wN<|aC<|wq<|wy (yF 1 1 jf mM Z)<|wy (yL 5 dm Z Z Z)<|wy (aN dm Z)<|wy (Yl.f (dE Z Z) cC)<|aA<|aJ Z<|aI<|aC ?_;refine wq<|wy (yF 0 0 jf dA Z)<|wy (yL 5 af Z Z Z)<|wn Z<|aH ?_;refine uA (λ(kr:Nat) (A0:AF) (n0:Nat) (c0:Nat) (A1:AF) (n1:Nat) (c1:Nat) (acc:AH)=>[(3,PG bx),(7,sl A1 n1 c1),(8,I (u.length:Int)),(9,sl A0 n0 c0)]) (λkr A0 n0 c0 A1 n1 c1 acc=>[(ru 5 eh ((bL sz).length) bo (bL sz)),(ru 5 A1 n1 c1 acc),(ru 5 (GG ki) 3 3 ([k%256,so%256,od%256])),⟨5,1,(GG fb),5,5,ints .u8 ([87,72,82,76,1]),true⟩,(rc 27 4 bx [I k,I so,I od,I sz]),(rc 25 2 am [sl ap u.length ao,sl none 0 0])]) (λkr A0 n0 c0 A1 n1 c1 acc=>(kr<=chN u.length sz.toNat)/\(Rd w A0 n0 c0 1 (ints .u8 (u.drop (kr*sz.toNat))))/\(n1=acc.length)/\(acc=(([87,72,82,76,1]++[k%256,so%256,od%256])++bL sz)++kS k od sz.toNat u kr)) (λkr A0 n0 c0 A1 n1 c1 acc=>n0) ?_ ?_
 ·exact⟨0,ap,u.length,ao,ln,8+((bL sz).length),co,(([87,72,82,76,1])++([k%256,so%256,od%256]))++(bL sz),⟨(qp _),(by rw[Dr,Di];exact ac),(by rw[ah];rfl),(by rw[uT,jk])⟩,KP⟩
 intro kr A0 n0 c0 A1 n1 c1 acc ⟨Ni,jj,cv,ba⟩;have Ma:=jj.lenI;rw[az] at Ma;have Qf:kr<=400:=by have e2:chN u.length sz.toNat<=u.length:=WW G;omega
 have qk:=bq List.length ba;rw[ah,ah,ah] at qk;have j6:=kM (t:=k) (o:=od) (n:=sz.toNat) an hN kr;have Vk:(2*u.length+22)*kr<=822*400:=Dq G Qf;have Eq:=zY (t:=k) (o:=od) (b:=(u.drop (kr*sz.toNat)).take (min sz (n0:Int)).toNat) ((an.drop _).take _) (by rw[ax,az];omega);have Xz:((u.drop (kr*sz.toNat)).take (min sz (n0:Int)).toNat).length<=u.length:=by rw[ax,az];omega
 have h8:([87,72,82,76,1]:AH).length=5:=rfl;have h9:([k%256,so%256,od%256]:AH).length=3:=rfl;refine aC<|wq<|wm Z<|wy (aN af Z)<|wy (dE Z Z)<|aA<|bA Z (λaq=> ?_) (λaq=> ?_)
 ·have Lz:kr+1<=chN u.length sz.toNat:=(OQ G).2 G;refine aI<|aH<|wq<|wy (yF 3 3 bi sz3 Z)<|wy (yL 4 ai Z Z Z)<|wm Z<|wy (aN af Z)<|wy (sJ Z Z)<|wn Z<|aC<|bI mixed<|wD 0 Z (aK Z)<|wD 1 Z (cB (vs:=[I k,I so,I od,I sz]) (rdr 4 Z) bi Z fD Z Z (au Z) Z) ?_;refine wD 2 Z (aK Z)<|wD 3 Z (aK Z)<|wD 4 Z (dQ af sz5 Z Z (jj.c _))<|wC 5 Z (aD bRc Z (Ct.fresh (λw hw=>aNd (u:=((u.drop (kr*sz.toNat))).take (min sz (n0:Int)).toNat) ((RdC.toI (h:=(min sz (n0:Int)).toNat) (jj.c _) G) w hw) ((an.drop _).take _) G hp hk))) ?_;rintro _ _⟨_,rfl,en,es,rfl,rfl⟩;refine⟨.inr hrZ,?_⟩;refine wC 6 Z (aS 2 Z af zb5 Z Z Z (rdr 0 Z)) ?_;rintro _ _⟨fz,th,rfl,rfl⟩;refine⟨.inl cA,?_⟩;refine iF (v:=sl fz (n1+((bZ k od (((u.drop (kr*sz.toNat))).take (min sz (n0:Int)).toNat)).length)) th) Z<|wD 7 Z (bC Z)<|wN<|aL<|wm Z<|wm Z<|wy (dK af sz5 Z Z)<|wn Z ?_
  exact⟨(kr+1),jE A0 (min sz (n0:Int)).toNat c0 1,n0-(min sz (n0:Int)).toNat,c0-(min sz (n0:Int)).toNat,fz,n1+((bZ k od (((u.drop (kr*sz.toNat))).take (min sz (n0:Int)).toNat)).length),th,acc++(bZ k od (((u.drop (kr*sz.toNat))).take (min sz (n0:Int)).toNat)),⟨(Lz),(by
    have h:=jj.fromI (l:=(min sz (n0:Int)).toNat) G;rw[aYh Ma G] at h
    exact h),(by rw[ah,cv]),(by rw[uU,<-gy,<-ba,aSn (by rw[az];exact Ma) G])⟩,G,SA,λ_ h=>h.sel [1,2,3,4,5,6] cC Z⟩
 ·refine aU<|wq<|wm Z<|wa (bH .u8 [0] af zs5 Z Z Z) ?_;rintro _ _⟨xa,rfl,rfl⟩;refine wa (aS 2 Z af zb5 Z Z Z (rdr 0 Z)) ?_;rintro _ _⟨ur,uv,rfl,rfl⟩;refine bF (v:=sl ur (n1+1) uv) Z<|wm Z<|wa (aD aXi Z (Ct.fresh (λw hw=>mW G))) ?_;rintro _ _⟨_,rfl,gv,gw,rfl,rfl⟩;refine wa (aS 3 Z af zb5 Z Z Z (rdr 0 Z)) ?_;rintro _ _⟨La,Le,rfl,rfl⟩;refine bF (v:=sl La ((n1+1)+((bL (u.length:Int)).length)) Le) Z<|wg Z<|wn Z<|aQ [3] 99 cC Z ?_;refine⟨_,_,Z,Z,?_⟩;have wt:n0=0:=G
  have Vo: ¬kr<chN u.length sz.toNat:=λh=>by have:=(OQ G).1 h;omega
  obtain rfl:kr=chN u.length sz.toNat:=G
  have e:acc++[0]++bL (u.length:Int)=jZ k so od sz u:=by
   rw[ba,pz (a:=k) G G,pz (a:=so) G G,pz (a:=od) G G];unfold jZ;rw[show bL 0=[0] from rfl];simp[chN,chK]
  have e2:(n1+1)+(bL (u.length:Int)).length=(jZ k so od sz u).length:=by rw[<-e,ah,ah,cv];rfl
  rw[e,e2];exact⟨_,_,Z,Z⟩
end Go.Proofs.YtdbebmmhdefgdaaGreat
namespace Go.Eng
open Go Go.RowKit Go.Pure
variable {B e m c k:Nat} {w0 w:World} {R:List Row} {A:AF} {l:AE}
theorem Hp.shrinkP (h:Hp B w0 w (⟨e,2,A,m,c,prs l,false⟩::R)) (hk:k<m):Hp B w0 w (⟨e,2,A,k,c,prs (l.take k),false⟩::R):=by
 have hA:A≠none:=by
  rintro rfl;have h1:=Row.lies_w (h.own _ (.head _)) rfl;rcases h1.2 with⟨_,hn⟩|⟨g,cap,cur,hv,_⟩
  ·simp only at hn;omega
  ·simp at hv
 have:=h.cut (k:=k) G hA;rwa[aAc] at this
theorem Hp.dropLast {x:Int × Int} (h:Hp B w0 w (⟨e,2,A,m,c,prs (l++[x]),false⟩::R)) (hm:m=l.length+1):Hp B w0 w (⟨e,2,A,l.length,c,prs l,false⟩::R):=by
 have:=h.shrinkP (k:=l.length) G;rwa[zl] at this
theorem mZ (l:AE) (m:Int × Int):rdp (l++[m]) (l.length:Int)=m:=by
 unfold rdp;rw[cz,ak,ig (di _),zh];rfl
theorem vF {P:Program} {n:Nd} {L:Env} {ty:TypeId} {x:Operand} {t tf:TypeId} {fs:Array Field} {st off:Nat} {i:Int} (hu:P.underlying t=some (.struct fs)) (hf:(fs[k]?).map (λf=>(f.offset,f.type))=some (off,tf)) (gs:(P.info? tf).map (·.size)=some st) (w8:Nat.blt 0 st=true)
  (hx:ev L x=some (.pointer (pat A (i.toNat*2)))) (hr:RdC B w0 R A m c 2 (prs l)) (h0:0<=i) (h1:i<l.length):Yl P n B w0 (.fieldAddr t x k) ty L R (.pointer (pat A (i.toNat*2+off))):=by
 obtain⟨f,Sv,he⟩:=il.1 hf;simp only[yt] at he;obtain⟨rfl,rfl⟩:=he;intro a w o ho k9 hs hp;obtain⟨a0,rfl,_⟩:=(hr w hp).at_ _ _ (aJz h0 h1);have:=vG (P:=P) (n:=n) (B:=B) (w0:=w0) (R:=R) (ty:=ty) hu Sv gs w8 (show ev L x=some (.pointer (some (a0.add (i.toNat*2)))) from hx) a w o ho k9 hs hp;rw[add_add] at this;exact this
variable {B e m c:Nat} {w0 w:World} {R T:List Row} {A:AF} {l s:AH} {vals:AG} {ls:AD}
theorem Hp.dropV {xs:AG} {x:Value} (h:Hp B w0 w (⟨e,1,A,m,c,xs++[x],false⟩::R)) (hm:m=xs.length+1):Hp B w0 w (⟨e,1,A,xs.length,c,xs,false⟩::R):=by
 have hA:A≠none:=by
  rintro rfl;have h1:=Row.lies_w (h.own _ (.head _)) rfl;rcases h1.2 with⟨_,hn⟩|⟨g,cap,cur,hv,_⟩
  ·simp only at hn;omega
  ·simp at hv
 have:=h.cut (k:=xs.length) G hA;rwa[qy,zl] at this
theorem Hp.dropI {k:IntKind} {x:Int} (h:Hp B w0 w (⟨e,1,A,m,c,ints k (l++[x]),false⟩::R)) (hm:m=l.length+1):Hp B w0 w (⟨e,1,A,l.length,c,ints k l,false⟩::R):=by
 rw[pF] at h;have:=Hp.dropV (x:= .int k x) h (by simpa [ints] using hm);simpa [ints] using this
theorem ZU (l:AH) (x:Int):rd (l++[x]) (l.length:Int)=x:=by
 unfold rd;rw[cz,ak,ig (di _),zh];rfl
theorem aMh (vs:AG) (v:Value):(vs++[v])[vs.length]? =some v:=by
 rw[ig (di _),zh];rfl
def RdT (T:List Row) (A:AF) (m c:Nat) (s:AH):Prop:= ∀(B:Nat) (w0 w:World),Hp B w0 w T->Rd w A m c 1 (ints .u8 s)
theorem RdT.right (h:RdT T A m c s) (X:List Row):RdT (X++T) A m c s:=λB w0 w hw=>h B w0 w hw.right
theorem RdT.head {ro:Bool}:RdT (⟨e,1,A,m,c,ints .u8 s,ro⟩::T) A m c s:=λB w0 w hw=>Row.rd (hw.own _ (.head _))
theorem RdT.none (T:List Row):RdT T none 0 0 []:=λB w0 w _=>⟨rfl,G,G,λj v hv=>by simp[ints] at hv⟩
theorem RdT.rdc (h:RdT T A m c s) (B:Nat) (w0:World):RdC B w0 T A m c 1 (ints .u8 s):=λw hw=>h B w0 w hw
theorem SlR.len {k:IntKind} (h:SlR k T vals ls):vals.length=ls.length:=h.1
theorem SlR.pop (h:SlR .u8 T vals (ls++[l])): ∃(v0:AG) (A:AF) (c:Nat),vals=v0++[.slice A l.length c]/\SlR .u8 T v0 ls/\RdT T A l.length c l:=by
 have hl:vals.length=ls.length+1:=by rw[h.1,ah];rfl
 obtain⟨A,c,hv,hr⟩:=h.2 ls.length (by rw[ah];exact Nat.lt_succ_self _);have e:(ls++[l]).getD ls.length []=l:=by rw[ak,ig (di _),zh];rfl
 rw[e] at hv hr;refine⟨vals.take ls.length,A,c,?_,?_,hr⟩
 ·have h2:=gu ls.length vals
  have h3:vals.drop ls.length=[.slice A l.length c]:=by
   obtain⟨bc,he⟩:=dw.1 hv;rw[kv bc,he,ou G]
  rw[h3] at h2;exact h2.symm
 ·have:=h.take ls.length;rwa[zl] at this
theorem Ct.conv {P:Program} {f:FuncId} {args:Array Value} {Post b9:Value->List Row->Prop} (h:Ct P f args B w0 R Post) (hp: ∀v R',Post v R'-> ∃rn,(∀w,Hp B w0 w R'->Hp B w0 w rn)/\b9 v rn):Ct P f args B w0 R b9:=
 λw hw=>(h w hw).mono λ_ _ ⟨v,_,he,hh,hv⟩=>let ⟨rn,h1,h2⟩:=hp _ _ hv;⟨v,rn,he,h1 _ hh,h2⟩
theorem Hp.sink {a b c o:Row} {X:List Row} (h:Hp B w0 w (a::b::c::o::(X++T))):Hp B w0 w (a::b::c::(X++([o]++T))):=h.perm (((List.perm_middle.symm.cons c).cons b).cons a)
end Go.Eng
namespace Go.Eng
open Go Go.RowKit
section
variable {P:Program} {ops:Array Oper} {Q:Exit->Act->World->Prop}
def bFr (ops:Array Oper) (ab:AI) (i:Nat) (S S':Nat->World->Prop):Prop:=
 ∀k,ab.getD k false=true->anc ops ops.size i k=true\/((ops[k]?).map (WJ ·.op)).getD false=true\/ ∀x,S' k x->S k x
def KH (P:Program) (ops:Array Oper) (Q:Exit->Act->World->Prop):Nat->(Nat->World->Prop)->AI->Act->World->Prop
 |0,_,ab,a,w=>Region.ready .any ops ab=[]/\Q .normal a w
 |al+1,S,ab,a,w=>(Region.ready .any ops ab=[]->Q .normal a w)/\
  ∀i∈Region.ready .any ops ab,wpOp P ops Q i (λa' w'=> ∃S':Nat->World->Prop,(∀k,S' k w')/\bFr ops ab i S S'/\KH P ops Q al S' (ab.setIfInBounds i true) a' w') a w
theorem KG: ∀(al:Nat) (S:Nat->World->Prop) (ab:AI) (a:Act) (w:World),KH P ops Q al S ab a w->wpAny P .any ops Q al ab a w
 |0,_,_,_,_,h=>h
 |al+1,_,_,_,_,h=>⟨h.1,λi hi=>wpOp_mono (λa' w' ⟨S',_,_,h'⟩=>KG al S' _ a' w' h') (h.2 i hi)⟩
theorem tX {i:Nat} {oi:Oper} {v:Value} (hi:ops[i]? =some oi) (Hx: ∀(j:Nat) (o:Oper) cs b,ops[j]? =some o->o.op≠ .select cs b)
  (hQ: ∀c a w,Q (.panic c) (a.put oi.dst v) w->Q (.panic c) a w):
  ∀(al:Nat) (S:Nat->World->Prop) (ab:AI) (a:Act) (w:World),
   rQ ops ab=true->(∀j oj,ops[j]? =some oj->j≠i->ab.getD j true=false->(∀e∈oj.after,Region.binds .any e=true->e.on≠i)->oi.apart ops oj=true)->
   i∈Region.ready .any ops ab->YieldsIf P ops (S i) oi v a->(∀k,S k w)->
   KH P ops Q al S (ab.setIfInBounds i true) (a.put oi.dst v) w->KH P ops Q (al+1) S ab a w:=by
 intro al
 induction al with
 | zero=>
  intro S ab a w _ _ hr hy hS H;refine⟨λh=>(by rw[h] at hr;cases hr),λj hj=> ?_⟩;by_cases wi:j=i
  ·subst wi;exact hy.wpOp hi (hS _) ⟨S,hS,λ_ _=> .inr (.inr λ_ h=>h),H⟩
  ·have:=Gu hj wi;rw[H.1] at this;cases this
 | succ al ih=>
  intro S ab a w mj f8 hr hy hS H;refine⟨λh=>(by rw[h] at hr;cases hr),λj hj=> ?_⟩;by_cases wi:j=i
  ·subst wi;exact hy.wpOp hi (hS _) ⟨S,hS,λ_ _=> .inr (.inr λ_ h=>h),H⟩
  ·have h1:=H.2 j (Gu hj wi);obtain⟨Fo,oj,k7,ju⟩:=Eg.1 hj
   have tx:i<ab.size:=by
    have h0:=(Eg.1 hr).1;rcases fo i ab.size with h'|h'
    ·exact h'
    ·simp[zf h'] at h0
   have s5: ∀e∈oj.after,Region.binds .any e=true->e.on≠i:=λe he hb j8=>by
    have h1:=ju e he hb;have h0:=(Eg.1 hr).1;rw[j8] at h1;simp[tx] at h0 h1;rw[h0] at h1;cases h1
   have h2:=wpOp_putIf k7 (f8 j oj k7 wi Fo s5) (λcs b=>Hx i oi cs b hi) (λcs b=>Hx j oj cs b k7) hQ hy h1
   have k4: ∀k ok,ops[k]? =some ok->k≠i->(ab.setIfInBounds j true).getD k true=false->
     (∀e∈ok.after,Region.binds .any e=true->e.on≠i)->oi.apart ops ok=true:=λk ok hk Qg i4 mn=>by
    refine f8 k ok hk Qg ?_ mn;by_cases Ta:j=k
    ·subst Ta;exact Fo
    ·rw[getD_set_ne true Ta] at i4;exact i4
   refine wpOp_mono (λa' w' ⟨Qt,S',Sb,hk,hB⟩=> ?_) h2
   have i4:ab.getD i false=false:=by
    have h0:=(Eg.1 hr).1;simp[tx] at h0 ⊢;exact h0
   have e1:(ab.setIfInBounds i true).getD i false=true:=by simp[tx]
   have hyi:YieldsIf P ops (S' i) oi v a':=by
    rcases hk i e1 with ha|hm|hs
    ·have:=zZ mj _ j i oj k7 ju ha;rw[i4] at this;cases this
    ·rw [hi] at hm;exact Qt.imp (λ⟨hw,hv⟩=>⟨hw,λMs _=>aKp hm _ _ _ (hv w (hS i)) Ms⟩) id
    ·exact YieldsIf.shrink Qt hs
   refine⟨S',Sb,λk hl=>hk k ?_,ih S' (ab.setIfInBounds j true) a' w' (IJ mj k7 ju) k4 (Gu hr (Fx wi)) hyi Sb ?_⟩
   ·by_cases e:i=k
    ·subst e;rw[i4] at hl;cases hl
    ·simp only[xm,yz,e,xk] at hl ⊢;exact hl
   ·rw [Array.setIfInBounds_comm _ _ wi];exact hB
end
section
variable {σ:Type} {P:Program} {n:Nd} {B:Nat} {w0:World} {ops:Array Oper} {K:Env->List Row->Prop} {L:Env} {R:List Row} {op:Op} {ty:TypeId} {pos:String} {nc:Array Edge} {F:Nat->Bool} {Rx:σ->List Row}
def SF (B:Nat) (w0:World) (F:Nat->Bool) (Rx:σ->List Row) (R:List Row) (k:Nat) (w:World):Prop:=bif F k then∃x,Hp B w0 w (Rx x) else Hp B w0 w R
theorem SF.all {w:World} (h:Hp B w0 w R) (hx: ∀w,Hp B w0 w R-> ∃x,Hp B w0 w (Rx x)) (k:Nat):SF B w0 F Rx R k w:=by
 unfold SF;cases F k with
 |true=>exact hx w h
 |false=>exact h
def WDg (P:Program) (n:Nd) (B:Nat) (w0:World) (ops:Array Oper) (K:Env->List Row->Prop) (F:Nat->Bool) (Rx:σ->List Row) (al:Nat) (ab:AI) (L:Env) (R:List Row):Prop:=
 ∀a w (Q:Exit->Act->World->Prop),Sat n L a->Hp B w0 w R->(∀w,Hp B w0 w R-> ∃x,Hp B w0 w (Rx x))->(∀c a w,¬Q (.panic c) a w)->(∀a' w' L' R',Sat n L' a'->Hp B w0 w' R'->K L' R'->Q .normal a' w')->KH P ops Q al (SF B w0 F Rx R) ab a w
theorem aEj {id:Nat} {l:List Oper} {Q:fC} (F:Nat->Bool) (Rx:σ->List Row) (hx: ∀w,Hp B w0 w R-> ∃x,Hp B w0 w (Rx x)) (hm:P.follows .mixedOrders=true) (h:WDg P n B w0 l.toArray Q.nrm F Rx l.toArray.size (Array.replicate l.toArray.size false) L R) (hd:yT n.rd l=true:=by exact rfl):W P n B w0 (.region id l.toArray true) Q L R:=by
 intro a w hs hp;refine Jn hm (TZ XK hd _ _ _ _<|KG _ _ _ _ _ (h a _ _ hs (hp.drawn _ (Eu _)) hx (λ_ _ _ h=>h) λ_ _ L' R' ee cm hk=>⟨L',R',ee,cm,hk⟩))
theorem jO {d:Nat} {v:Value} {al:Nat} {ab:AI} (i:Nat) (hi:ops[i]? =some {dst:=some d,op:=op,type:=ty,pos:=pos,after:=nc,guard:=none}) (hc:chk ops ab i=true) (hn:Nat.blt d n=true) (hF:F i=false)
  (hy:Yl P n B w0 op ty L R v) (h:WDg P n B w0 ops K F Rx al (ab.setIfInBounds i true) ((d,v)::L) R):WDg P n B w0 ops K F Rx (al+1) ab L R:=by
 intro a w Q hs hp hx ft hq;simp only[chk,pu] at hc;obtain⟨⟨⟨h1,h2⟩,h3⟩,h4⟩:=hc;refine tX hi (Ae h1) (λc a w hh=>(ft c _ w hh).elim) al _ ab a w h4 (Bw hi h2) (by simpa using h3) (.inl ⟨rfl,λw hw=>hy a w _ rfl rfl hs (by unfold SF at hw;rw[hF] at hw;exact hw)⟩) (SF.all hp hx) ?_;exact h _ w Q (hs.put hn v) hp hx ft hq
theorem XQ {d:Nat} {v:Value} {al:Nat} {ab:AI} (i:Nat) (hi:ops[i]? =some {dst:=some d,op:=op,type:=ty,pos:=pos,after:=nc,guard:=none}) (hc:chk ops ab i=true) (hn:Nat.blt d n=true) (hF:F i=true)
  (hy: ∀x,Yl P n B w0 op ty L (Rx x) v) (h:WDg P n B w0 ops K F Rx al (ab.setIfInBounds i true) ((d,v)::L) R):WDg P n B w0 ops K F Rx (al+1) ab L R:=by
 intro a w Q hs hp hx ft hq;simp only[chk,pu] at hc;obtain⟨⟨⟨h1,h2⟩,h3⟩,h4⟩:=hc;refine tX hi (Ae h1) (λc a w hh=>(ft c _ w hh).elim) al _ ab a w h4 (Bw hi h2) (by simpa using h3) (.inl ⟨rfl,λw hw=>by unfold SF at hw;rw[hF] at hw;obtain⟨x,hw⟩:=hw;exact hy x a w _ rfl rfl hs hw⟩) (SF.all hp hx) ?_;exact h _ w Q (hs.put hn v) hp hx ft hq
def aRf (ops:Array Oper) (F:Nat->Bool) (ab:AI) (i:Nat):Bool:=
 (List.range ops.size).all λk=> !ab.getD k false||F k||anc ops ops.size i k||((ops[k]?).map (WJ ·.op)).getD false
theorem GL {ab:AI} {i:Nat} {S S':Nat->World->Prop} (hb:aRf ops F ab i=true) (hl:ab.size<=ops.size) (h: ∀k,F k=true-> ∀x,S' k x->S k x):bFr ops ab i S S':=by
 intro k hk
 have bc:k<ops.size:=by
  rcases fo k ab.size with h'|h'
  ·omega
  ·simp[zf h'] at hk
 have:=xe.1 hb k (jq.2 bc);rw[hk] at this;simp only[Cf,Eh,zu] at this;rcases this with(h1|h1)|h1
 ·exact .inr (.inr (h k h1))
 ·exact .inl h1
 ·exact .inr (.inl h1)
theorem bQa {Post:Value->List Row->Prop} {al:Nat} {ab:AI} (i:Nat) (hi:ops[i]? =some {dst:=none,op:=op,type:=ty,pos:=pos,after:=nc,guard:=none}) (hr:Region.ready .any ops ab=[i]) (hb:aRf ops F ab i=true) (hl:ab.size<=ops.size) (ha:Ac P n B w0 op ty L R Post)
  (h: ∀v R',Post v R'->(∀w,Hp B w0 w R'-> ∃x,Hp B w0 w (Rx x))/\WDg P n B w0 ops K F Rx al (ab.setIfInBounds i true) L R'):WDg P n B w0 ops K F Rx (al+1) ab L R:=by
 intro a w Q hs hp hx ft hq;refine⟨λh0=>absurd (hr▸h0) cD,λk hk=> ?_⟩;rw[hr] at hk;obtain rfl:=ib.1 hk;unfold wpOp;simp only[hi];rw[df (by simp[Region.wanted])];refine .inl (ha a w _ _ Q rfl rfl hs hp λv w' R' cm hv=> ?_);obtain⟨h1,h2⟩:=h v R' hv;refine⟨SF B w0 F Rx R',SF.all cm h1,GL hb hl λk hF x hx=> ?_,h2 _ w' Q hs cm h1 ft hq⟩;unfold SF at hx ⊢;rw[hF] at hx ⊢;exact hx
theorem bKy {Post:Value->List Row->Prop} {al:Nat} {ab:AI} (i:Nat) (hi:ops[i]? =some {dst:=none,op:=op,type:=ty,pos:=pos,after:=nc,guard:=none}) (hr:Region.ready .any ops ab=[i]) (hb:aRf ops (λ_=>false) ab i=true) (hl:ab.size<=ops.size) (ha:Ac P n B w0 op ty L R Post)
  (h: ∀v R',Post v R'->WDg P n B w0 ops K (λ_=>false) (λ_:Unit=>R') al (ab.setIfInBounds i true) L R'):WDg P n B w0 ops K F Rx (al+1) ab L R:=by
 intro a w Q hs hp hx ft hq;refine⟨λh0=>absurd (hr▸h0) cD,λk hk=> ?_⟩;rw[hr] at hk;obtain rfl:=ib.1 hk;unfold wpOp;simp only[hi];rw[df (by simp[Region.wanted])];refine .inl (ha a w _ _ Q rfl rfl hs hp λv w' R' cm hv=> ?_);exact⟨SF B w0 (λ_=>false) (λ_:Unit=>R') R',SF.all cm (λ_ h=>⟨(),h⟩),GL hb hl λ_ hF=>(by cases hF),h v R' hv _ w' Q hs cm (λ_ h=>⟨(),h⟩) ft hq⟩
theorem aEg {al:Nat} {ab:AI} (hr:Region.ready .any ops ab=[]) (h:K L R):WDg P n B w0 ops K F Rx al ab L R:=by
 intro a w Q hs hp _ ft hq;cases al with
 |zero=>exact⟨hr,hq _ _ L R hs hp h⟩
 |succ al=>exact⟨λ_=>hq _ _ L R hs hp h,by rw[hr];simp⟩
theorem bAm {d:Nat} {v:Value} {o:Oper} {al:Nat} {ab:AI} {i:Nat} (hi:ops[i]? =some o) (hd:o.dst=some d) (hc:chk ops ab i=true) (hn:Nat.blt d n=true) (hF:F i=false)
  (hy: ∀a,Sat n L a->YieldsIf P ops (λw=>Hp B w0 w R) o v a) (h:WDg P n B w0 ops K F Rx al (ab.setIfInBounds i true) ((d,v)::L) R):WDg P n B w0 ops K F Rx (al+1) ab L R:=by
 intro a w Q hs hp hx ft hq;simp only[chk,pu] at hc;obtain⟨⟨⟨h1,h2⟩,h3⟩,h4⟩:=hc;refine tX hi (Ae h1) (λc a w hh=>(ft c _ w hh).elim) al _ ab a w h4 (Bw hi h2) (by simpa using h3) (YieldsIf.shrink (hy a hs) λw hw=>by unfold SF at hw;rw[hF] at hw;exact hw) (SF.all hp hx) ?_;rw[hd];exact h _ w Q (hs.put hn v) hp hx ft hq
theorem mQ {d j e:Nat} {want:Bool} {v:Value} {al:Nat} {ab:AI} (i:Nat) (hi:ops[i]? =some {dst:=some d,op:=op,type:=ty,pos:=pos,after:=nc,guard:=some (j,want)}) (hc:chk ops ab i=true) (hn:Nat.blt d n=true) (hF:F i=false)
  (hj:(ops[j]?).bind (·.dst)=some e) (hb:lk L e=some (.bool want)) (hy:Yl P n B w0 op ty L R v) (h:WDg P n B w0 ops K F Rx al (ab.setIfInBounds i true) ((d,v)::L) R):WDg P n B w0 ops K F Rx (al+1) ab L R:=
 bAm hi rfl hc hn hF (λa hs=> .inl ⟨by simp[Region.wanted,lT hs hj hb],λw hw=>hy a w _ rfl rfl hs hw⟩) h
theorem aRw {d:Nat} {o:Oper} {Post:Value->List Row->Prop} {al:Nat} {ab:AI} {i:Nat} (hi:ops[i]? =some o) (hd:o.dst=some d) (hr:Region.ready .any ops ab=[i]) (hl:ab.size<=ops.size) (hn:Nat.blt d n=true) (hg: ∀a,Sat n L a->Region.wanted o (yielded ops a.tmps)=true) (ha:Ac P n B w0 o.op o.type L R Post)
  (h: ∀v R',Post v R'->(aRf ops F ab i=true\/ ∀w,Hp B w0 w R'->Hp B w0 w R)/\(∀w,Hp B w0 w R'-> ∃x,Hp B w0 w (Rx x))/\WDg P n B w0 ops K F Rx al (ab.setIfInBounds i true) ((d,v)::L) R'):WDg P n B w0 ops K F Rx (al+1) ab L R:=by
 intro a w Q hs hp hx ft hq;refine⟨λh0=>absurd (hr▸h0) cD,λk hk=> ?_⟩;rw[hr] at hk;obtain rfl:=ib.1 hk;unfold wpOp;simp only[hi,hg a hs,Fz];refine .inl (ha a w o _ Q rfl rfl hs hp λv w' R' cm hv=> ?_);obtain⟨h0,h1,h2⟩:=h v R' hv
 have hkF: ∀k,F k=true-> ∀x,SF B w0 F Rx R' k x->SF B w0 F Rx R k x:=λk hF x hx=>by
  unfold SF at hx ⊢;rw[hF] at hx ⊢;exact hx
 refine⟨SF B w0 F Rx R',SF.all cm h1,?_,by rw[hd];exact h2 _ w' Q (hs.put hn v) cm h1 ft hq⟩;rcases h0 with hb|uc
 ·exact GL hb hl hkF
 ·intro k _;refine .inr (.inr λx hx=> ?_);cases hF:F k with
  |true=>exact hkF k hF x hx
  |false=>
   unfold SF at hx ⊢;rw[hF] at hx ⊢;exact uc x hx
theorem bAn {d:Nat} {Post:Value->List Row->Prop} {al:Nat} {ab:AI} (i:Nat) (hi:ops[i]? =some {dst:=some d,op:=op,type:=ty,pos:=pos,after:=nc,guard:=none}) (hr:Region.ready .any ops ab=[i]) (hl:ab.size<=ops.size) (hn:Nat.blt d n=true) (ha:Ac P n B w0 op ty L R Post)
  (h: ∀v R',Post v R'->(aRf ops F ab i=true\/ ∀w,Hp B w0 w R'->Hp B w0 w R)/\(∀w,Hp B w0 w R'-> ∃x,Hp B w0 w (Rx x))/\WDg P n B w0 ops K F Rx al (ab.setIfInBounds i true) ((d,v)::L) R'):WDg P n B w0 ops K F Rx (al+1) ab L R:=
 aRw hi rfl hr hl hn (λ_ _=>rfl) ha h
theorem aIw {d j e:Nat} {want:Bool} {Post:Value->List Row->Prop} {al:Nat} {ab:AI} (i:Nat) (hi:ops[i]? =some {dst:=some d,op:=op,type:=ty,pos:=pos,after:=nc,guard:=some (j,want)}) (hr:Region.ready .any ops ab=[i]) (hl:ab.size<=ops.size) (hn:Nat.blt d n=true) (hj:(ops[j]?).bind (·.dst)=some e) (hb:lk L e=some (.bool want)) (ha:Ac P n B w0 op ty L R Post)
  (h: ∀v R',Post v R'->(aRf ops F ab i=true\/ ∀w,Hp B w0 w R'->Hp B w0 w R)/\(∀w,Hp B w0 w R'-> ∃x,Hp B w0 w (Rx x))/\WDg P n B w0 ops K F Rx al (ab.setIfInBounds i true) ((d,v)::L) R'):WDg P n B w0 ops K F Rx (al+1) ab L R:=
 aRw hi rfl hr hl hn (λa hs=>by simp[Region.wanted,lT hs hj hb]) ha h
theorem Hp.nilx {w:World} (h:Hp B w0 w R): ∃x:Unit,Hp B w0 w ((λ_:Unit=>([]:List Row)) x):=⟨(),h.sublist (List.nil_sublist _)⟩
theorem oM {al:Nat} {ab:AI} {R1:List Row} (hR:R=R1) (h:WDg P n B w0 ops K F Rx al ab L R1):WDg P n B w0 ops K F Rx al ab L R:=by
 subst hR;exact h
end
end Go.Eng
namespace Go.Proofs.YtdbebmmhdefgdaaGreat
open Go Go.Eng Go.Pure
open Tryz
set_option maxRecDepth 100000
variable {B g nt ct np cp:Nat} {w0:World} {R:List Row} {At Ap:AF} {l:AE} {k:Int} {s:AH}
abbrev DK (g:Nat) (At:AF) (nt ct:Nat) (Ap:AF) (np cp:Nat) (s:AH) (l:AE) (R:List Row):List Row:=⟨102,2,some ⟨g,0,none⟩,1,1,[.slice At nt ct, .slice Ap np cp],false⟩::⟨5,1,At,nt,ct,ints .u8 s,false⟩::⟨106,2,Ap,np,cp,prs l,false⟩::R
theorem MU {w:World}:
  CF 29 #[] w (λv R'=> ∃g,v=PG g/\R'=[(rc 102 2 g [sl none 0 0,sl none 0 0]),(ru 5 none 0 0 ([])),⟨106,2,none,0,0,prs ([]),false⟩]):=by
 refine fn1 Tryz.func29 Z Z Z ?_;refine wq<|wn Z<|wq<|wy (dW (v:= .agg #[sl none 0 0,sl none 0 0]) Z (λw=>cA))<|wa (bO (sz:=2) rfl rfl) ?_;rintro _ _⟨am,rfl,rfl⟩;refine dB (R1:=[(rc 102 2 am [sl none 0 0,sl none 0 0]),(ru 5 none 0 0 ([])),⟨106,2,none,0,0,prs ([]),false⟩]) (Sub.refl _) (λ_ h=>((h.nilP 106).nil 5 1).sel [2,0,1] cC Z)<|wn Z<|bN (R1:=[(rc 102 2 am [sl none 0 0,sl none 0 0]),(ru 5 none 0 0 ([])),⟨106,2,none,0,0,prs ([]),false⟩]) hiZ ?_;exact⟨_,Z,_,Z,Z⟩
theorem yC {A2:AF} {n2 c2:Nat} {at_:Int} (km:np=l.length) (hl:l.length<=1000000):
  CT 59 #[PG g,sl A2 n2 c2, .agg #[I k,I at_]] B w0 ((rc 102 2 g [sl At nt ct,sl Ap np cp])::⟨106,2,Ap,np,cp,prs l,false⟩::R) (λv R'=> ∃(A7:AF) (c7:Nat),v=I 0/\R'=(rc 102 2 g [sl A2 n2 c2,sl A7 ((l++[(k,at_)]).length) c7])::⟨106,2,A7,(l++[(k,at_)]).length,c7,prs (l++[(k,at_)]),false⟩::R):=by
 subst km;refine fn1 Tryz.func59 Z Z Z ?_;refine wq<|wa (bO (sz:=2) Z Z) ?_;rintro _ _⟨am,rfl,rfl⟩;refine wn Z<|wq<|wm Z<|wm Z<|wy (aF Z)<|wy (yF 0 0 ik dA Z)<|bV (aX 1 Z Z Z dA Z Z Z Z (au Z)) ?_;rintro _ _ rfl;refine aA<|aC<|bI mixed<|wD 0 Z (aK Z)<|wD 1 Z (aK Z)<|wD 2 Z (aF Z)<|wD 3 Z (yF 1 1 ik gX Z)<|wD 4 Z (yL 1 ii Z Z Z)<|wD 5 Z (cB (vs:=[I k,I at_]) (rdr 0 Z) ug Z kV Z Z (au Z) Z)<|wC 6 Z (PH ii bKo Z) ?_;rintro _ _⟨du,rfl,rfl⟩;refine⟨.inr hrZ,?_⟩;refine wC 7 Z (iW 3 Z ii bKq Z Z Z Z (rdr 0 Z) G) ?_;rintro _ _⟨iu,js,rfl,rfl⟩;refine⟨.inl cA,?_⟩;refine iF (v:=sl iu (l.length+1) js) Z<|wD 8 Z (aF Z)<|wD 9 Z (yF 1 1 ik gX Z)<|oU 10 Z cA (aX 2 Z Z Z gX Z Z Z Z (au Z)) ?_;rintro _ _ rfl;refine⟨.inl cA,?_⟩;refine wN<|wq<|wn Z<|aQ [2,3] 4 cC Z ?_;refine⟨_,Z,?_⟩;have e:l.length+1=(l++[(k,at_)]).length:=by rw[ah];rfl
 rw[e];exact⟨_,_,Z,Z⟩
theorem YI (kt:nt=s.length) (km:np=l.length) (cg:aP s) (hN:s.length<=100000) (hl:l.length<=1000):
  CT 58 #[PG g,I 1] B w0 (DK g At nt ct Ap np cp s l R) (λv R'=> ∃b:AH,(b.Perm (iota s.length)/\b.Pairwise (bU s))/\ ∃(A8:AF) (c8:Nat) (A7:AF) (c7:Nat),v=I 0/\R'=(rc 102 2 g [sl A8 ((ofL s b).length) c8,sl A7 ((l++[(0,zat b)]).length) c7])::(ru 5 A8 ((ofL s b).length) c8 (ofL s b))::⟨106,2,A7,(l++[(0,zat b)]).length,c7,prs (l++[(0,zat b)]),false⟩::R):=by
 subst kt;subst km;refine fn1 Ju Z Z Z ?_;refine wq<|wn Z<|aC<|wq<|wm Z<|aA<|aH<|wq<|wR Z Z<|wn Z ?_;refine bE Z<|wq<|wm Z<|wy (aF Z)<|wy (yF 0 0 ik dA Z)<|wy (yL 0 af Z Z Z)<|wa (aD bPo Z (Ct.fresh (λw hw=>aZj ((rdr 1 Z) w hw) cg hN))) ?_;rintro _ _⟨_,rfl,a1,bm,bl,rfl,l9,Hv,rfl⟩;refine wm Z<|wX Z Z<|wX Z Z<|wX Z Z<|wg Z<|wg Z<|wn Z<|wq<|wm Z<|wm Z<|wm Z<|wy (dW (v:= .agg #[I 0,I (zat a1)]) Z (λw=>cA))<|wa (aD bEd rfl (Ct.pick [1,3,0,2] 4 cC rfl (yC rfl G))) ?_;rintro _ _⟨iu,js,rfl,rfl⟩;refine wn Z<|aQ [0,2,1] 4 cC Z ?_;exact⟨_,Z,a1,⟨l9,Hv⟩,_,_,_,_,Z,Z⟩
theorem YH (kt:nt=s.length) (km:np=l.length) (cg:aP s) (hN:s.length<=100000) (hl:l.length<=1000):
  CT 58 #[PG g,I 2] B w0 (DK g At nt ct Ap np cp s l R) (λv R'=> ∃T:AE,(T.Perm (gD (bws s) (bws s).length)/\T.Pairwise (jF (bws s)))/\ ∃(A8:AF) (c8:Nat) (A7:AF) (c7:Nat),v=I 0/\R'=(rc 102 2 g [sl A8 T.length c8,sl A7 ((l++[(1,0)]).length) c7])::(ru 5 A8 T.length c8 (T.map (lastB (bws s))))::⟨106,2,A7,(l++[(1,0)]).length,c7,prs (l++[(1,0)]),false⟩::R):=by
 subst kt;subst km;refine fn1 Ju Z Z Z ?_;refine wq<|wn Z<|aC<|wq<|wm Z<|aA<|aH<|wq<|wQ Z Z<|wn Z ?_;refine aJ Z<|wq<|wR Z Z<|wn Z<|bE Z<|wq<|wm Z<|wy (aF Z)<|wy (yF 0 0 ik dA Z)<|wy (yL 0 af Z Z Z)<|wa (aD bGz Z (Ct.fresh (λw hw=>OV ((rdr 1 Z) w hw) cg hN))) ?_;rintro _ _⟨_,rfl,l1,bm,bl,rfl,qq,vt,rfl⟩;refine wm Z<|wX Z Z<|wX Z Z<|wg Z<|wn Z<|wq<|wm Z<|wm Z<|wy (dW (v:= .agg #[I 1,I 0]) Z (λw=>cA))<|wa (aD bEd rfl (Ct.pick [1,3,0,2] 4 cC rfl (yC rfl G))) ?_;rintro _ _⟨iu,js,rfl,rfl⟩;refine wn Z<|aQ [0,2,1] 4 cC Z ?_;exact⟨_,Z,l1,⟨qq,vt⟩,_,_,_,_,Z,Z⟩
theorem YG (kt:nt=s.length) (km:np=l.length) (hk:k≠1/\k≠2):
  CT 58 #[PG g,I k] B w0 (DK g At nt ct Ap np cp s l R) (λv R'=>v=I 1/\R'=DK g At nt ct Ap np cp s l R):=by
 subst kt;subst km;refine fn1 Ju Z Z Z ?_;refine wq<|wn Z<|aC<|wq<|wm Z<|aA<|aH<|wq<|wy (Yl.f (dR Z Z) (hk.1))<|wn Z ?_;refine aJ Z<|wq<|wy (Yl.f (dR Z Z) (hk.2))<|wn Z<|aJ Z<|aI<|wq<|wn Z<|bN (R1:=(DK g At s.length ct Ap l.length cp s l R)) hiZ ?_;exact⟨_,Z,Z,Z⟩
theorem NY (kt:nt=s.length) (km:np=l.length):
  CT 33 #[PG g] B w0 (DK g At nt ct Ap np cp s l R) (λv R'=>v=I (l.length:Int)/\R'=DK g At nt ct Ap np cp s l R):=by
 subst kt;subst km;refine fn1 Tryz.func33 Z Z Z ?_;refine wq<|wn Z<|aC<|wq<|wm Z<|wy (dL lu Z Z)<|aA<|aJ Z<|aI<|wq<|wm Z ?_;refine wy (aF Z)<|wy (yF 1 1 ik gX Z)<|wy (yL 0 ii Z Z Z)<|wy (aN ii Z)<|wn Z<|bN (R1:=(DK g At s.length ct Ap l.length cp s l R)) hiZ ?_;exact⟨_,Z,Z,Z⟩
theorem ET (kt:nt=s.length) (km:np=l.length) (hN:s.length<=1000000):
  CT 32 #[PG g] B w0 (DK g At nt ct Ap np cp s l R) (λv R'=> ∃(A9:AF) (c9:Nat),v=sl A9 s.length c9/\R'=(ru 5 A9 s.length c9 s)::(DK g At nt ct Ap np cp s l R)):=by
 subst kt;subst km;refine fn1 Tryz.func32 Z Z Z ?_;refine wq<|wn Z<|aC<|wq<|wm Z<|wy (dL lu Z Z)<|aA<|aJ Z<|aI<|wq<|wm Z ?_;refine wy (aF Z)<|wy (yF 0 0 ik dA Z)<|wy (yL 0 af Z Z Z)<|wa (aD aCe Z (Ct.fresh (λw hw=>mI ((rdr 1 Z) w hw) hN))) ?_;rintro _ _⟨_,rfl,bm,bl,rfl,rfl⟩;refine wn Z<|bN (R1:=((ru 5 bm s.length bl s)::(DK g At s.length ct Ap l.length cp s l R))) hiZ ?_;exact⟨_,Z,_,_,Z,Z⟩
variable {w w0:World} {cy At Ap u4:AF} {ij cx B g nt ct np cp b6 u5:Nat} {s ks s0:AH} {x at_:Int} {R:List Row} {l:AE}
theorem aPg (bb:Rd w cy ij cx 1 (ints .i64 s)) (hN:s.length<=1000000):
  CF 181 #[sl cy ij cx,I x] w (λv R'=> ∃j:Int,v=I j/\(0<=j↔x∈s)):=by
 obtain rfl:=bb.lenI;refine fn1 Tryz.func181 Z Z Z ?_;have yp:=bb.max;refine wq<|wn Z<|aC<|wq<|wm Z<|wy (aN aa Z)<|wm Z<|aA<|aH ?_;refine fM (λ(i:Int)=>[(0,sl cy s.length cx),(1,I x),(7,I (s.length:Int)),(8,I i)]) (λi=>[]) (λi=>(0<=i)/\(i<=s.length)/\(∀q:Int,0<=q->q<i->rd s q≠x)) (λi=>(s.length-i).toNat) ?_ ?_
 ·exact⟨0,⟨G,G,(λq h1 h2=>G)⟩,KP⟩
 intro i ⟨aw,ia,hn⟩;refine wq<|wL Z Z<|aA<|aC<|bA Z (λaq=> ?_) (λaq=> ?_)
 ·refine aI<|aC<|aH<|wq<|wm Z<|wn Z<|wq<|wm Z<|wm Z<|wm Z<|wy (aG aa sz3 Z Z (bb.c _))<|wy (aR ai Z Z (bb.c _)) ?_;refine wy (dR Z Z)<|aA<|bA Z (λbp=> ?_) (λbp=> ?_)
  ·refine wq<|wm Z<|wn Z<|bS ?_;exact⟨_,Z,i,Z,⟨λ_=>by rw[(by assumption:x=rd s i)];exact bJ aw G,λ_=>aw⟩⟩
  ·refine aI<|aL<|wA Z Z<|wm Z<|aA ?_
   exact⟨i+1,⟨G,G,(λq h1 h2 e=>by
     rcases bn q i with h|h
     ·exact hn q h1 h e
     ·obtain rfl:q=i:=G
      exact absurd e.symm cF)⟩,G,KP⟩
 ·refine aU<|wq<|wn Z<|bS ?_;exact⟨_,Z,-1,Z,⟨λh=>absurd h cC,λhm=>absurd (VO hm) (hn _ (sD hm).1 (by have:=(sD hm).2;omega))⟩⟩
theorem nH (bb:Rd w cy ij cx 1 (ints .i64 s)) (hN:s.length<=1000000):
  CF 108 #[sl cy ij cx,I x] w (λv R'=>v= .bool (decide (x∈s))):=by
 obtain rfl:=bb.lenI;refine fn1 Tryz.func108 Z Z Z ?_;have yp:=bb.max;refine wq<|wn Z<|wq<|wm Z<|wm Z<|wa (aD bOi Z (Ct.quiet (λw hw=>aPg ((bb.c _) w hw) hN))) ?_;rintro _ _⟨rfl,jx,rfl,hjx⟩;refine wy (iA Z Z)<|wn Z<|bS ?_;refine⟨_,Z,?_⟩;exact bq Value.bool (yj.2 hjx)
theorem YD (kt:nt=s.length) (Ks:RdC B w0 R u4 b6 u5 1 (ints .i64 ks)) (Hh:b6=ks.length) (km:np=(l++[(0,at_)]).length) (cj:(0:Int)∈ks) (hl:l.length<=1000/\ks.length<=10) (cg:aP s) (hN:s.length<=100000) (dq:aRm s at_) (hb:mJ s at_=s0):
  CT 62 #[PG g,sl u4 b6 u5] B w0 ((rc 102 2 g [sl At nt ct,sl Ap ((l++[(0,at_)]).length) cp])::(ru 5 At nt ct s)::⟨106,2,Ap,np,cp,prs (l++[(0,at_)]),false⟩::R) (λv R'=> ∃(A8:AF) (c8:Nat),v=I 0/\R'=DK g A8 s0.length c8 Ap l.length cp s0 l R):=by
 subst kt;subst km;subst Hh;have va:(l++[((0:Int),at_)]).length=l.length+1:=by rw[ah];rfl
 refine fn1 Da Z Z Z ?_;refine wq<|wn Z<|wq<|wm Z<|wy (aF Z)<|wy (yF 1 1 ik gX Z)<|wy (yL 0 ii Z Z Z)<|wy (aN ii Z)<|wy (Yl.is (gZ Z Z) (show _=Value.int .i64 (l.length:Int) from by rw[va];congr 1;omega))<|wn rfl<|aC ?_;refine wq<|wm Z<|wy (Yl.f (eD Z Z))<|wm Z<|aB Z Z<|wm Z<|aB Z Z<|wm Z<|aB Z Z<|wy (aF Z)<|aB Z Z<|wy (yF 1 1 ik gX Z)<|aB Z Z<|wy (yL 0 ii Z Z Z) ?_;refine aB Z Z<|wm Z<|aB Z Z<|wy (dU ii kV Z Z (rdr 2 Z) Z)<|aB Z Z<|wy (vF (off:=0) ug Z sz3 Z Z (rdr 2 Z) G G)<|aB Z Z<|wy (Yl.is (zA ai Z Z (rdr 2 Z)) (show _=Value.int .i64 0 from by rw[mZ]))<|aB rfl rfl<|wa (aD aCk rfl (Ct.quiet (λw hw=>nH ((RdC.right Ks [_,_,_]) w hw) G))) ?_;rintro _ _⟨rfl,rfl⟩;refine fH 28 Z (cj)<|aB Z Z<|wy (dI Z)<|wy (aO Z Z)<|aA<|aJ Z<|aI<|wq<|wm Z<|wy (aF Z)<|wy (yF 1 1 ik gX Z)<|wy (yL 0 ii Z Z Z)<|wm Z<|wy (dU ii kV Z Z (rdr 2 Z) Z) ?_;refine wy (Yl.is (KF ug Z kV Z (rdr 2 Z)) (show _=Value.agg #[I 0,I at_] from by rw[mZ]))<|wa (iC (sz:=2) aIr rfl) ?_;rintro _ _⟨am,rfl,rfl⟩;refine bV (fQ (vs:=[I 0,I at_]) 0 Z kV Z Z Z (by intro v hv;simp at hv;rcases hv with rfl|rfl<;>rfl) Z) ?_;rintro _ _ rfl;refine aA<|aC<|wq<|wy (yF 0 0 ug sz3 Z)<|wy (yL 0 ai Z Z Z)<|aA<|aH<|wq<|wR Z Z<|wn Z<|bE Z<|bI mixed ?_;refine wD 0 Z (aK Z)<|wD 1 Z (aK Z)<|wD 2 Z (aF Z)<|wD 3 Z (yF 0 0 ik dA Z)<|wD 4 Z (yL 1 af Z Z Z)<|wD 5 Z (yF 1 1 ug sz3 Z)<|wD 6 Z (yL 0 ai Z Z Z)<|wC 7 Z (aD bGw Z (Ct.fresh (λw hw=>aDr ((rdr 2 Z) w hw) cg dq hN))) ?_;rintro _ _⟨_,rfl,fk,fm,rfl,rfl⟩;refine⟨.inr hrZ,?_⟩;refine wD 8 Z (aK Z)<|wD 9 Z (iE Z Z)<|wD 10 Z (iE Z Z)<|wD 11 Z (aF Z)<|wD 12 Z (yF 0 0 ik dA Z)<|oU 13 Z cA (aX 2 Z Z Z dA Z Z Z Z (au Z)) ?_;rintro _ _ rfl;refine⟨.inl cA,?_⟩;refine wN<|wq<|wm Z<|wm Z<|wy (aF Z)<|wy (yF 1 1 ik gX Z)<|wy (yL 2 ii Z Z Z)<|wm Z<|wy (dQ ii kV Z Z (rdr 4 Z))<|wy (aF Z)<|wy (yF 1 1 ik gX Z)<|bV (aX 2 Z Z Z gX Z Z Z Z (au Z)) ?_;rintro _ _ rfl;refine aA<|wq<|wn Z<|bN (R1:=(rc 102 2 g [sl fk s.length fm,sl Ap l.length cp])::(ru 5 fk s.length fm (mJ s at_))::⟨106,2,Ap,l.length,cp,prs l,false⟩::R) (λ_ h=>Hp.pickT (R:=⟨106,2,Ap,l.length,cp,prs l,false⟩::(rc 102 2 g [sl fk s.length fm,sl Ap l.length cp])::(ru 5 fk s.length fm (mJ s at_))::R) (Hp.dropLast (h.pickT [4,2,0] 5 cC Z) (by rw[ah];rfl)) [1,2,0] 3 cC Z) ?_;refine⟨_,Z,?_⟩;have e:s.length=s0.length:=by rw[<-hb,tH]
 rw[hb,e];exact⟨_,_,Z,Z⟩
theorem YC (kt:nt=s.length) (Ks:RdC B w0 R u4 b6 u5 1 (ints .i64 ks)) (Hh:b6=ks.length) (km:np=(l++[(1,at_)]).length) (cj:(1:Int)∈ks) (hl:l.length<=1000/\ks.length<=10) (cg:aP s) (hN:s.length<=100000) (hb:backL s (eZ (fsL s))=s0):
  CT 62 #[PG g,sl u4 b6 u5] B w0 ((rc 102 2 g [sl At nt ct,sl Ap ((l++[(1,at_)]).length) cp])::(ru 5 At nt ct s)::⟨106,2,Ap,np,cp,prs (l++[(1,at_)]),false⟩::R) (λv R'=> ∃(A8:AF) (c8:Nat),v=I 0/\R'=DK g A8 s0.length c8 Ap l.length cp s0 l R):=by
 subst kt;subst km;subst Hh;have va:(l++[((1:Int),at_)]).length=l.length+1:=by rw[ah];rfl
 refine fn1 Da Z Z Z ?_;refine wq<|wn Z<|wq<|wm Z<|wy (aF Z)<|wy (yF 1 1 ik gX Z)<|wy (yL 0 ii Z Z Z)<|wy (aN ii Z)<|wy (Yl.is (gZ Z Z) (show _=Value.int .i64 (l.length:Int) from by rw[va];congr 1;omega))<|wn rfl<|aC ?_;refine wq<|wm Z<|wy (Yl.f (eD Z Z))<|wm Z<|aB Z Z<|wm Z<|aB Z Z<|wm Z<|aB Z Z<|wy (aF Z)<|aB Z Z<|wy (yF 1 1 ik gX Z)<|aB Z Z<|wy (yL 0 ii Z Z Z) ?_;refine aB Z Z<|wm Z<|aB Z Z<|wy (dU ii kV Z Z (rdr 2 Z) Z)<|aB Z Z<|wy (vF (off:=0) ug Z sz3 Z Z (rdr 2 Z) G G)<|aB Z Z<|wy (Yl.is (zA ai Z Z (rdr 2 Z)) (show _=Value.int .i64 1 from by rw[mZ]))<|aB rfl rfl<|wa (aD aCk rfl (Ct.quiet (λw hw=>nH ((RdC.right Ks [_,_,_]) w hw) G))) ?_;rintro _ _⟨rfl,rfl⟩;refine fH 28 Z (cj)<|aB Z Z<|wy (dI Z)<|wy (aO Z Z)<|aA<|aJ Z<|aI<|wq<|wm Z<|wy (aF Z)<|wy (yF 1 1 ik gX Z)<|wy (yL 0 ii Z Z Z)<|wm Z<|wy (dU ii kV Z Z (rdr 2 Z) Z) ?_;refine wy (Yl.is (KF ug Z kV Z (rdr 2 Z)) (show _=Value.agg #[I 1,I at_] from by rw[mZ]))<|wa (iC (sz:=2) aIr rfl) ?_;rintro _ _⟨am,rfl,rfl⟩;refine bV (fQ (vs:=[I 1,I at_]) 0 Z kV Z Z Z (by intro v hv;simp at hv;rcases hv with rfl|rfl<;>rfl) Z) ?_;rintro _ _ rfl;refine aA<|aC<|wq<|wy (yF 0 0 ug sz3 Z)<|wy (yL 0 ai Z Z Z)<|aA<|aH<|wq<|wQ Z Z<|wn Z<|aJ Z<|aC ?_;refine aL<|wR Z Z<|wn Z<|bE Z<|aL<|wm Z<|wm Z<|wy (aF Z)<|wy (yF 0 0 ik dA Z)<|wy (yL 1 af Z Z Z)<|wa (aD bGv Z (Ct.fresh (λw hw=>OW ((rdr 2 Z) w hw) cg hN))) ?_;rintro _ _⟨_,rfl,fk,fm,rfl,rfl⟩;refine wm Z<|wX Z Z<|wX Z Z<|wy (aF Z)<|wy (yF 0 0 ik dA Z)<|bV (aX 2 Z Z Z dA Z Z Z Z (au Z)) ?_;rintro _ _ rfl;refine aA<|wq<|wm Z<|wm Z<|wy (aF Z)<|wy (yF 1 1 ik gX Z)<|wy (yL 2 ii Z Z Z)<|wm Z<|wy (dQ ii kV Z Z (rdr 4 Z))<|wy (aF Z)<|wy (yF 1 1 ik gX Z)<|bV (aX 2 Z Z Z gX Z Z Z Z (au Z)) ?_;rintro _ _ rfl;refine aA<|wq<|wn Z<|bN (R1:=(rc 102 2 g [sl fk ((backL s (eZ (fsL s))).length) fm,sl Ap l.length cp])::(ru 5 fk ((backL s (eZ (fsL s))).length) fm (backL s (eZ (fsL s))))::⟨106,2,Ap,l.length,cp,prs l,false⟩::R) (λ_ h=>Hp.pickT (R:=⟨106,2,Ap,l.length,cp,prs l,false⟩::(rc 102 2 g [sl fk ((backL s (eZ (fsL s))).length) fm,sl Ap l.length cp])::(ru 5 fk ((backL s (eZ (fsL s))).length) fm (backL s (eZ (fsL s))))::R) (Hp.dropLast (h.pickT [4,2,0] 5 cC Z) (by rw[ah];rfl)) [1,2,0] 3 cC Z) ?_;refine⟨_,Z,?_⟩;rw[hb];exact⟨_,_,Z,Z⟩
theorem YB (kt:nt=s.length) (Ks:RdC B w0 R u4 b6 u5 1 (ints .i64 ks)) (Hh:b6=ks.length) (km:np=(l++[(2,at_)]).length) (cj:(2:Int)∈ks) (hl:l.length<=1000/\ks.length<=10) (cg:aP s) (hN:s.length<=100000) (hb:kU aV s=s0):
  CT 62 #[PG g,sl u4 b6 u5] B w0 ((rc 102 2 g [sl At nt ct,sl Ap ((l++[(2,at_)]).length) cp])::(ru 5 At nt ct s)::⟨106,2,Ap,np,cp,prs (l++[(2,at_)]),false⟩::R) (λv R'=> ∃(A8:AF) (c8:Nat),v=I 0/\R'=DK g A8 s0.length c8 Ap l.length cp s0 l R):=by
 subst kt;subst km;subst Hh;have va:(l++[((2:Int),at_)]).length=l.length+1:=by rw[ah];rfl
 refine fn1 Da Z Z Z ?_;refine wq<|wn Z<|wq<|wm Z<|wy (aF Z)<|wy (yF 1 1 ik gX Z)<|wy (yL 0 ii Z Z Z)<|wy (aN ii Z)<|wy (Yl.is (gZ Z Z) (show _=Value.int .i64 (l.length:Int) from by rw[va];congr 1;omega))<|wn rfl<|aC ?_;refine wq<|wm Z<|wy (Yl.f (eD Z Z))<|wm Z<|aB Z Z<|wm Z<|aB Z Z<|wm Z<|aB Z Z<|wy (aF Z)<|aB Z Z<|wy (yF 1 1 ik gX Z)<|aB Z Z<|wy (yL 0 ii Z Z Z) ?_;refine aB Z Z<|wm Z<|aB Z Z<|wy (dU ii kV Z Z (rdr 2 Z) Z)<|aB Z Z<|wy (vF (off:=0) ug Z sz3 Z Z (rdr 2 Z) G G)<|aB Z Z<|wy (Yl.is (zA ai Z Z (rdr 2 Z)) (show _=Value.int .i64 2 from by rw[mZ]))<|aB rfl rfl<|wa (aD aCk rfl (Ct.quiet (λw hw=>nH ((RdC.right Ks [_,_,_]) w hw) G))) ?_;rintro _ _⟨rfl,rfl⟩;refine fH 28 Z (cj)<|aB Z Z<|wy (dI Z)<|wy (aO Z Z)<|aA<|aJ Z<|aI<|wq<|wm Z<|wy (aF Z)<|wy (yF 1 1 ik gX Z)<|wy (yL 0 ii Z Z Z)<|wm Z<|wy (dU ii kV Z Z (rdr 2 Z) Z) ?_;refine wy (Yl.is (KF ug Z kV Z (rdr 2 Z)) (show _=Value.agg #[I 2,I at_] from by rw[mZ]))<|wa (iC (sz:=2) aIr rfl) ?_;rintro _ _⟨am,rfl,rfl⟩;refine bV (fQ (vs:=[I 2,I at_]) 0 Z kV Z Z Z (by intro v hv;simp at hv;rcases hv with rfl|rfl<;>rfl) Z) ?_;rintro _ _ rfl;refine aA<|aC<|wq<|wy (yF 0 0 ug sz3 Z)<|wy (yL 0 ai Z Z Z)<|aA<|aH<|wq<|wQ Z Z<|wn Z<|aJ Z<|aC ?_;refine aL<|wQ Z Z<|wn Z<|aJ Z<|wq<|wR Z Z<|wn Z<|bE Z<|aL<|wm Z<|wm Z<|wy (aF Z) ?_;refine wy (yF 0 0 ik dA Z)<|wy (yL 1 af Z Z Z)<|wa (aD bGu Z (Ct.fresh (λw hw=>TY ((rdr 2 Z) w hw) cg G))) ?_;rintro _ _⟨_,rfl,fk,fm,rfl,rfl⟩;refine wy (aF Z)<|wy (yF 0 0 ik dA Z)<|bV (aX 2 Z Z Z dA Z Z Z Z (au Z)) ?_;rintro _ _ rfl;refine aA<|wq<|wm Z<|wm Z<|wy (aF Z)<|wy (yF 1 1 ik gX Z)<|wy (yL 2 ii Z Z Z)<|wm Z<|wy (dQ ii kV Z Z (rdr 4 Z))<|wy (aF Z)<|wy (yF 1 1 ik gX Z)<|bV (aX 2 Z Z Z gX Z Z Z Z (au Z)) ?_;rintro _ _ rfl;refine aA<|wq<|wn Z<|bN (R1:=(rc 102 2 g [sl fk ((s).length) fm,sl Ap l.length cp])::(ru 5 fk ((s).length) fm (kU aV s))::⟨106,2,Ap,l.length,cp,prs l,false⟩::R) (λ_ h=>Hp.pickT (R:=⟨106,2,Ap,l.length,cp,prs l,false⟩::(rc 102 2 g [sl fk ((s).length) fm,sl Ap l.length cp])::(ru 5 fk ((s).length) fm (kU aV s))::R) (Hp.dropLast (h.pickT [4,2,0] 5 cC Z) (by rw[ah];rfl)) [1,2,0] 3 cC Z) ?_;refine⟨_,Z,?_⟩;have e:s.length=s0.length:=by rw[<-hb,xL]
 rw[hb,e];exact⟨_,_,Z,Z⟩
theorem YA {k so od sz:Int} (kt:nt=s.length) (Ks:RdC B w0 R u4 b6 u5 1 (ints .i64 ks)) (Hh:b6=ks.length) (km:np=(l++[(3,at_)]).length) (cj:(3:Int)∈ks) (hl:l.length<=1000/\ks.length<=10) (cg:aP s) (hN:s.length<=100000) (hu:s=jZ k so od sz s0) (d5:aP s0) (hS:s0.length<=400) (hk:k=0\/k=1\/k=2) (hp:(0<=so/\so<=2)/\(od=0\/od=1)/\(1<=sz/\sz<=16777216)):
  CT 62 #[PG g,sl u4 b6 u5] B w0 ((rc 102 2 g [sl At nt ct,sl Ap ((l++[(3,at_)]).length) cp])::(ru 5 At nt ct s)::⟨106,2,Ap,np,cp,prs (l++[(3,at_)]),false⟩::R) (λv R'=> ∃(A8:AF) (c8:Nat),v=I 0/\R'=DK g A8 s0.length c8 Ap l.length cp s0 l R):=by
 subst kt;subst km;subst Hh;have va:(l++[((3:Int),at_)]).length=l.length+1:=by rw[ah];rfl
 refine fn1 Da Z Z Z ?_;refine wq<|wn Z<|wq<|wm Z<|wy (aF Z)<|wy (yF 1 1 ik gX Z)<|wy (yL 0 ii Z Z Z)<|wy (aN ii Z)<|wy (Yl.is (gZ Z Z) (show _=Value.int .i64 (l.length:Int) from by rw[va];congr 1;omega))<|wn rfl<|aC ?_;refine wq<|wm Z<|wy (Yl.f (eD Z Z))<|wm Z<|aB Z Z<|wm Z<|aB Z Z<|wm Z<|aB Z Z<|wy (aF Z)<|aB Z Z<|wy (yF 1 1 ik gX Z)<|aB Z Z<|wy (yL 0 ii Z Z Z) ?_;refine aB Z Z<|wm Z<|aB Z Z<|wy (dU ii kV Z Z (rdr 2 Z) Z)<|aB Z Z<|wy (vF (off:=0) ug Z sz3 Z Z (rdr 2 Z) G G)<|aB Z Z<|wy (Yl.is (zA ai Z Z (rdr 2 Z)) (show _=Value.int .i64 3 from by rw[mZ]))<|aB rfl rfl<|wa (aD aCk rfl (Ct.quiet (λw hw=>nH ((RdC.right Ks [_,_,_]) w hw) G))) ?_;rintro _ _⟨rfl,rfl⟩;refine fH 28 Z (cj)<|aB Z Z<|wy (dI Z)<|wy (aO Z Z)<|aA<|aJ Z<|aI<|wq<|wm Z<|wy (aF Z)<|wy (yF 1 1 ik gX Z)<|wy (yL 0 ii Z Z Z)<|wm Z<|wy (dU ii kV Z Z (rdr 2 Z) Z) ?_;refine wy (Yl.is (KF ug Z kV Z (rdr 2 Z)) (show _=Value.agg #[I 3,I at_] from by rw[mZ]))<|wa (iC (sz:=2) aIr rfl) ?_;rintro _ _⟨am,rfl,rfl⟩;refine bV (fQ (vs:=[I 3,I at_]) 0 Z kV Z Z Z (by intro v hv;simp at hv;rcases hv with rfl|rfl<;>rfl) Z) ?_;rintro _ _ rfl;refine aA<|aC<|wq<|wy (yF 0 0 ug sz3 Z)<|wy (yL 0 ai Z Z Z)<|aA<|aH<|wq<|wQ Z Z<|wn Z<|aJ Z<|aC ?_;refine aL<|wQ Z Z<|wn Z<|aJ Z<|wq<|wQ Z Z<|wn Z<|aJ Z<|wq<|wm Z<|wy (aF Z) ?_;refine wy (yF 0 0 ik dA Z)<|wy (yL 1 af Z Z Z)<|wa (aD bRj Z (Ct.fresh (λw hw=>bEe (w:=s0) (k:=k) (so:=so) (od:=od) (sz:=sz) ((rdr 2 Z) w hw) cg G hu d5 hS hk hp G (.inl G)))) ?_;rintro _ _⟨_,rfl,fk,fm,rfl,rfl⟩;refine wm Z<|wX Z Z<|wX Z Z<|wX Z Z<|wa (iC (sz:=2) bKh Z) ?_;rintro _ _⟨ki,rfl,rfl⟩;refine wa (iC (sz:=4) bKg Z) ?_;rintro _ _⟨yy,rfl,rfl⟩;refine bV (fQ (vs:=[sl fk ((s0).length) fm,sl none 0 0]) 1 Z zG Z Z Z (by intro v hv;simp at hv;rcases hv with rfl|rfl<;>rfl) Z) ?_;rintro _ _ rfl;refine bV (fQ (vs:=[I k,I so,I od,I sz]) 0 Z fD Z Z Z (by intro v hv;simp at hv;rcases hv with rfl|rfl|rfl|rfl<;>rfl) Z) ?_;rintro _ _ rfl;refine wn Z<|aL<|wm Z<|wy (yF 0 0 jf dA Z)<|wy (yL 1 af Z Z Z)<|wy (aF Z)<|wy (yF 0 0 ik dA Z)<|bV (aX 4 Z Z Z dA Z Z Z Z (au Z)) ?_;rintro _ _ rfl;refine aA<|wq<|wm Z<|wm Z<|wy (aF Z)<|wy (yF 1 1 ik gX Z)<|wy (yL 4 ii Z Z Z)<|wm Z<|wy (dQ ii kV Z Z (rdr 6 Z))<|wy (aF Z)<|wy (yF 1 1 ik gX Z)<|bV (aX 4 Z Z Z gX Z Z Z Z (au Z)) ?_;rintro _ _ rfl;refine aA<|wq<|wn Z<|bN (R1:=DK g fk ((s0).length) fm Ap l.length cp s0 l R) (λ_ h=>Hp.pickT (R:=⟨106,2,Ap,l.length,cp,prs l,false⟩::(rc 102 2 g [sl fk ((s0).length) fm,sl Ap l.length cp])::(ru 5 fk ((s0).length) fm s0)::R) (Hp.dropLast (h.pickT [6,4,2] 7 cC Z) (by rw[ah];rfl)) [1,2,0] 3 cC Z) ?_;exact⟨_,Z,_,_,Z,Z⟩
theorem vL {K:Int} (kt:nt=s.length) (Ks:RdC B w0 R u4 b6 u5 1 (ints .i64 ks)) (Hh:b6=ks.length) (km:np=(l++[(K,at_)]).length) (cj:K∉ks) (hl:l.length<=1000/\ks.length<=10):
  CT 62 #[PG g,sl u4 b6 u5] B w0 ((rc 102 2 g [sl At nt ct,sl Ap ((l++[(K,at_)]).length) cp])::(ru 5 At nt ct s)::⟨106,2,Ap,np,cp,prs (l++[(K,at_)]),false⟩::R) (λv R'=>v=I 6/\R'=(rc 102 2 g [sl At nt ct,sl Ap np cp])::(ru 5 At nt ct s)::⟨106,2,Ap,np,cp,prs (l++[(K,at_)]),false⟩::R):=by
 subst kt;subst km;subst Hh;have va:(l++[(K,at_)]).length=l.length+1:=by rw[ah];rfl
 refine fn1 Da Z Z Z ?_;refine wq<|wn Z<|wq<|wm Z<|wy (aF Z)<|wy (yF 1 1 ik gX Z)<|wy (yL 0 ii Z Z Z)<|wy (aN ii Z)<|wy (Yl.is (gZ Z Z) (show _=Value.int .i64 (l.length:Int) from by rw[va];congr 1;omega))<|wn rfl<|aC ?_;refine wq<|wm Z<|wy (Yl.f (eD Z Z))<|wm Z<|aB Z Z<|wm Z<|aB Z Z<|wm Z<|aB Z Z<|wy (aF Z)<|aB Z Z<|wy (yF 1 1 ik gX Z)<|aB Z Z<|wy (yL 0 ii Z Z Z) ?_;refine aB Z Z<|wm Z<|aB Z Z<|wy (dU ii kV Z Z (rdr 2 Z) Z)<|aB Z Z<|wy (vF (off:=0) ug Z sz3 Z Z (rdr 2 Z) G G)<|aB Z Z<|wy (Yl.is (zA ai Z Z (rdr 2 Z)) (show _=Value.int .i64 K from by rw[mZ]))<|aB rfl rfl<|wa (aD aCk rfl (Ct.quiet (λw hw=>nH ((RdC.right Ks [_,_,_]) w hw) G))) ?_;rintro _ _⟨rfl,rfl⟩;refine oL 28 Z (cj)<|aB Z Z<|wy (dI Z)<|wy (aO Z Z)<|aA<|bE Z<|wq<|wn Z<|bN (R1:=((rc 102 2 g [sl At s.length ct,sl Ap ((l++[(K,at_)]).length) cp])::(ru 5 At s.length ct s)::⟨106,2,Ap,(l++[(K,at_)]).length,cp,prs (l++[(K,at_)]),false⟩::R)) hiZ ?_;exact⟨_,Z,Z,Z⟩
theorem vM (Ks:RdC B w0 R u4 b6 u5 1 (ints .i64 ks)) (Hh:b6=ks.length):
  CT 62 #[PG g,sl u4 b6 u5] B w0 (DK g At nt ct Ap 0 cp s ([]) R) (λv R'=>v=I 6/\R'=DK g At nt ct Ap 0 cp s ([]) R):=by
 subst Hh;refine fn1 Da Z Z Z ?_;refine wq<|wn Z<|wq<|wm Z<|wy (aF Z)<|wy (yF 1 1 ik gX Z)<|wy (yL 0 ii Z Z Z)<|wy (aN ii Z)<|wy (Yl.is (gZ Z Z) Z)<|wn Z<|aC ?_;refine wq<|wm Z<|wy (Yl.t (eD Z Z) cC)<|wm Z<|aM Z Z Z Z<|aM Z Z Z Z<|aM Z Z Z Z<|aM Z Z Z Z<|aM Z Z Z Z<|aM Z Z Z Z<|aM Z Z Z Z<|aM Z Z Z Z<|aM Z Z Z Z<|aM Z Z Z Z ?_;refine aM Z Z Z Z<|wy (aT Z Z)<|aA<|bE Z<|wq<|wn Z<|bN (R1:=(DK g At nt ct Ap 0 cp s ([]) R)) hiZ ?_;exact⟨_,Z,Z,Z⟩
variable {B g nt ct np cp nd cd:Nat} {w0:World} {R:List Row} {At Ap Ad:AF} {s s0:AH} {l:AE} {N q0 q1 q2 q3 at_ K:Int}
theorem aYi {d:AH} (kt:nt=s.length) (km:np=l.length) (Xt:RdC B w0 R Ad nd cd 1 (ints .u8 d)) (hnd:nd=d.length) (hN:d.length<=100000):
  CT 30 #[PG g, .agg #[I 1,sl Ad nd cd,I N,I q0,I q1,I q2,I q3]] B w0 (DK g At nt ct Ap np cp s l R) (λv R'=> ∃(A8:AF) (c8:Nat),v=I 0/\R'=DK g A8 d.length c8 none 0 0 d ([]) R):=by
 subst kt;subst km;subst hnd;refine fn1 qz Z Z Z ?_;refine wq<|wa (bO (sz:=7) Z Z) ?_;rintro _ _⟨am,rfl,rfl⟩;refine wn Z<|aC<|wq<|wm Z<|wy (dL lu Z Z)<|aA<|aJ Z<|aI<|aC<|wq<|wy (yF 0 0 dz sz3 Z)<|wy (yL 0 ai Z Z Z) ?_;refine aA<|aH<|wq<|wR Z Z<|wn Z<|bE Z<|aC<|wq<|wy (yF 1 1 dz dA Z)<|wy (yL 0 af Z Z Z)<|wy (aN af Z)<|wy (Yl.f (dE Z Z)) ?_;refine aA<|aJ Z<|aI<|wq<|wm Z<|wm Z<|wy (yF 1 1 dz dA Z)<|wy (yL 0 af Z Z Z)<|wa (aD aCe Z (Ct.fresh (λw hw=>mI ((RdC.right Xt [_,_,_,_]) w hw) G))) ?_;rintro _ _⟨_,rfl,fk,fm,rfl,rfl⟩;refine wy (aF Z)<|wy (yF 0 0 ik dA Z)<|bV (aX 2 Z Z Z dA Z Z Z Z (au Z)) ?_;rintro _ _ rfl;refine wy (aF Z)<|wy (yF 1 1 ik gX Z)<|bV (aX 2 Z Z Z gX Z Z Z Z (au Z)) ?_;rintro _ _ rfl;refine aA<|wq<|wn Z<|bN (R1:=DK g fk d.length fm none 0 0 d ([]) R) (λ_ h=>Hp.pickT (R:=⟨106,2,none,0,0,prs ([]),false⟩::(rc 102 2 g [sl fk d.length fm,sl none 0 0])::(ru 5 fk d.length fm d)::R) (Hp.nilP (h.pickT [2,0] 5 cC Z) 106) [1,2,0] 3 cC Z) ?_;exact⟨_,Z,_,_,Z,Z⟩
theorem aHd (kt:nt=s.length) (km:np=l.length) (cg:aP s) (hN:s.length<=100000) (hl:l.length<=1000):
  CT 30 #[PG g, .agg #[I 4,sl Ad nd cd,I N,I q0,I q1,I q2,I q3]] B w0 (DK g At nt ct Ap np cp s l R) (λv R'=> ∃(A8:AF) (c8:Nat) (A7:AF) (c7:Nat),v=I 0/\R'=(rc 102 2 g [sl A8 ((bG aV s).length) c8,sl A7 ((l++[(2,0)]).length) c7])::(ru 5 A8 ((bG aV s).length) c8 (bG aV s))::⟨106,2,A7,(l++[(2,0)]).length,c7,prs (l++[(2,0)]),false⟩::R):=by
 subst kt;subst km;refine fn1 qz Z Z Z ?_;refine wq<|wa (bO (sz:=7) Z Z) ?_;rintro _ _⟨am,rfl,rfl⟩;refine wn Z<|aC<|wq<|wm Z<|wy (dL lu Z Z)<|aA<|aJ Z<|aI<|aC<|wq<|wy (yF 0 0 dz sz3 Z)<|wy (yL 0 ai Z Z Z) ?_;refine aA<|aH<|wq<|wQ Z Z<|wn Z<|aJ Z<|wq<|wQ Z Z<|wn Z<|aJ Z<|aC ?_;refine aL<|wR Z Z<|wn Z<|bE Z<|wq<|wm Z<|wm Z<|wy (aF Z)<|wy (yF 0 0 ik dA Z)<|wy (yL 1 af Z Z Z)<|wa (aD bLp Z (Ct.fresh (λw hw=>SQ ((rdr 2 Z) w hw) cg G))) ?_;rintro _ _⟨_,rfl,fk,fm,rfl,rfl⟩;refine wy (dW (v:= .agg #[I 2,I 0]) Z (λw=>cA))<|wa (aD bEd rfl (Ct.pick [2,4,0,1,3] 5 cC rfl (yC rfl G))) ?_;rintro _ _⟨ef,kc,rfl,rfl⟩;refine wn Z<|aQ [0,2,1] 5 cC Z ?_;refine⟨_,Z,?_⟩;have e:=fV s aV;rw[<-e];exact⟨_,_,_,_,Z,Z⟩
theorem aHb (kt:nt=s.length) (km:np=l.length) (cg:aP s) (hN:s.length<=100000) (hl:l.length<=1000):
  CT 30 #[PG g, .agg #[I 2,sl Ad nd cd,I 1,I q0,I q1,I q2,I q3]] B w0 (DK g At nt ct Ap np cp s l R) (λv R'=> ∃b:AH,(b.Perm (iota s.length)/\b.Pairwise (bU s))/\ ∃(A8:AF) (c8:Nat) (A7:AF) (c7:Nat),v=I 0/\R'=(rc 102 2 g [sl A8 ((ofL s b).length) c8,sl A7 ((l++[(0,zat b)]).length) c7])::(ru 5 A8 ((ofL s b).length) c8 (ofL s b))::⟨106,2,A7,(l++[(0,zat b)]).length,c7,prs (l++[(0,zat b)]),false⟩::R):=by
 subst kt;subst km;refine fn1 qz Z Z Z ?_;refine wq<|wa (bO (sz:=7) Z Z) ?_;rintro _ _⟨am,rfl,rfl⟩;refine wn Z<|aC<|wq<|wm Z<|wy (dL lu Z Z)<|aA<|aJ Z<|aI<|aC<|wq<|wy (yF 0 0 dz sz3 Z)<|wy (yL 0 ai Z Z Z) ?_;refine aA<|aH<|wq<|wQ Z Z<|wn Z<|aJ Z<|wq<|wR Z Z<|wn Z<|bE Z<|aC ?_;refine aL<|wm Z<|wy (yF 2 2 dz sz3 Z)<|wy (yL 0 ai Z Z Z)<|wa (aD bJl Z (Ct.pick [1,2,3,0] 4 cC Z (YI Z Z cg hN hl))) ?_;rintro _ _⟨b1,xt,fk,fm,iu,js,rfl,rfl⟩;refine wn Z<|aQ [0,1,2] 4 cC Z ?_;exact⟨_,Z,b1,xt,_,_,_,_,Z,Z⟩
theorem aHa (kt:nt=s.length) (km:np=l.length) (cg:aP s) (hN:s.length<=100000) (hl:l.length<=1000):
  CT 30 #[PG g, .agg #[I 2,sl Ad nd cd,I 2,I q0,I q1,I q2,I q3]] B w0 (DK g At nt ct Ap np cp s l R) (λv R'=> ∃T:AE,(T.Perm (gD (bws s) (bws s).length)/\T.Pairwise (jF (bws s)))/\ ∃(A8:AF) (c8:Nat) (A7:AF) (c7:Nat),v=I 0/\R'=(rc 102 2 g [sl A8 T.length c8,sl A7 ((l++[(1,0)]).length) c7])::(ru 5 A8 T.length c8 (T.map (lastB (bws s))))::⟨106,2,A7,(l++[(1,0)]).length,c7,prs (l++[(1,0)]),false⟩::R):=by
 subst kt;subst km;refine fn1 qz Z Z Z ?_;refine wq<|wa (bO (sz:=7) Z Z) ?_;rintro _ _⟨am,rfl,rfl⟩;refine wn Z<|aC<|wq<|wm Z<|wy (dL lu Z Z)<|aA<|aJ Z<|aI<|aC<|wq<|wy (yF 0 0 dz sz3 Z)<|wy (yL 0 ai Z Z Z) ?_;refine aA<|aH<|wq<|wQ Z Z<|wn Z<|aJ Z<|wq<|wR Z Z<|wn Z<|bE Z<|aC ?_;refine aL<|wm Z<|wy (yF 2 2 dz sz3 Z)<|wy (yL 0 ai Z Z Z)<|wa (aD bJl Z (Ct.pick [1,2,3,0] 4 cC Z (YH Z Z cg hN hl))) ?_;rintro _ _⟨T1,Sc,fk,fm,iu,js,rfl,rfl⟩;refine wn Z<|aQ [0,1,2] 4 cC Z ?_;exact⟨_,Z,T1,Sc,_,_,_,_,Z,Z⟩
theorem aYo (kt:nt=s.length) (km:np=(l++[(0,at_)]).length) (hl:l.length<=1000) (cg:aP s) (hN:s.length<=100000) (dq:aRm s at_) (hb:mJ s at_=s0):
  CT 30 #[PG g, .agg #[I 3,sl Ad nd cd,I N,I q0,I q1,I q2,I q3]] B w0 ((rc 102 2 g [sl At nt ct,sl Ap ((l++[(0,at_)]).length) cp])::(ru 5 At nt ct s)::⟨106,2,Ap,np,cp,prs (l++[(0,at_)]),false⟩::R) (λv R'=> ∃(A8:AF) (c8:Nat),v=I 0/\R'=DK g A8 s0.length c8 Ap l.length cp s0 l R):=by
 subst kt;subst km;refine fn1 qz Z Z Z ?_;refine wq<|wa (bO (sz:=7) Z Z) ?_;rintro _ _⟨am,rfl,rfl⟩;refine wn Z<|aC<|wq<|wm Z<|wy (dL lu Z Z)<|aA<|aJ Z<|aI<|aC<|wq<|wy (yF 0 0 dz sz3 Z)<|wy (yL 0 ai Z Z Z) ?_;refine aA<|aH<|wq<|wQ Z Z<|wn Z<|aJ Z<|wq<|wQ Z Z<|wn Z<|aJ Z<|aC ?_;refine aL<|wQ Z Z<|wn Z<|aJ Z<|wq<|wQ Z Z<|wn Z<|aJ Z<|wq<|wR Z Z<|wg Z ?_;refine aA<|bE Z<|wq<|wm Z<|wa (bH .i64 [0,1] aa zs3 Z Z Z) ?_;rintro _ _⟨du,rfl,rfl⟩;refine wa (aD QF Z (Ct.pick [2,3,4,0,1] 5 cC Z (YD Z (rdr 0 Z) Z Z cD ⟨hl,cC⟩ cg hN dq hb))) ?_;rintro _ _⟨iu,js,rfl,rfl⟩;refine wn Z<|aQ [0,1,2] 5 cC Z ?_;exact⟨_,Z,_,_,Z,Z⟩
theorem aYn (kt:nt=s.length) (km:np=(l++[(1,at_)]).length) (hl:l.length<=1000) (cg:aP s) (hN:s.length<=100000) (hb:backL s (eZ (fsL s))=s0):
  CT 30 #[PG g, .agg #[I 3,sl Ad nd cd,I N,I q0,I q1,I q2,I q3]] B w0 ((rc 102 2 g [sl At nt ct,sl Ap ((l++[(1,at_)]).length) cp])::(ru 5 At nt ct s)::⟨106,2,Ap,np,cp,prs (l++[(1,at_)]),false⟩::R) (λv R'=> ∃(A8:AF) (c8:Nat),v=I 0/\R'=DK g A8 s0.length c8 Ap l.length cp s0 l R):=by
 subst kt;subst km;refine fn1 qz Z Z Z ?_;refine wq<|wa (bO (sz:=7) Z Z) ?_;rintro _ _⟨am,rfl,rfl⟩;refine wn Z<|aC<|wq<|wm Z<|wy (dL lu Z Z)<|aA<|aJ Z<|aI<|aC<|wq<|wy (yF 0 0 dz sz3 Z)<|wy (yL 0 ai Z Z Z) ?_;refine aA<|aH<|wq<|wQ Z Z<|wn Z<|aJ Z<|wq<|wQ Z Z<|wn Z<|aJ Z<|aC ?_;refine aL<|wQ Z Z<|wn Z<|aJ Z<|wq<|wQ Z Z<|wn Z<|aJ Z<|wq<|wR Z Z<|wg Z ?_;refine aA<|bE Z<|wq<|wm Z<|wa (bH .i64 [0,1] aa zs3 Z Z Z) ?_;rintro _ _⟨du,rfl,rfl⟩;refine wa (aD QF Z (Ct.pick [2,3,4,0,1] 5 cC Z (YC Z (rdr 0 Z) Z Z cD ⟨hl,cC⟩ cg hN hb))) ?_;rintro _ _⟨iu,js,rfl,rfl⟩;refine wn Z<|aQ [0,1,2] 5 cC Z ?_;exact⟨_,Z,_,_,Z,Z⟩
theorem aYm (kt:nt=s.length) (km:np=(l++[(2,at_)]).length) (hl:l.length<=1000) (cg:aP s) (hN:s.length<=100000) (hb:kU aV s=s0):
  CT 30 #[PG g, .agg #[I 5,sl Ad nd cd,I N,I q0,I q1,I q2,I q3]] B w0 ((rc 102 2 g [sl At nt ct,sl Ap ((l++[(2,at_)]).length) cp])::(ru 5 At nt ct s)::⟨106,2,Ap,np,cp,prs (l++[(2,at_)]),false⟩::R) (λv R'=> ∃(A8:AF) (c8:Nat),v=I 0/\R'=DK g A8 s0.length c8 Ap l.length cp s0 l R):=by
 subst kt;subst km;refine fn1 qz Z Z Z ?_;refine wq<|wa (bO (sz:=7) Z Z) ?_;rintro _ _⟨am,rfl,rfl⟩;refine wn Z<|aC<|wq<|wm Z<|wy (dL lu Z Z)<|aA<|aJ Z<|aI<|aC<|wq<|wy (yF 0 0 dz sz3 Z)<|wy (yL 0 ai Z Z Z) ?_;refine aA<|aH<|wq<|wQ Z Z<|wn Z<|aJ Z<|wq<|wQ Z Z<|wn Z<|aJ Z<|aC ?_;refine aL<|wQ Z Z<|wn Z<|aJ Z<|wq<|wQ Z Z<|wn Z<|aJ Z<|wq<|wQ Z Z<|wg Z ?_;refine aA<|aJ Z<|wq<|wR Z Z<|wn Z<|bE Z<|wq<|wm Z<|wa (bH .i64 [2] aa zs3 Z Z Z) ?_;rintro _ _⟨du,rfl,rfl⟩;refine wa (aD QF Z (Ct.pick [2,3,4,0,1] 5 cC Z (YB Z (rdr 0 Z) Z Z cD ⟨hl,cC⟩ cg hN hb))) ?_;rintro _ _⟨iu,js,rfl,rfl⟩;refine wn Z<|aQ [0,1,2] 5 cC Z ?_;exact⟨_,Z,_,_,Z,Z⟩
theorem aYk {k so od sz:Int} (kt:nt=s.length) (km:np=(l++[(3,at_)]).length) (hl:l.length<=1000) (cg:aP s) (hN:s.length<=100000) (hu:s=jZ k so od sz s0) (d5:aP s0) (hS:s0.length<=400) (hk:k=0\/k=1\/k=2) (hp:(0<=so/\so<=2)/\(od=0\/od=1)/\(1<=sz/\sz<=16777216)):
  CT 30 #[PG g, .agg #[I 7,sl Ad nd cd,I N,I q0,I q1,I q2,I q3]] B w0 ((rc 102 2 g [sl At nt ct,sl Ap ((l++[(3,at_)]).length) cp])::(ru 5 At nt ct s)::⟨106,2,Ap,np,cp,prs (l++[(3,at_)]),false⟩::R) (λv R'=> ∃(A8:AF) (c8:Nat),v=I 0/\R'=DK g A8 s0.length c8 Ap l.length cp s0 l R):=by
 subst kt;subst km;refine fn1 qz Z Z Z ?_;refine wq<|wa (bO (sz:=7) Z Z) ?_;rintro _ _⟨am,rfl,rfl⟩;refine wn Z<|aC<|wq<|wm Z<|wy (dL lu Z Z)<|aA<|aJ Z<|aI<|aC<|wq<|wy (yF 0 0 dz sz3 Z)<|wy (yL 0 ai Z Z Z) ?_;refine aA<|aH<|wq<|wQ Z Z<|wn Z<|aJ Z<|wq<|wQ Z Z<|wn Z<|aJ Z<|aC ?_;refine aL<|wQ Z Z<|wn Z<|aJ Z<|wq<|wQ Z Z<|wn Z<|aJ Z<|wq<|wQ Z Z<|wg Z ?_;refine aA<|aJ Z<|wq<|wQ Z Z<|wn Z<|aJ Z<|wq<|wR Z Z<|wn Z<|bE Z<|aC ?_;refine aL<|wm Z<|wa (bH .i64 [3] aa zs3 Z Z Z) ?_;rintro _ _⟨du,rfl,rfl⟩;refine wa (aD QF Z (Ct.pick [2,3,4,0,1] 5 cC Z (YA Z (rdr 0 Z) Z Z cD ⟨hl,cC⟩ cg hN hu d5 hS hk hp))) ?_;rintro _ _⟨iu,js,rfl,rfl⟩;refine wn Z<|aQ [0,1,2] 5 cC Z ?_;exact⟨_,Z,_,_,Z,Z⟩
theorem aCo (kt:nt=s.length) (km:np=(l++[(K,at_)]).length) (hl:l.length<=1000) (cj:K∉([0,1]:AH)):
  CT 30 #[PG g, .agg #[I 3,sl Ad nd cd,I N,I q0,I q1,I q2,I q3]] B w0 ((rc 102 2 g [sl At nt ct,sl Ap ((l++[(K,at_)]).length) cp])::(ru 5 At nt ct s)::⟨106,2,Ap,np,cp,prs (l++[(K,at_)]),false⟩::R) (λv R'=>v=I 6/\R'=(rc 102 2 g [sl At nt ct,sl Ap np cp])::(ru 5 At nt ct s)::⟨106,2,Ap,np,cp,prs (l++[(K,at_)]),false⟩::R):=by
 subst kt;subst km;refine fn1 qz Z Z Z ?_;refine wq<|wa (bO (sz:=7) Z Z) ?_;rintro _ _⟨am,rfl,rfl⟩;refine wn Z<|aC<|wq<|wm Z<|wy (dL lu Z Z)<|aA<|aJ Z<|aI<|aC<|wq<|wy (yF 0 0 dz sz3 Z)<|wy (yL 0 ai Z Z Z) ?_;refine aA<|aH<|wq<|wQ Z Z<|wn Z<|aJ Z<|wq<|wQ Z Z<|wn Z<|aJ Z<|aC ?_;refine aL<|wQ Z Z<|wn Z<|aJ Z<|wq<|wQ Z Z<|wn Z<|aJ Z<|wq<|wR Z Z<|wg Z ?_;refine aA<|bE Z<|wq<|wm Z<|wa (bH .i64 [0,1] aa zs3 Z Z Z) ?_;rintro _ _⟨du,rfl,rfl⟩;refine wa (aD QF Z (Ct.pick [2,3,4,0,1] 5 cC Z (vL Z (rdr 0 Z) Z Z cj ⟨hl,cC⟩))) ?_;rintro _ _⟨rfl,rfl⟩;refine wn Z<|aQ [0,1,2] 5 cC Z ?_;exact⟨_,Z,Z,Z⟩
theorem NW (kt:nt=s.length) (km:np=(l++[(K,at_)]).length) (hl:l.length<=1000) (cj:K∉([2]:AH)):
  CT 30 #[PG g, .agg #[I 5,sl Ad nd cd,I N,I q0,I q1,I q2,I q3]] B w0 ((rc 102 2 g [sl At nt ct,sl Ap ((l++[(K,at_)]).length) cp])::(ru 5 At nt ct s)::⟨106,2,Ap,np,cp,prs (l++[(K,at_)]),false⟩::R) (λv R'=>v=I 6/\R'=(rc 102 2 g [sl At nt ct,sl Ap np cp])::(ru 5 At nt ct s)::⟨106,2,Ap,np,cp,prs (l++[(K,at_)]),false⟩::R):=by
 subst kt;subst km;refine fn1 qz Z Z Z ?_;refine wq<|wa (bO (sz:=7) Z Z) ?_;rintro _ _⟨am,rfl,rfl⟩;refine wn Z<|aC<|wq<|wm Z<|wy (dL lu Z Z)<|aA<|aJ Z<|aI<|aC<|wq<|wy (yF 0 0 dz sz3 Z)<|wy (yL 0 ai Z Z Z) ?_;refine aA<|aH<|wq<|wQ Z Z<|wn Z<|aJ Z<|wq<|wQ Z Z<|wn Z<|aJ Z<|aC ?_;refine aL<|wQ Z Z<|wn Z<|aJ Z<|wq<|wQ Z Z<|wn Z<|aJ Z<|wq<|wQ Z Z<|wg Z ?_;refine aA<|aJ Z<|wq<|wR Z Z<|wn Z<|bE Z<|wq<|wm Z<|wa (bH .i64 [2] aa zs3 Z Z Z) ?_;rintro _ _⟨du,rfl,rfl⟩;refine wa (aD QF Z (Ct.pick [2,3,4,0,1] 5 cC Z (vL Z (rdr 0 Z) Z Z cj ⟨hl,cC⟩))) ?_;rintro _ _⟨rfl,rfl⟩;refine wn Z<|aQ [0,1,2] 5 cC Z ?_;exact⟨_,Z,Z,Z⟩
theorem NV (kt:nt=s.length) (km:np=(l++[(K,at_)]).length) (hl:l.length<=1000) (cj:K∉([3]:AH)):
  CT 30 #[PG g, .agg #[I 7,sl Ad nd cd,I N,I q0,I q1,I q2,I q3]] B w0 ((rc 102 2 g [sl At nt ct,sl Ap ((l++[(K,at_)]).length) cp])::(ru 5 At nt ct s)::⟨106,2,Ap,np,cp,prs (l++[(K,at_)]),false⟩::R) (λv R'=>v=I 6/\R'=(rc 102 2 g [sl At nt ct,sl Ap np cp])::(ru 5 At nt ct s)::⟨106,2,Ap,np,cp,prs (l++[(K,at_)]),false⟩::R):=by
 subst kt;subst km;refine fn1 qz Z Z Z ?_;refine wq<|wa (bO (sz:=7) Z Z) ?_;rintro _ _⟨am,rfl,rfl⟩;refine wn Z<|aC<|wq<|wm Z<|wy (dL lu Z Z)<|aA<|aJ Z<|aI<|aC<|wq<|wy (yF 0 0 dz sz3 Z)<|wy (yL 0 ai Z Z Z) ?_;refine aA<|aH<|wq<|wQ Z Z<|wn Z<|aJ Z<|wq<|wQ Z Z<|wn Z<|aJ Z<|aC ?_;refine aL<|wQ Z Z<|wn Z<|aJ Z<|wq<|wQ Z Z<|wn Z<|aJ Z<|wq<|wQ Z Z<|wg Z ?_;refine aA<|aJ Z<|wq<|wQ Z Z<|wn Z<|aJ Z<|wq<|wR Z Z<|wn Z<|bE Z<|aC ?_;refine aL<|wm Z<|wa (bH .i64 [3] aa zs3 Z Z Z) ?_;rintro _ _⟨du,rfl,rfl⟩;refine wa (aD QF Z (Ct.pick [2,3,4,0,1] 5 cC Z (vL Z (rdr 0 Z) Z Z cj ⟨hl,cC⟩))) ?_;rintro _ _⟨rfl,rfl⟩;refine wn Z<|aQ [0,1,2] 5 cC Z ?_;exact⟨_,Z,Z,Z⟩
theorem aCp:
  CT 30 #[PG g, .agg #[I 3,sl Ad nd cd,I N,I q0,I q1,I q2,I q3]] B w0 (DK g At nt ct Ap 0 cp s ([]) R) (λv R'=>v=I 6/\R'=DK g At nt ct Ap 0 cp s ([]) R):=by
 refine fn1 qz Z Z Z ?_;refine wq<|wa (bO (sz:=7) Z Z) ?_;rintro _ _⟨am,rfl,rfl⟩;refine wn Z<|aC<|wq<|wm Z<|wy (dL lu Z Z)<|aA<|aJ Z<|aI<|aC<|wq<|wy (yF 0 0 dz sz3 Z)<|wy (yL 0 ai Z Z Z) ?_;refine aA<|aH<|wq<|wQ Z Z<|wn Z<|aJ Z<|wq<|wQ Z Z<|wn Z<|aJ Z<|aC ?_;refine aL<|wQ Z Z<|wn Z<|aJ Z<|wq<|wQ Z Z<|wn Z<|aJ Z<|wq<|wR Z Z<|wg Z ?_;refine aA<|bE Z<|wq<|wm Z<|wa (bH .i64 [0,1] aa zs3 Z Z Z) ?_;rintro _ _⟨du,rfl,rfl⟩;refine wa (aD QF Z (Ct.pick [2,3,4,0,1] 5 cC Z (vM (rdr 0 Z) Z))) ?_;rintro _ _⟨rfl,rfl⟩;refine wn Z<|aQ [0,1,2] 5 cC Z ?_;exact⟨_,Z,Z,Z⟩
theorem aYl:
  CT 30 #[PG g, .agg #[I 5,sl Ad nd cd,I N,I q0,I q1,I q2,I q3]] B w0 (DK g At nt ct Ap 0 cp s ([]) R) (λv R'=>v=I 6/\R'=DK g At nt ct Ap 0 cp s ([]) R):=by
 refine fn1 qz Z Z Z ?_;refine wq<|wa (bO (sz:=7) Z Z) ?_;rintro _ _⟨am,rfl,rfl⟩;refine wn Z<|aC<|wq<|wm Z<|wy (dL lu Z Z)<|aA<|aJ Z<|aI<|aC<|wq<|wy (yF 0 0 dz sz3 Z)<|wy (yL 0 ai Z Z Z) ?_;refine aA<|aH<|wq<|wQ Z Z<|wn Z<|aJ Z<|wq<|wQ Z Z<|wn Z<|aJ Z<|aC ?_;refine aL<|wQ Z Z<|wn Z<|aJ Z<|wq<|wQ Z Z<|wn Z<|aJ Z<|wq<|wQ Z Z<|wg Z ?_;refine aA<|aJ Z<|wq<|wR Z Z<|wn Z<|bE Z<|wq<|wm Z<|wa (bH .i64 [2] aa zs3 Z Z Z) ?_;rintro _ _⟨du,rfl,rfl⟩;refine wa (aD QF Z (Ct.pick [2,3,4,0,1] 5 cC Z (vM (rdr 0 Z) Z))) ?_;rintro _ _⟨rfl,rfl⟩;refine wn Z<|aQ [0,1,2] 5 cC Z ?_;exact⟨_,Z,Z,Z⟩
theorem aYj:
  CT 30 #[PG g, .agg #[I 7,sl Ad nd cd,I N,I q0,I q1,I q2,I q3]] B w0 (DK g At nt ct Ap 0 cp s ([]) R) (λv R'=>v=I 6/\R'=DK g At nt ct Ap 0 cp s ([]) R):=by
 refine fn1 qz Z Z Z ?_;refine wq<|wa (bO (sz:=7) Z Z) ?_;rintro _ _⟨am,rfl,rfl⟩;refine wn Z<|aC<|wq<|wm Z<|wy (dL lu Z Z)<|aA<|aJ Z<|aI<|aC<|wq<|wy (yF 0 0 dz sz3 Z)<|wy (yL 0 ai Z Z Z) ?_;refine aA<|aH<|wq<|wQ Z Z<|wn Z<|aJ Z<|wq<|wQ Z Z<|wn Z<|aJ Z<|aC ?_;refine aL<|wQ Z Z<|wn Z<|aJ Z<|wq<|wQ Z Z<|wn Z<|aJ Z<|wq<|wQ Z Z<|wg Z ?_;refine aA<|aJ Z<|wq<|wQ Z Z<|wn Z<|aJ Z<|wq<|wR Z Z<|wn Z<|bE Z<|aC ?_;refine aL<|wm Z<|wa (bH .i64 [3] aa zs3 Z Z Z) ?_;rintro _ _⟨du,rfl,rfl⟩;refine wa (aD QF Z (Ct.pick [2,3,4,0,1] 5 cC Z (vM (rdr 0 Z) Z))) ?_;rintro _ _⟨rfl,rfl⟩;refine wn Z<|aQ [0,1,2] 5 cC Z ?_;exact⟨_,Z,Z,Z⟩
end Go.Proofs.YtdbebmmhdefgdaaGreat
namespace Go.Pure
open Go Go.Eng
variable {base s:AH}
theorem zV {t so o sz:Int} {u:AH} (hu:aP u) (hS:u.length<=120) (hz:1<=sz/\sz<=16777216):(jZ t so o sz u).length<=40000:=by
 have e1:=kM (t:=t) (o:=o) (n:=sz.toNat) hu G (chK u.length sz.toNat);have e2:chK u.length sz.toNat<=u.length:=WW G;have e3:(2*u.length+22)*chK u.length sz.toNat<=262*120:=Dq G G;have e4:=dV 4 sz G;have e5:=dV 4 (u.length:Int) G;have e6:(bL 0).length=1:=rfl;unfold jZ;simp only[ah,dh,jl];omega
def aLz (K at_:Int) (s s0:AH):Prop:=
 (K=0/\aRm s at_/\mJ s at_=s0)\/(K=1/\backL s (eZ (lfL s))=s0)\/(K=2/\kU aV s=s0)\/
 (K=3/\ ∃k so od sz:Int,s=jZ k so od sz s0/\(k=0\/k=1\/k=2)/\((0<=so/\so<=2)/\(od=0\/od=1)/\(1<=sz/\sz<=16777216)))
inductive Und (base:AH):AE->AH->Prop where
 |nil:Und base [] base
 |add {l:AE} {s s0:AH} {K at_:Int} (h:Und base l s0) (hb:aP s0) (hn:s0.length<=120) (hu:aLz K at_ s s0):Und base (l++[(K,at_)]) s
theorem Und.inv {L:AE} (h:Und base L s):(L=[]/\s=base)\/ ∃l K at_ s0,L=l++[(K,at_)]/\Und base l s0/\aP s0/\s0.length<=120/\aLz K at_ s s0:=by
 cases h with
 |nil=>exact .inl ⟨rfl,rfl⟩
 |add h hb hn hu=>exact .inr ⟨_,_,_,_,rfl,h,hb,hn,hu⟩
theorem Und.none (h:Und base [] s):s=base:=by
 rcases h.inv with⟨_,h⟩|⟨l,K,a,s0,h,_⟩
 ·exact h
 ·simp at h
variable {s:AH}
def kdD (K:Int):Int:=if K<=1 then 1 else K
inductive Cp:AE->AD->AH->AH->Prop where
 |nil {s:AH}:Cp [] [] [] s
 |add {l:AE} {was:AD} {done s s0:AH} {K at_:Int} (h:Cp l was done s0) (hb:aP s0) (hn:s0.length<=120) (hu:aLz K at_ s s0):Cp (l++[(K,at_)]) (was++[s0]) (done++[kdD K]) s
theorem Cp.inv {L:AE} {W:AD} {D:AH} (h:Cp L W D s):(L=[]/\W=[]/\D=[])\/ ∃l was done K at_ s0,L=l++[(K,at_)]/\W=was++[s0]/\D=done++[kdD K]/\Cp l was done s0/\aP s0/\s0.length<=120/\aLz K at_ s s0:=by
 cases h with
 |nil=>exact .inl ⟨rfl,rfl,rfl⟩
 |add h hb hn hu=>exact .inr ⟨_,_,_,_,_,_,rfl,rfl,rfl,h,hb,hn,hu⟩
theorem Cp.len {l:AE} {was:AD} {done:AH} (h:Cp l was done s):was.length=l.length/\done.length=l.length:=by
 induction h with
 |nil=>exact⟨rfl,rfl⟩
 |add _ _ _ _ ih=>simp only[ah,gq];omega
def UK (K q:Int):Prop:=(K=3/\q=1)\/(K=5/\q=2)\/(K=7/\q=3)
inductive DStep (K N k so od sz:Int) (d s:AH) (was:AD) (done:AH):Int->AH->AD->AH->Prop where
 |set (h:K=1):DStep K N k so od sz d s was done 0 d [] []
 |turn (h:K=2) (hn:N=1\/N=2):DStep K N k so od sz d s was done 0 (gB N s).2 (was++[s]) (done++[1])
 |turnN (h:K=2) (hn:N≠1/\N≠2):DStep K N k so od sz d s was done 1 s was done
 |front (h:K=4):DStep K N k so od sz d s was done 0 (bG aV s) (was++[s]) (done++[2])
 |box (h:K=6) (hk:k=0\/k=1\/k=2) (hp:(0<=so/\so<=2)/\(od=0\/od=1)/\(1<=sz/\sz<=16777216)):DStep K N k so od sz d s was done 0 (jZ k so od sz s) (was++[s]) (done++[3])
 |boxN (h:K=6) (hn:k=3\/ ¬((0<=k/\k<=3)/\(0<=so/\so<=2)/\(od=0\/od=1)/\(1<=sz/\sz<=16777216))):DStep K N k so od sz d s was done 1 s was done
 |undo {w0:AD} {d0 s0:AH} {q:Int} (h:UK K q) (hw:was=w0++[s0]) (hd:done=d0++[q]):DStep K N k so od sz d s was done 0 s0 w0 d0
 |undoN (h:K=3\/K=5\/K=7) (hn:done=[]\/ ∃(d0:AH) (q:Int),done=d0++[q]/\ ¬UK K q):DStep K N k so od sz d s was done 6 s was done
 |other (h:K<1\/7<K):DStep K N k so od sz d s was done 1 s was done
end Go.Pure
namespace Go.Proofs.YtdbebmmhdefgdaaGreat
open Go Go.Eng Go.Pure
open Tryz
set_option maxRecDepth 100000
variable {B gx ns cs nw cw nd cd n2 c2:Nat} {w0:World} {R:List Row} {As Aw Ad A2:AF} {vv:AG} {dd s:AH} {k so od sz q:Int}
abbrev DX (gx:Nat) (As:AF) (ns cs:Nat) (Aw:AF) (nw cw:Nat) (vv:AG) (Ad:AF) (nd cd:Nat) (dd:AH) (R:List Row):List Row:=⟨54,3,some ⟨gx,0,none⟩,1,1,[.slice As ns cs, .slice Aw nw cw, .slice Ad nd cd],false⟩::⟨22,1,Aw,nw,cw,vv,false⟩::⟨3,1,Ad,nd,cd,ints .i64 dd,false⟩::R
theorem xQ (ml:nw=vv.length) (hnd:nd=dd.length) (hl:vv.length<=1000/\dd.length<=1000):
  CT 112 #[PG gx,sl A2 n2 c2,I k] B w0 (DX gx As ns cs Aw nw cw vv Ad nd cd dd R) (λv R'=> ∃(A7:AF) (c7:Nat) (A6:AF) (c6:Nat),v=I 0/\R'=(rc 54 3 gx [sl A2 n2 c2,sl A7 (vv.length+1) c7,sl A6 (dd.length+1) c6])::⟨22,1,A7,(vv.length+1),c7,vv++[Value.slice As ns cs],false⟩::(ri 3 A6 (dd.length+1) c6 (dd++[k]))::R):=by
 subst ml;subst hnd;refine fn1 Tryz.func112 Z Z Z ?_;refine wq<|wn Z<|aC<|bI mixed<|wD 0 Z (aK Z)<|wD 1 Z (aK Z)<|wD 2 Z (aF Z)<|wD 3 Z (yF 1 1 lc mM Z)<|wD 4 Z (yL 0 dm Z Z Z)<|wD 5 Z (aK Z)<|wD 6 Z (aF Z)<|wD 7 Z (yF 0 0 lc dA Z)<|wD 8 Z (yL 0 af Z Z Z) ?_;refine wC 9 Z (mK [Value.slice As ns cs] dm yK Z Z Z Z) ?_;rintro _ _⟨bx,rfl,rfl⟩;refine⟨.inr hrZ,?_⟩;refine wC 10 Z (pJ 2 Z Z dm bAk Z Z Z Z Z (rdr 0 Z) (by simp[Value.oneCell']) (by dsimp only;omega)) ?_;rintro _ _⟨fi,fj,rfl,rfl⟩;refine⟨.inl cA,?_⟩;refine iF (v:=sl fi (vv.length+1) fj) Z<|wD 11 Z (aF Z)<|wD 12 Z (yF 1 1 lc mM Z)<|oU 13 Z cA (aX 1 Z Z Z mM Z Z Z Z (au Z)) ?_;rintro _ _ rfl;refine⟨.inl cA,?_⟩;refine wN<|wq<|wm Z<|wm Z<|wy (aF Z)<|wy (yF 2 2 lc dO Z)<|wy (yL 1 aa Z Z Z)<|wm Z<|wa (bH .i64 [k] aa zs3 Z Z Z) ?_;rintro _ _⟨ki,rfl,rfl⟩;refine wa (aS 4 Z aa zb3 Z Z Z (rdr 0 Z) cG) ?_;rintro _ _⟨fc,dv,rfl,rfl⟩;refine bF (v:=sl fc (dd.length+1) dv) Z<|wy (aF Z)<|wy (yF 2 2 lc dO Z)<|bV (aX 2 Z Z Z dO Z Z Z Z (au Z)) ?_;rintro _ _ rfl;refine aA<|wq<|wm Z<|wm Z<|wy (aF Z)<|wy (yF 0 0 lc dA Z)<|bV (aX 2 Z Z Z dA Z Z Z Z (au Z)) ?_;rintro _ _ rfl;refine aA<|wq<|wn Z<|aQ [2,3,4] 5 cC Z ?_;exact⟨_,Z,_,_,_,_,Z,Z⟩
theorem VB (pf:ns=s.length) (ml:nw=vv.length) (hnd:nd=dd.length) (bb:RdC B w0 R As ns cs 1 (ints .u8 s)) (cg:aP s) (hN:s.length<=100000) (hl:vv.length<=1000/\dd.length<=1000):
  CT 63 #[PG gx,I 1] B w0 (DX gx As ns cs Aw nw cw vv Ad nd cd dd R) (λv R'=> ∃(A8:AF) (c8:Nat) (A7:AF) (c7:Nat) (A6:AF) (c6:Nat),v=I 0/\R'=(rc 54 3 gx [sl A8 (((gB 1 s).2).length) c8,sl A7 (vv.length+1) c7,sl A6 (dd.length+1) c6])::⟨22,1,A7,(vv.length+1),c7,vv++[Value.slice As s.length cs],false⟩::(ri 3 A6 (dd.length+1) c6 (dd++[1]))::(ru 5 A8 (((gB 1 s).2).length) c8 ((gB 1 s).2))::R):=by
 subst pf;subst ml;subst hnd;refine fn1 Jw Z Z Z ?_;refine wq<|wn Z<|aC<|wq<|wm Z<|aA<|aH<|wq<|wR Z Z<|wn Z ?_;refine bE Z<|wq<|wm Z<|wy (aF Z)<|wy (yF 0 0 lc dA Z)<|wy (yL 0 af Z Z Z)<|wa (aD bLo Z (Ct.fresh (λw hw=>ZC ((RdC.right bb [_,_,_]) w hw) cg hN))) ?_;rintro _ _⟨_,rfl,b1,bm,bl,rfl,cq,dj,rfl⟩;refine wm Z<|wX Z Z<|wX Z Z<|wg Z<|wn Z<|wq<|wm Z<|wm Z<|wa (aD aLe Z (Ct.pick [1,2,3,0] 4 cC Z (xQ Z Z hl))) ?_;rintro _ _⟨iu,js,dy,jt,rfl,rfl⟩;refine wn Z<|bN (R1:=((rc 54 3 gx [sl bm ((ofL s b1).length) bl,sl iu (vv.length+1) js,sl dy (dd.length+1) jt])::⟨22,1,iu,(vv.length+1),js,vv++[Value.slice As s.length cs],false⟩::(ri 3 dy (dd.length+1) jt (dd++[1]))::(ru 5 bm ((ofL s b1).length) bl (ofL s b1))::R)) hiZ ?_;refine⟨_,Z,?_⟩;have e:(gB 1 s).2=ofL s b1:=by rw[vO cq dj]
 rw[e]
 try rw[cu]
 exact⟨_,_,_,_,_,_,Z,Z⟩
theorem VA (pf:ns=s.length) (ml:nw=vv.length) (hnd:nd=dd.length) (bb:RdC B w0 R As ns cs 1 (ints .u8 s)) (cg:aP s) (hN:s.length<=100000) (hl:vv.length<=1000/\dd.length<=1000):
  CT 63 #[PG gx,I 2] B w0 (DX gx As ns cs Aw nw cw vv Ad nd cd dd R) (λv R'=> ∃(A8:AF) (c8:Nat) (A7:AF) (c7:Nat) (A6:AF) (c6:Nat),v=I 0/\R'=(rc 54 3 gx [sl A8 (((gB 2 s).2).length) c8,sl A7 (vv.length+1) c7,sl A6 (dd.length+1) c6])::⟨22,1,A7,(vv.length+1),c7,vv++[Value.slice As s.length cs],false⟩::(ri 3 A6 (dd.length+1) c6 (dd++[1]))::(ru 5 A8 (((gB 2 s).2).length) c8 ((gB 2 s).2))::R):=by
 subst pf;subst ml;subst hnd;refine fn1 Jw Z Z Z ?_;refine wq<|wn Z<|aC<|wq<|wm Z<|aA<|aH<|wq<|wQ Z Z<|wn Z ?_;refine aJ Z<|wq<|wR Z Z<|wn Z<|bE Z<|wq<|wm Z<|wm Z<|wy (aF Z)<|wy (yF 0 0 lc dA Z)<|wy (yL 0 af Z Z Z)<|wa (aD bLn Z (Ct.fresh (λw hw=>QV ((RdC.right bb [_,_,_]) w hw) cg hN))) ?_;rintro _ _⟨_,rfl,l2,bm,bl,rfl,qs,ub,rfl⟩;refine wa (aD aLe Z (Ct.pick [1,2,3,0] 4 cC Z (xQ Z Z hl))) ?_;rintro _ _⟨iu,js,dy,jt,rfl,rfl⟩;refine wn Z<|bN (R1:=((rc 54 3 gx [sl bm l2.length bl,sl iu (vv.length+1) js,sl dy (dd.length+1) jt])::⟨22,1,iu,(vv.length+1),js,vv++[Value.slice As s.length cs],false⟩::(ri 3 dy (dd.length+1) jt (dd++[1]))::(ru 5 bm l2.length bl (l2.map (lastB (bws (s)))))::R)) hiZ ?_;refine⟨_,Z,?_⟩;have e:(gB 2 s).2=l2.map (lastB (bws s)):=by rw[vP qs ub]
 rw[e]
 try rw[cu]
 exact⟨_,_,_,_,_,_,Z,Z⟩
theorem UZ {N:Int} (pf:ns=s.length) (ml:nw=vv.length) (hnd:nd=dd.length) (hk:N≠1/\N≠2):
  CT 63 #[PG gx,I N] B w0 (DX gx As ns cs Aw nw cw vv Ad nd cd dd R) (λv R'=>v=I 1/\R'=DX gx As ns cs Aw nw cw vv Ad nd cd dd R):=by
 subst pf;subst ml;subst hnd;refine fn1 Jw Z Z Z ?_;refine wq<|wn Z<|aC<|wq<|wm Z<|aA<|aH<|wq<|wy (Yl.f (dR Z Z) (hk.1))<|wn Z ?_;refine aJ Z<|wq<|wy (Yl.f (dR Z Z) (hk.2))<|wn Z<|aJ Z<|aI<|wq<|wn Z<|bN (R1:=(DX gx As s.length cs Aw vv.length cw vv Ad dd.length cd dd R)) hiZ ?_;exact⟨_,Z,Z,Z⟩
theorem ZJ (pf:ns=s.length) (ml:nw=vv.length) (hnd:nd=dd.length) (bb:RdC B w0 R As ns cs 1 (ints .u8 s)) (cg:aP s) (hN:s.length<=100000) (hl:vv.length<=1000/\dd.length<=1000):
  CT 65 #[PG gx] B w0 (DX gx As ns cs Aw nw cw vv Ad nd cd dd R) (λv R'=> ∃(A8:AF) (c8:Nat) (A7:AF) (c7:Nat) (A6:AF) (c6:Nat),v=I 0/\R'=(rc 54 3 gx [sl A8 ((bG aV s).length) c8,sl A7 (vv.length+1) c7,sl A6 (dd.length+1) c6])::⟨22,1,A7,(vv.length+1),c7,vv++[Value.slice As s.length cs],false⟩::(ri 3 A6 (dd.length+1) c6 (dd++[2]))::(ru 5 A8 ((bG aV s).length) c8 (bG aV s))::R):=by
 subst pf;subst ml;subst hnd;refine fn1 Tryz.func65 Z Z Z ?_;refine wq<|wn Z<|wq<|wm Z<|wm Z<|wy (aF Z)<|wy (yF 0 0 lc dA Z)<|wy (yL 0 af Z Z Z)<|wa (aD bGt Z (Ct.fresh (λw hw=>LG ((RdC.right bb [_,_,_]) w hw) cg G))) ?_;rintro _ _⟨_,rfl,bm,bl,rfl,rfl⟩;refine wa (aD aLe Z (Ct.pick [1,2,3,0] 4 cC Z (xQ Z Z hl))) ?_;rintro _ _⟨iu,js,dy,jt,rfl,rfl⟩;refine wn Z<|bN (R1:=((rc 54 3 gx [sl bm ((s).length) bl,sl iu (vv.length+1) js,sl dy (dd.length+1) jt])::⟨22,1,iu,(vv.length+1),js,vv++[Value.slice As s.length cs],false⟩::(ri 3 dy (dd.length+1) jt (dd++[2]))::(ru 5 bm ((s).length) bl (bG aV s))::R)) hiZ ?_;refine⟨_,Z,?_⟩;have e:=fV s aV;rw[<-e];exact⟨_,_,_,_,_,_,Z,Z⟩
theorem ZY (pf:ns=s.length) (ml:nw=vv.length) (hnd:nd=dd.length):
  CT 66 #[PG gx, .agg #[I 3,I so,I od,I sz]] B w0 (DX gx As ns cs Aw nw cw vv Ad nd cd dd R) (λv R'=>v=I 1/\R'=DX gx As ns cs Aw nw cw vv Ad nd cd dd R):=by
 subst pf;subst ml;subst hnd;refine fn1 Jz Z Z Z ?_;refine wq<|wa (bO (sz:=4) Z Z) ?_;rintro _ _⟨am,rfl,rfl⟩;refine wn Z<|aC<|wq<|wy (yF 0 0 bi sz3 Z)<|wy (yL 0 ai Z Z Z)<|wR Z Z<|aA<|bE Z<|wq<|wn Z<|aQ [1,2,3] 4 cC Z ?_;exact⟨_,Z,Z,Z⟩
theorem ZZ (pf:ns=s.length) (ml:nw=vv.length) (hnd:nd=dd.length) (bb:RdC B w0 R As ns cs 1 (ints .u8 s)) (h3:k≠3) (mn: ¬((0<=k/\k<=3)/\(0<=so/\so<=2)/\(od=0\/od=1)/\(1<=sz/\sz<=16777216))):
  CT 66 #[PG gx, .agg #[I k,I so,I od,I sz]] B w0 (DX gx As ns cs Aw nw cw vv Ad nd cd dd R) (λv R'=>v=I 1/\R'=DX gx As ns cs Aw nw cw vv Ad nd cd dd R):=by
 subst pf;subst ml;subst hnd;refine fn1 Jz Z Z Z ?_;refine wq<|wa (bO (sz:=4) Z Z) ?_;rintro _ _⟨am,rfl,rfl⟩;refine wn Z<|aC<|wq<|wy (yF 0 0 bi sz3 Z)<|wy (yL 0 ai Z Z Z)<|wy (Yl.f (dR Z Z) (h3))<|aA<|aJ Z<|aI<|aC<|bI mixed<|wD 0 Z (aK Z)<|wD 1 Z (aF Z) ?_;refine wD 2 Z (yF 0 0 lc dA Z)<|wD 3 Z (yL 1 af Z Z Z)<|wD 4 Z (dW (v:= .agg #[sl As s.length cs,sl none 0 0]) Z (λw=>cA))<|wD 5 rfl (cB (vs:=[I k,I so,I od,I sz]) (rdr 0 rfl) bi rfl fD rfl rfl (au rfl) rfl)<|wC 6 rfl (aD bOl rfl (Ct.quiet (λw hw=>aTy ((RdC.right bb [_,_,_,_]) w hw) mn h3))) ?_;rintro _ _⟨rfl,rfl⟩;refine⟨.inr hiZ,?_⟩;refine wD 7 Z (aK Z)<|wD 8 Z (iE Z Z)<|wD 9 Z (iE Z Z)<|wD 10 Z (bC Z)<|wD 11 Z (bC Z)<|wN<|aC<|wq<|wm Z<|wy (Yl.t (fE Z Z) cC)<|aA<|bE Z<|wq ?_;refine wm Z<|wn Z<|aQ [1,2,3] 4 cC Z ?_;exact⟨_,Z,Z,Z⟩
theorem ZX (pf:ns=s.length) (ml:nw=vv.length) (hnd:nd=dd.length) (bb:RdC B w0 R As ns cs 1 (ints .u8 s)) (cg:aP s) (hN:s.length<=120) (hl:vv.length<=1000/\dd.length<=1000) (hp:(0<=so/\so<=2)/\(od=0\/od=1)/\(1<=sz/\sz<=16777216)) (hk:k=0\/k=1\/k=2):
  CT 66 #[PG gx, .agg #[I k,I so,I od,I sz]] B w0 (DX gx As ns cs Aw nw cw vv Ad nd cd dd R) (λv R'=> ∃(A8:AF) (c8:Nat) (A7:AF) (c7:Nat) (A6:AF) (c6:Nat),v=I 0/\R'=(rc 54 3 gx [sl A8 ((jZ k so od sz s).length) c8,sl A7 (vv.length+1) c7,sl A6 (dd.length+1) c6])::⟨22,1,A7,(vv.length+1),c7,vv++[Value.slice As s.length cs],false⟩::(ri 3 A6 (dd.length+1) c6 (dd++[3]))::(ru 5 A8 ((jZ k so od sz s).length) c8 (jZ k so od sz s))::R):=by
 subst pf;subst ml;subst hnd;have j7:=zV (t:=k) (so:=so) (o:=od) (sz:=sz) cg hN G;refine fn1 Jz Z Z Z ?_;refine wq<|wa (bO (sz:=4) Z Z) ?_;rintro _ _⟨am,rfl,rfl⟩;refine wn Z<|aC<|wq<|wy (yF 0 0 bi sz3 Z)<|wy (yL 0 ai Z Z Z)<|wy (Yl.f (dR Z Z))<|aA<|aJ Z<|aI<|aC<|bI mixed<|wD 0 Z (aK Z)<|wD 1 Z (aF Z) ?_;refine wD 2 Z (yF 0 0 lc dA Z)<|wD 3 Z (yL 1 af Z Z Z)<|wD 4 Z (dW (v:= .agg #[sl As s.length cs,sl none 0 0]) Z (λw=>cA))<|wD 5 rfl (cB (vs:=[I k,I so,I od,I sz]) (rdr 0 rfl) bi rfl fD rfl rfl (au rfl) rfl)<|wC 6 rfl (aD bOl rfl (Ct.fresh (λw hw=>aTx (u:=s) ((RdC.right bb [_,_,_,_]) w hw) cg G hp hk))) ?_;rintro _ _⟨_,rfl,fk,fm,rfl,rfl⟩;refine⟨.inr hrZ,?_⟩;refine wD 7 Z (aK Z)<|wD 8 Z (iE Z Z)<|wD 9 Z (iE Z Z)<|wD 10 Z (bC Z)<|wD 11 Z (bC Z)<|wN<|aC<|wq<|wm Z<|wy (Yl.f (fE Z Z) cC)<|aA<|aJ Z<|aI<|aC ?_;refine wq<|wm Z<|wy (aN af Z)<|wy (Yl.f (dE Z Z))<|aA<|aJ Z<|aI<|wq<|wm Z<|wm Z<|wa (aD aLe Z (Ct.pick [2,3,4,0,1] 5 cC Z (xQ Z Z hl))) ?_;rintro _ _⟨iu,js,dy,jt,rfl,rfl⟩;refine wn Z<|aQ [0,1,2,3] 5 cC Z ?_;exact⟨_,Z,_,_,_,_,_,_,Z,Z⟩
theorem uB (ml:nw=(vv++[Value.slice A2 n2 c2]).length) (hnd:nd=(dd++[q]).length) (s8:vv.length=dd.length) (hl:dd.length<=1000):
  CT 64 #[PG gx,I q] B w0 ((rc 54 3 gx [sl As ns cs,sl Aw ((vv++[Value.slice A2 n2 c2]).length) cw,sl Ad ((dd++[q]).length) cd])::⟨22,1,Aw,nw,cw,vv++[Value.slice A2 n2 c2],false⟩::(ri 3 Ad nd cd (dd++[q]))::R) (λv R'=>v=I 0/\R'=DX gx A2 n2 c2 Aw vv.length cw vv Ad dd.length cd dd R):=by
 subst ml;subst hnd;have Vr:(vv++[Value.slice A2 n2 c2]).length=vv.length+1:=by rw[ah];rfl
 have Yu:(dd++[q]).length=dd.length+1:=by rw[ah];rfl
 refine fn1 Jy Z Z Z ?_;refine wq<|wn Z<|wq<|wm Z<|wy (aF Z)<|wy (yF 2 2 lc dO Z)<|wy (yL 0 aa Z Z Z)<|wy (aN aa Z)<|wn Z<|aC<|aC ?_;refine aL<|wm Z<|wy (Yl.f (dR Z Z))<|wm Z<|aB Z Z<|wm Z<|aB Z Z<|wy (aF Z)<|aB Z Z<|wy (yF 2 2 lc dO Z)<|aB Z Z<|wy (yL 0 aa Z Z Z)<|aB Z Z<|wm Z<|aB Z Z ?_;refine wS Z Z<|aB Z Z<|wy (aG aa sz3 Z Z (rdr 2 Z))<|aB Z Z<|wy (aR ai Z Z (rdr 2 Z))<|aB Z Z<|wm Z<|aB Z Z<|wy (Yl.f (fE Z Z) (λh=>h (by rw[show((dd++[q]).length:Int)-1=(dd.length:Int) by omega,ZU]))) ?_;refine wy (aO Z Z)<|aA<|aJ Z<|aI<|wq<|wm Z<|wm Z<|wy (aF Z)<|wy (yF 1 1 lc mM Z)<|wy (yL 0 dm Z Z Z)<|wm Z<|wS Z Z<|wy (aG dm dA Z Z (rdr 1 Z))<|wy (rF af Z Z Z (rdr 1 Z) (by rw[show((((dd++[q]).length:Nat):Int)-1).toNat=vv.length by rw[Yu];omega];exact aMh _ _)) ?_;refine wy (aF Z)<|wy (yF 0 0 lc dA Z)<|bV (aX 0 Z Z Z dA Z Z Z Z (au Z)) ?_;rintro _ _ rfl;refine jG (R1:=((rc 54 3 gx [sl A2 n2 c2,sl Aw ((vv++[Value.slice A2 n2 c2]).length) cw,sl Ad ((dd++[q]).length) cd])::⟨22,1,Aw,(vv++[Value.slice A2 n2 c2]).length,cw,vv++[Value.slice A2 n2 c2],false⟩::(ri 3 Ad ((dd++[q]).length) cd (dd++[q]))::R)) Z<|aA<|aC<|aEj (λi=>[10,11,12,14].contains i) (λxv=>((rc 54 3 gx [sl A2 n2 c2,xv,sl Ad ((dd++[q]).length) cd])::⟨22,1,Aw,(vv++[Value.slice A2 n2 c2]).length,cw,vv++[Value.slice A2 n2 c2],false⟩::(ri 3 Ad ((dd++[q]).length) cd (dd++[q]))::R)) (λ_ h=>⟨_,h⟩) mixed<|jO 0 Z cA Z Z (aK Z)<|jO 1 Z cA Z Z (aK Z)<|jO 2 Z cA Z Z (aK Z)<|jO 3 Z cA Z Z (aF Z)<|jO 4 Z cA Z Z (yF 1 1 lc mM Z)<|jO 5 Z cA Z Z (yL 0 dm Z Z Z)<|jO 6 Z cA Z Z (aK Z)<|jO 7 Z cA Z Z (Yl.is (gZ Z Z) (show _=Value.int .i64 (vv.length:Int) from by congr 1;omega))<|jO 8 rfl cA rfl rfl (dQ dm dA rfl rfl (rdr 1 rfl) cG cG) ?_;refine jO 9 Z cA Z Z (aK Z)<|XQ 10 Z cA Z Z (λxv=>aF Z)<|XQ 11 Z cA Z Z (λxv=>QN (off:=2) (m:=2) lc Z dO Z Z Z)<|XQ 12 Z cA Z Z (λxv=>fJ (rdr 0 Z) aa Z Z Z)<|jO 13 Z cA Z Z (aK Z)<|XQ 14 Z cA Z Z (λxv=>Yl.is (gZ Z Z) (show _=Value.int .i64 (dd.length:Int) from by congr 1;omega))<|jO 15 rfl cA rfl rfl (dQ aa sz3 rfl rfl (rdr 2 rfl))<|jO 16 rfl cA rfl rfl (aF rfl)<|jO 17 rfl cA rfl rfl (yF 1 1 lc mM rfl)<|bQa 18 rfl cA cA (au cA) (aX 0 rfl rfl rfl mM rfl rfl rfl rfl (au rfl)) ?_;rintro _ _ rfl;refine⟨λ_ h=>⟨_,h⟩,?_⟩;refine oM (R1:=((rc 54 3 gx [sl A2 n2 c2,sl Aw (((vv.length:Int)).toNat) cw,sl Ad ((dd++[q]).length) cd])::⟨22,1,Aw,(vv++[Value.slice A2 n2 c2]).length,cw,vv++[Value.slice A2 n2 c2],false⟩::(ri 3 Ad ((dd++[q]).length) cd (dd++[q]))::R)) Z<|jO 19 Z cA Z Z (aF Z)<|jO 20 Z cA Z Z (yF 2 2 lc dO Z) ?_;refine bKy 21 Z cA cA (au cA) (aX 0 Z Z Z dO Z Z Z Z (au Z)) ?_;rintro _ _ rfl;refine oM (R1:=((rc 54 3 gx [sl A2 n2 c2,sl Aw (((vv.length:Int)).toNat) cw,sl Ad (((dd.length:Int)).toNat) cd])::⟨22,1,Aw,(vv++[Value.slice A2 n2 c2]).length,cw,vv++[Value.slice A2 n2 c2],false⟩::(ri 3 Ad ((dd++[q]).length) cd (dd++[q]))::R)) Z<|aEg cA<|wq<|wn Z<|bN (R1:=DX gx A2 n2 c2 Aw vv.length cw vv Ad dd.length cd dd R) (λ_ h=>Hp.pickT (R:=(ri 3 Ad dd.length cd dd)::(rc 54 3 gx [sl A2 n2 c2,sl Aw vv.length cw,sl Ad dd.length cd])::⟨22,1,Aw,vv.length,cw,vv,false⟩::R) (Hp.dropI (Hp.pickT (R:=⟨22,1,Aw,vv.length,cw,vv,false⟩::(rc 54 3 gx [sl A2 n2 c2,sl Aw vv.length cw,sl Ad dd.length cd])::(ri 3 Ad ((dd++[q]).length) cd (dd++[q]))::R) (Hp.dropV (h.pickT [1,0,2] 3 cC Z) Vr) [2,1,0] 3 cC Z) Yu) [1,2,0] 3 cC Z) ?_;exact⟨_,Z,Z,Z⟩
theorem uC (ml:nw=(vv++[Value.slice A2 n2 c2]).length) (hnd:nd=(dd++[q]).length) (s8:vv.length=dd.length) (hl:dd.length<=1000) (hq:q≠k):
  CT 64 #[PG gx,I k] B w0 ((rc 54 3 gx [sl As ns cs,sl Aw ((vv++[Value.slice A2 n2 c2]).length) cw,sl Ad ((dd++[q]).length) cd])::⟨22,1,Aw,nw,cw,vv++[Value.slice A2 n2 c2],false⟩::(ri 3 Ad nd cd (dd++[q]))::R) (λv R'=>v=I 6/\R'=(rc 54 3 gx [sl As ns cs,sl Aw (nw) cw,sl Ad (nd) cd])::⟨22,1,Aw,nw,cw,vv++[Value.slice A2 n2 c2],false⟩::(ri 3 Ad nd cd (dd++[q]))::R):=by
 subst ml;subst hnd;have Vr:(vv++[Value.slice A2 n2 c2]).length=vv.length+1:=by rw[ah];rfl
 have Yu:(dd++[q]).length=dd.length+1:=by rw[ah];rfl
 refine fn1 Jy Z Z Z ?_;refine wq<|wn Z<|wq<|wm Z<|wy (aF Z)<|wy (yF 2 2 lc dO Z)<|wy (yL 0 aa Z Z Z)<|wy (aN aa Z)<|wn Z<|aC<|aC ?_;refine aL<|wm Z<|wy (Yl.f (dR Z Z))<|wm Z<|aB Z Z<|wm Z<|aB Z Z<|wy (aF Z)<|aB Z Z<|wy (yF 2 2 lc dO Z)<|aB Z Z<|wy (yL 0 aa Z Z Z)<|aB Z Z<|wm Z<|aB Z Z ?_;refine wS Z Z<|aB Z Z<|wy (aG aa sz3 Z Z (rdr 2 Z))<|aB Z Z<|wy (aR ai Z Z (rdr 2 Z))<|aB Z Z<|wm Z<|aB Z Z<|wy (Yl.t (fE Z Z) (by rw[show((dd++[q]).length:Int)-1=(dd.length:Int) by omega,ZU];exact hq)) ?_;refine wy (aO Z Z)<|aA<|bE Z<|wq<|wn Z<|bN (R1:=((rc 54 3 gx [sl As ns cs,sl Aw ((vv++[Value.slice A2 n2 c2]).length) cw,sl Ad ((dd++[q]).length) cd])::⟨22,1,Aw,(vv++[Value.slice A2 n2 c2]).length,cw,vv++[Value.slice A2 n2 c2],false⟩::(ri 3 Ad ((dd++[q]).length) cd (dd++[q]))::R)) hiZ ?_;exact⟨_,Z,Z,Z⟩
theorem uD:
  CT 64 #[PG gx,I k] B w0 (DX gx As ns cs Aw nw cw vv Ad 0 cd ([]) R) (λv R'=>v=I 6/\R'=DX gx As ns cs Aw nw cw vv Ad 0 cd ([]) R):=by
 refine fn1 Jy Z Z Z ?_;refine wq<|wn Z<|wq<|wm Z<|wy (aF Z)<|wy (yF 2 2 lc dO Z)<|wy (yL 0 aa Z Z Z)<|wy (aN aa Z)<|wn Z<|aC<|aC ?_;refine aL<|wm Z<|wR Z Z<|wm Z<|aM Z Z Z Z<|aM Z Z Z Z<|aM Z Z Z Z<|aM Z Z Z Z<|aM Z Z Z Z<|aM Z Z Z Z<|aM Z Z Z Z<|aM Z Z Z Z<|aM Z Z Z Z<|aM Z Z Z Z<|wy (aT Z Z) ?_;refine aA<|bE Z<|wq<|wn Z<|bN (R1:=(DX gx As ns cs Aw nw cw vv Ad 0 cd ([]) R)) hiZ ?_;exact⟨_,Z,Z,Z⟩
theorem ZT (pf:ns=s.length) (ml:nw=vv.length) (hnd:nd=dd.length):
  CT 34 #[PG gx] B w0 (DX gx As ns cs Aw nw cw vv Ad nd cd dd R) (λv R'=>v=I (dd.length:Int)/\R'=DX gx As ns cs Aw nw cw vv Ad nd cd dd R):=by
 subst pf;subst ml;subst hnd;refine fn1 Tryz.func34 Z Z Z ?_;refine wq<|wn Z<|wq<|wm Z<|wy (aF Z)<|wy (yF 2 2 lc dO Z)<|wy (yL 0 aa Z Z Z)<|wy (aN aa Z)<|wn Z<|bN (R1:=(DX gx As s.length cs Aw vv.length cw vv Ad dd.length cd dd R)) hiZ ?_;exact⟨_,Z,Z,Z⟩
variable {B gx ns cs nw cw nd cd nb cb n2 c2:Nat} {w0:World} {R:List Row} {As Aw Ad Ab A2:AF} {vv:AG} {dd s d:AH} {k so od sz N K q:Int}
theorem ZL (pf:ns=s.length) (ml:nw=vv.length) (hnd:nd=dd.length) (bb:RdC B w0 R As ns cs 1 (ints .u8 s)) (cg:aP s) (hN:s.length<=100000) (hl:vv.length<=1000/\dd.length<=1000):
  CT 31 #[PG gx, .agg #[I 2,sl Ab nb cb,I 1,I k,I so,I od,I sz]] B w0 (DX gx As ns cs Aw nw cw vv Ad nd cd dd R) (λv R'=> ∃(A8:AF) (c8:Nat) (A7:AF) (c7:Nat) (A6:AF) (c6:Nat),v=I 0/\R'=(rc 54 3 gx [sl A8 (((gB 1 s).2).length) c8,sl A7 (vv.length+1) c7,sl A6 (dd.length+1) c6])::⟨22,1,A7,(vv.length+1),c7,vv++[Value.slice As s.length cs],false⟩::(ri 3 A6 (dd.length+1) c6 (dd++[1]))::(ru 5 A8 (((gB 1 s).2).length) c8 ((gB 1 s).2))::R):=by
 subst pf;subst ml;subst hnd;refine fn1 rz Z Z Z ?_;refine wq<|wa (bO (sz:=7) Z Z) ?_;rintro _ _⟨am,rfl,rfl⟩;refine wn Z<|aC<|wq<|wy (yF 0 0 dz sz3 Z)<|wy (yL 0 ai Z Z Z)<|aA<|aH<|wq<|wQ Z Z<|wn Z<|aJ Z ?_;refine wq<|wR Z Z<|wn Z<|bE Z<|wq<|wm Z<|wy (yF 2 2 dz sz3 Z)<|wy (yL 0 ai Z Z Z)<|wa (aD bJj Z (Ct.pick [1,2,3,0] 4 cC Z (VB Z Z Z (RdC.right bb [_]) cg hN hl))) ?_;rintro _ _⟨fk,fm,iu,js,dy,jt,rfl,rfl⟩;refine wn Z<|aQ [0,1,2,3] 5 cC Z ?_;exact⟨_,Z,_,_,_,_,_,_,Z,Z⟩
theorem ZK (pf:ns=s.length) (ml:nw=vv.length) (hnd:nd=dd.length) (bb:RdC B w0 R As ns cs 1 (ints .u8 s)) (cg:aP s) (hN:s.length<=100000) (hl:vv.length<=1000/\dd.length<=1000):
  CT 31 #[PG gx, .agg #[I 2,sl Ab nb cb,I 2,I k,I so,I od,I sz]] B w0 (DX gx As ns cs Aw nw cw vv Ad nd cd dd R) (λv R'=> ∃(A8:AF) (c8:Nat) (A7:AF) (c7:Nat) (A6:AF) (c6:Nat),v=I 0/\R'=(rc 54 3 gx [sl A8 (((gB 2 s).2).length) c8,sl A7 (vv.length+1) c7,sl A6 (dd.length+1) c6])::⟨22,1,A7,(vv.length+1),c7,vv++[Value.slice As s.length cs],false⟩::(ri 3 A6 (dd.length+1) c6 (dd++[1]))::(ru 5 A8 (((gB 2 s).2).length) c8 ((gB 2 s).2))::R):=by
 subst pf;subst ml;subst hnd;refine fn1 rz Z Z Z ?_;refine wq<|wa (bO (sz:=7) Z Z) ?_;rintro _ _⟨am,rfl,rfl⟩;refine wn Z<|aC<|wq<|wy (yF 0 0 dz sz3 Z)<|wy (yL 0 ai Z Z Z)<|aA<|aH<|wq<|wQ Z Z<|wn Z<|aJ Z ?_;refine wq<|wR Z Z<|wn Z<|bE Z<|wq<|wm Z<|wy (yF 2 2 dz sz3 Z)<|wy (yL 0 ai Z Z Z)<|wa (aD bJj Z (Ct.pick [1,2,3,0] 4 cC Z (VA Z Z Z (RdC.right bb [_]) cg hN hl))) ?_;rintro _ _⟨fk,fm,iu,js,dy,jt,rfl,rfl⟩;refine wn Z<|aQ [0,1,2,3] 5 cC Z ?_;exact⟨_,Z,_,_,_,_,_,_,Z,Z⟩
theorem VI (pf:ns=s.length) (ml:nw=vv.length) (hnd:nd=dd.length) (hk:N≠1/\N≠2):
  CT 31 #[PG gx, .agg #[I 2,sl Ab nb cb,I N,I k,I so,I od,I sz]] B w0 (DX gx As ns cs Aw nw cw vv Ad nd cd dd R) (λv R'=>v=I 1/\R'=DX gx As ns cs Aw nw cw vv Ad nd cd dd R):=by
 subst pf;subst ml;subst hnd;refine fn1 rz Z Z Z ?_;refine wq<|wa (bO (sz:=7) Z Z) ?_;rintro _ _⟨am,rfl,rfl⟩;refine wn Z<|aC<|wq<|wy (yF 0 0 dz sz3 Z)<|wy (yL 0 ai Z Z Z)<|aA<|aH<|wq<|wQ Z Z<|wn Z<|aJ Z ?_;refine wq<|wR Z Z<|wn Z<|bE Z<|wq<|wm Z<|wy (yF 2 2 dz sz3 Z)<|wy (yL 0 ai Z Z Z)<|wa (aD bJj Z (Ct.pick [1,2,3,0] 4 cC Z (UZ Z Z Z hk))) ?_;rintro _ _⟨rfl,rfl⟩;refine wn Z<|aQ [0,1,2] 4 cC Z ?_;exact⟨_,Z,Z,Z⟩
theorem ZN (pf:ns=s.length) (ml:nw=vv.length) (hnd:nd=dd.length) (bb:RdC B w0 R As ns cs 1 (ints .u8 s)) (cg:aP s) (hN:s.length<=100000) (hl:vv.length<=1000/\dd.length<=1000):
  CT 31 #[PG gx, .agg #[I 4,sl Ab nb cb,I N,I k,I so,I od,I sz]] B w0 (DX gx As ns cs Aw nw cw vv Ad nd cd dd R) (λv R'=> ∃(A8:AF) (c8:Nat) (A7:AF) (c7:Nat) (A6:AF) (c6:Nat),v=I 0/\R'=(rc 54 3 gx [sl A8 ((bG aV s).length) c8,sl A7 (vv.length+1) c7,sl A6 (dd.length+1) c6])::⟨22,1,A7,(vv.length+1),c7,vv++[Value.slice As s.length cs],false⟩::(ri 3 A6 (dd.length+1) c6 (dd++[2]))::(ru 5 A8 ((bG aV s).length) c8 (bG aV s))::R):=by
 subst pf;subst ml;subst hnd;refine fn1 rz Z Z Z ?_;refine wq<|wa (bO (sz:=7) Z Z) ?_;rintro _ _⟨am,rfl,rfl⟩;refine wn Z<|aC<|wq<|wy (yF 0 0 dz sz3 Z)<|wy (yL 0 ai Z Z Z)<|aA<|aH<|wq<|wQ Z Z<|wn Z<|aJ Z ?_;refine wq<|wQ Z Z<|wn Z<|aJ Z<|wq<|wQ Z Z<|wn Z<|aJ Z<|wq<|wR Z Z ?_;refine wn Z<|bE Z<|wq<|wm Z<|wa (aD bQx Z (Ct.pick [1,2,3,0] 4 cC Z (ZJ Z Z Z (RdC.right bb [_]) cg hN hl))) ?_;rintro _ _⟨fk,fm,iu,js,dy,jt,rfl,rfl⟩;refine wn Z<|aQ [0,1,2,3] 5 cC Z ?_;exact⟨_,Z,_,_,_,_,_,_,Z,Z⟩
theorem ZP (pf:ns=s.length) (ml:nw=vv.length) (hnd:nd=dd.length):
  CT 31 #[PG gx, .agg #[I 6,sl Ab nb cb,I N,I 3,I so,I od,I sz]] B w0 (DX gx As ns cs Aw nw cw vv Ad nd cd dd R) (λv R'=>v=I 1/\R'=DX gx As ns cs Aw nw cw vv Ad nd cd dd R):=by
 subst pf;subst ml;subst hnd;refine fn1 rz Z Z Z ?_;refine wq<|wa (bO (sz:=7) Z Z) ?_;rintro _ _⟨am,rfl,rfl⟩;refine wn Z<|aC<|wq<|wy (yF 0 0 dz sz3 Z)<|wy (yL 0 ai Z Z Z)<|aA<|aH<|wq<|wQ Z Z<|wn Z<|aJ Z ?_;refine wq<|wQ Z Z<|wn Z<|aJ Z<|wq<|wQ Z Z<|wn Z<|aJ Z<|wq<|wQ Z Z ?_;refine wn Z<|aJ Z<|wq<|wQ Z Z<|wn Z<|aJ Z<|wq<|wR Z Z<|wn Z<|bE Z ?_;refine wq<|wm Z<|wy (yF 3 3 dz fD Z)<|wy (cB (vs:=[I 3,I so,I od,I sz]) (rdr 0 Z) bi Z fD Z Z (au Z) Z)<|wa (aD bJi Z (Ct.pick [1,2,3,0] 4 cC Z (ZY Z Z Z))) ?_;rintro _ _⟨rfl,rfl⟩;refine wn Z<|aQ [0,1,2] 4 cC Z ?_;exact⟨_,Z,Z,Z⟩
theorem ZQ (pf:ns=s.length) (ml:nw=vv.length) (hnd:nd=dd.length) (bb:RdC B w0 R As ns cs 1 (ints .u8 s)) (h3:k≠3) (mn: ¬((0<=k/\k<=3)/\(0<=so/\so<=2)/\(od=0\/od=1)/\(1<=sz/\sz<=16777216))):
  CT 31 #[PG gx, .agg #[I 6,sl Ab nb cb,I N,I k,I so,I od,I sz]] B w0 (DX gx As ns cs Aw nw cw vv Ad nd cd dd R) (λv R'=>v=I 1/\R'=DX gx As ns cs Aw nw cw vv Ad nd cd dd R):=by
 subst pf;subst ml;subst hnd;refine fn1 rz Z Z Z ?_;refine wq<|wa (bO (sz:=7) Z Z) ?_;rintro _ _⟨am,rfl,rfl⟩;refine wn Z<|aC<|wq<|wy (yF 0 0 dz sz3 Z)<|wy (yL 0 ai Z Z Z)<|aA<|aH<|wq<|wQ Z Z<|wn Z<|aJ Z ?_;refine wq<|wQ Z Z<|wn Z<|aJ Z<|wq<|wQ Z Z<|wn Z<|aJ Z<|wq<|wQ Z Z ?_;refine wn Z<|aJ Z<|wq<|wQ Z Z<|wn Z<|aJ Z<|wq<|wR Z Z<|wn Z<|bE Z ?_;refine wq<|wm Z<|wy (yF 3 3 dz fD Z)<|wy (cB (vs:=[I k,I so,I od,I sz]) (rdr 0 Z) bi Z fD Z Z (au Z) Z)<|wa (aD bJi Z (Ct.pick [1,2,3,0] 4 cC Z (ZZ Z Z Z (RdC.right bb [_]) h3 mn))) ?_;rintro _ _⟨rfl,rfl⟩;refine wn Z<|aQ [0,1,2] 4 cC Z ?_;exact⟨_,Z,Z,Z⟩
theorem ZO (pf:ns=s.length) (ml:nw=vv.length) (hnd:nd=dd.length) (bb:RdC B w0 R As ns cs 1 (ints .u8 s)) (cg:aP s) (hN:s.length<=120) (hl:vv.length<=1000/\dd.length<=1000) (hp:(0<=so/\so<=2)/\(od=0\/od=1)/\(1<=sz/\sz<=16777216)) (hk:k=0\/k=1\/k=2):
  CT 31 #[PG gx, .agg #[I 6,sl Ab nb cb,I N,I k,I so,I od,I sz]] B w0 (DX gx As ns cs Aw nw cw vv Ad nd cd dd R) (λv R'=> ∃(A8:AF) (c8:Nat) (A7:AF) (c7:Nat) (A6:AF) (c6:Nat),v=I 0/\R'=(rc 54 3 gx [sl A8 ((jZ k so od sz s).length) c8,sl A7 (vv.length+1) c7,sl A6 (dd.length+1) c6])::⟨22,1,A7,(vv.length+1),c7,vv++[Value.slice As s.length cs],false⟩::(ri 3 A6 (dd.length+1) c6 (dd++[3]))::(ru 5 A8 ((jZ k so od sz s).length) c8 (jZ k so od sz s))::R):=by
 subst pf;subst ml;subst hnd;refine fn1 rz Z Z Z ?_;refine wq<|wa (bO (sz:=7) Z Z) ?_;rintro _ _⟨am,rfl,rfl⟩;refine wn Z<|aC<|wq<|wy (yF 0 0 dz sz3 Z)<|wy (yL 0 ai Z Z Z)<|aA<|aH<|wq<|wQ Z Z<|wn Z<|aJ Z ?_;refine wq<|wQ Z Z<|wn Z<|aJ Z<|wq<|wQ Z Z<|wn Z<|aJ Z<|wq<|wQ Z Z ?_;refine wn Z<|aJ Z<|wq<|wQ Z Z<|wn Z<|aJ Z<|wq<|wR Z Z<|wn Z<|bE Z ?_;refine wq<|wm Z<|wy (yF 3 3 dz fD Z)<|wy (cB (vs:=[I k,I so,I od,I sz]) (rdr 0 Z) bi Z fD Z Z (au Z) Z)<|wa (aD bJi Z (Ct.pick [1,2,3,0] 4 cC Z (ZX Z Z Z (RdC.right bb [_]) cg hN hl hp hk))) ?_;rintro _ _⟨fk,fm,iu,js,dy,jt,rfl,rfl⟩;refine wn Z<|aQ [0,1,2,3] 5 cC Z ?_;exact⟨_,Z,_,_,_,_,_,_,Z,Z⟩
theorem ZM (pf:ns=s.length) (ml:nw=vv.length) (hnd:nd=dd.length) (hK:K<1\/7<K):
  CT 31 #[PG gx, .agg #[I K,sl Ab nb cb,I N,I k,I so,I od,I sz]] B w0 (DX gx As ns cs Aw nw cw vv Ad nd cd dd R) (λv R'=>v=I 1/\R'=DX gx As ns cs Aw nw cw vv Ad nd cd dd R):=by
 subst pf;subst ml;subst hnd;refine fn1 rz Z Z Z ?_;refine wq<|wa (bO (sz:=7) Z Z) ?_;rintro _ _⟨am,rfl,rfl⟩;refine wn Z<|aC<|wq<|wy (yF 0 0 dz sz3 Z)<|wy (yL 0 ai Z Z Z)<|aA<|aH<|wq<|wy (Yl.f (dR Z Z))<|wn Z<|aJ Z ?_;refine wq<|wy (Yl.f (dR Z Z))<|wn Z<|aJ Z<|wq<|wy (Yl.f (dR Z Z))<|wn Z<|aJ Z<|wq<|wy (Yl.f (dR Z Z)) ?_;refine wn Z<|aJ Z<|wq<|wy (Yl.f (dR Z Z))<|wn Z<|aJ Z<|wq<|wy (Yl.f (dR Z Z))<|wn Z<|aJ Z ?_;refine wq<|wy (Yl.f (dR Z Z))<|wn Z<|aJ Z<|aI<|wq<|wn Z<|aQ [1,2,3] 4 cC Z ?_;exact⟨_,Z,Z,Z⟩
theorem aNu (ml:nw=(vv++[Value.slice A2 n2 c2]).length) (hnd:nd=(dd++[1]).length) (s8:vv.length=dd.length) (hl:dd.length<=1000):
  CT 31 #[PG gx, .agg #[I 3,sl Ab nb cb,I N,I k,I so,I od,I sz]] B w0 ((rc 54 3 gx [sl As ns cs,sl Aw ((vv++[Value.slice A2 n2 c2]).length) cw,sl Ad ((dd++[1]).length) cd])::⟨22,1,Aw,nw,cw,vv++[Value.slice A2 n2 c2],false⟩::(ri 3 Ad nd cd (dd++[1]))::R) (λv R'=>v=I 0/\R'=DX gx A2 n2 c2 Aw vv.length cw vv Ad dd.length cd dd R):=by
 subst ml;subst hnd;refine fn1 rz Z Z Z ?_;refine wq<|wa (bO (sz:=7) Z Z) ?_;rintro _ _⟨am,rfl,rfl⟩;refine wn Z<|aC<|wq<|wy (yF 0 0 dz sz3 Z)<|wy (yL 0 ai Z Z Z)<|aA<|aH<|wq<|wQ Z Z<|wn Z<|aJ Z ?_;refine wq<|wQ Z Z<|wn Z<|aJ Z<|wq<|wR Z Z<|wn Z<|bE Z<|wq<|wm Z ?_;refine wa (aD WQ Z (Ct.pick [1,2,3,0] 4 cC Z (uB Z Z s8 hl))) ?_;rintro _ _⟨rfl,rfl⟩;refine wn Z<|aQ [0,1,2] 4 cC Z ?_;exact⟨_,Z,Z,Z⟩
theorem aNv (ml:nw=(vv++[Value.slice A2 n2 c2]).length) (hnd:nd=(dd++[q]).length) (s8:vv.length=dd.length) (hl:dd.length<=1000) (hq:q≠1):
  CT 31 #[PG gx, .agg #[I 3,sl Ab nb cb,I N,I k,I so,I od,I sz]] B w0 ((rc 54 3 gx [sl As ns cs,sl Aw ((vv++[Value.slice A2 n2 c2]).length) cw,sl Ad ((dd++[q]).length) cd])::⟨22,1,Aw,nw,cw,vv++[Value.slice A2 n2 c2],false⟩::(ri 3 Ad nd cd (dd++[q]))::R) (λv R'=>v=I 6/\R'=(rc 54 3 gx [sl As ns cs,sl Aw (nw) cw,sl Ad (nd) cd])::⟨22,1,Aw,nw,cw,vv++[Value.slice A2 n2 c2],false⟩::(ri 3 Ad nd cd (dd++[q]))::R):=by
 subst ml;subst hnd;refine fn1 rz Z Z Z ?_;refine wq<|wa (bO (sz:=7) Z Z) ?_;rintro _ _⟨am,rfl,rfl⟩;refine wn Z<|aC<|wq<|wy (yF 0 0 dz sz3 Z)<|wy (yL 0 ai Z Z Z)<|aA<|aH<|wq<|wQ Z Z<|wn Z<|aJ Z ?_;refine wq<|wQ Z Z<|wn Z<|aJ Z<|wq<|wR Z Z<|wn Z<|bE Z<|wq<|wm Z ?_;refine wa (aD WQ Z (Ct.pick [1,2,3,0] 4 cC Z (uC Z Z s8 hl hq))) ?_;rintro _ _⟨rfl,rfl⟩;refine wn Z<|aQ [0,1,2] 4 cC Z ?_;exact⟨_,Z,Z,Z⟩
theorem aNw:
  CT 31 #[PG gx, .agg #[I 3,sl Ab nb cb,I N,I k,I so,I od,I sz]] B w0 (DX gx As ns cs Aw nw cw vv Ad 0 cd ([]) R) (λv R'=>v=I 6/\R'=DX gx As ns cs Aw nw cw vv Ad 0 cd ([]) R):=by
 refine fn1 rz Z Z Z ?_;refine wq<|wa (bO (sz:=7) Z Z) ?_;rintro _ _⟨am,rfl,rfl⟩;refine wn Z<|aC<|wq<|wy (yF 0 0 dz sz3 Z)<|wy (yL 0 ai Z Z Z)<|aA<|aH<|wq<|wQ Z Z<|wn Z<|aJ Z ?_;refine wq<|wQ Z Z<|wn Z<|aJ Z<|wq<|wR Z Z<|wn Z<|bE Z<|wq<|wm Z ?_;refine wa (aD WQ Z (Ct.pick [1,2,3,0] 4 cC Z (uD))) ?_;rintro _ _⟨rfl,rfl⟩;refine wn Z<|aQ [0,1,2] 4 cC Z ?_;exact⟨_,Z,Z,Z⟩
theorem aNr (ml:nw=(vv++[Value.slice A2 n2 c2]).length) (hnd:nd=(dd++[2]).length) (s8:vv.length=dd.length) (hl:dd.length<=1000):
  CT 31 #[PG gx, .agg #[I 5,sl Ab nb cb,I N,I k,I so,I od,I sz]] B w0 ((rc 54 3 gx [sl As ns cs,sl Aw ((vv++[Value.slice A2 n2 c2]).length) cw,sl Ad ((dd++[2]).length) cd])::⟨22,1,Aw,nw,cw,vv++[Value.slice A2 n2 c2],false⟩::(ri 3 Ad nd cd (dd++[2]))::R) (λv R'=>v=I 0/\R'=DX gx A2 n2 c2 Aw vv.length cw vv Ad dd.length cd dd R):=by
 subst ml;subst hnd;refine fn1 rz Z Z Z ?_;refine wq<|wa (bO (sz:=7) Z Z) ?_;rintro _ _⟨am,rfl,rfl⟩;refine wn Z<|aC<|wq<|wy (yF 0 0 dz sz3 Z)<|wy (yL 0 ai Z Z Z)<|aA<|aH<|wq<|wQ Z Z<|wn Z<|aJ Z ?_;refine wq<|wQ Z Z<|wn Z<|aJ Z<|wq<|wQ Z Z<|wn Z<|aJ Z<|wq<|wQ Z Z ?_;refine wn Z<|aJ Z<|wq<|wR Z Z<|wn Z<|bE Z<|wq<|wm Z<|wa (aD WQ Z (Ct.pick [1,2,3,0] 4 cC Z (uB Z Z s8 hl))) ?_;rintro _ _⟨rfl,rfl⟩;refine wn Z<|aQ [0,1,2] 4 cC Z ?_;exact⟨_,Z,Z,Z⟩
theorem aNs (ml:nw=(vv++[Value.slice A2 n2 c2]).length) (hnd:nd=(dd++[q]).length) (s8:vv.length=dd.length) (hl:dd.length<=1000) (hq:q≠2):
  CT 31 #[PG gx, .agg #[I 5,sl Ab nb cb,I N,I k,I so,I od,I sz]] B w0 ((rc 54 3 gx [sl As ns cs,sl Aw ((vv++[Value.slice A2 n2 c2]).length) cw,sl Ad ((dd++[q]).length) cd])::⟨22,1,Aw,nw,cw,vv++[Value.slice A2 n2 c2],false⟩::(ri 3 Ad nd cd (dd++[q]))::R) (λv R'=>v=I 6/\R'=(rc 54 3 gx [sl As ns cs,sl Aw (nw) cw,sl Ad (nd) cd])::⟨22,1,Aw,nw,cw,vv++[Value.slice A2 n2 c2],false⟩::(ri 3 Ad nd cd (dd++[q]))::R):=by
 subst ml;subst hnd;refine fn1 rz Z Z Z ?_;refine wq<|wa (bO (sz:=7) Z Z) ?_;rintro _ _⟨am,rfl,rfl⟩;refine wn Z<|aC<|wq<|wy (yF 0 0 dz sz3 Z)<|wy (yL 0 ai Z Z Z)<|aA<|aH<|wq<|wQ Z Z<|wn Z<|aJ Z ?_;refine wq<|wQ Z Z<|wn Z<|aJ Z<|wq<|wQ Z Z<|wn Z<|aJ Z<|wq<|wQ Z Z ?_;refine wn Z<|aJ Z<|wq<|wR Z Z<|wn Z<|bE Z<|wq<|wm Z<|wa (aD WQ Z (Ct.pick [1,2,3,0] 4 cC Z (uC Z Z s8 hl hq))) ?_;rintro _ _⟨rfl,rfl⟩;refine wn Z<|aQ [0,1,2] 4 cC Z ?_;exact⟨_,Z,Z,Z⟩
theorem aNt:
  CT 31 #[PG gx, .agg #[I 5,sl Ab nb cb,I N,I k,I so,I od,I sz]] B w0 (DX gx As ns cs Aw nw cw vv Ad 0 cd ([]) R) (λv R'=>v=I 6/\R'=DX gx As ns cs Aw nw cw vv Ad 0 cd ([]) R):=by
 refine fn1 rz Z Z Z ?_;refine wq<|wa (bO (sz:=7) Z Z) ?_;rintro _ _⟨am,rfl,rfl⟩;refine wn Z<|aC<|wq<|wy (yF 0 0 dz sz3 Z)<|wy (yL 0 ai Z Z Z)<|aA<|aH<|wq<|wQ Z Z<|wn Z<|aJ Z ?_;refine wq<|wQ Z Z<|wn Z<|aJ Z<|wq<|wQ Z Z<|wn Z<|aJ Z<|wq<|wQ Z Z ?_;refine wn Z<|aJ Z<|wq<|wR Z Z<|wn Z<|bE Z<|wq<|wm Z<|wa (aD WQ Z (Ct.pick [1,2,3,0] 4 cC Z (uD))) ?_;rintro _ _⟨rfl,rfl⟩;refine wn Z<|aQ [0,1,2] 4 cC Z ?_;exact⟨_,Z,Z,Z⟩
theorem aNo (ml:nw=(vv++[Value.slice A2 n2 c2]).length) (hnd:nd=(dd++[3]).length) (s8:vv.length=dd.length) (hl:dd.length<=1000):
  CT 31 #[PG gx, .agg #[I 7,sl Ab nb cb,I N,I k,I so,I od,I sz]] B w0 ((rc 54 3 gx [sl As ns cs,sl Aw ((vv++[Value.slice A2 n2 c2]).length) cw,sl Ad ((dd++[3]).length) cd])::⟨22,1,Aw,nw,cw,vv++[Value.slice A2 n2 c2],false⟩::(ri 3 Ad nd cd (dd++[3]))::R) (λv R'=>v=I 0/\R'=DX gx A2 n2 c2 Aw vv.length cw vv Ad dd.length cd dd R):=by
 subst ml;subst hnd;refine fn1 rz Z Z Z ?_;refine wq<|wa (bO (sz:=7) Z Z) ?_;rintro _ _⟨am,rfl,rfl⟩;refine wn Z<|aC<|wq<|wy (yF 0 0 dz sz3 Z)<|wy (yL 0 ai Z Z Z)<|aA<|aH<|wq<|wQ Z Z<|wn Z<|aJ Z ?_;refine wq<|wQ Z Z<|wn Z<|aJ Z<|wq<|wQ Z Z<|wn Z<|aJ Z<|wq<|wQ Z Z ?_;refine wn Z<|aJ Z<|wq<|wQ Z Z<|wn Z<|aJ Z<|wq<|wQ Z Z<|wn Z<|aJ Z ?_;refine wq<|wR Z Z<|wn Z<|bE Z<|wq<|wm Z<|wa (aD WQ Z (Ct.pick [1,2,3,0] 4 cC Z (uB Z Z s8 hl))) ?_;rintro _ _⟨rfl,rfl⟩;refine wn Z<|aQ [0,1,2] 4 cC Z ?_;exact⟨_,Z,Z,Z⟩
theorem aNp (ml:nw=(vv++[Value.slice A2 n2 c2]).length) (hnd:nd=(dd++[q]).length) (s8:vv.length=dd.length) (hl:dd.length<=1000) (hq:q≠3):
  CT 31 #[PG gx, .agg #[I 7,sl Ab nb cb,I N,I k,I so,I od,I sz]] B w0 ((rc 54 3 gx [sl As ns cs,sl Aw ((vv++[Value.slice A2 n2 c2]).length) cw,sl Ad ((dd++[q]).length) cd])::⟨22,1,Aw,nw,cw,vv++[Value.slice A2 n2 c2],false⟩::(ri 3 Ad nd cd (dd++[q]))::R) (λv R'=>v=I 6/\R'=(rc 54 3 gx [sl As ns cs,sl Aw (nw) cw,sl Ad (nd) cd])::⟨22,1,Aw,nw,cw,vv++[Value.slice A2 n2 c2],false⟩::(ri 3 Ad nd cd (dd++[q]))::R):=by
 subst ml;subst hnd;refine fn1 rz Z Z Z ?_;refine wq<|wa (bO (sz:=7) Z Z) ?_;rintro _ _⟨am,rfl,rfl⟩;refine wn Z<|aC<|wq<|wy (yF 0 0 dz sz3 Z)<|wy (yL 0 ai Z Z Z)<|aA<|aH<|wq<|wQ Z Z<|wn Z<|aJ Z ?_;refine wq<|wQ Z Z<|wn Z<|aJ Z<|wq<|wQ Z Z<|wn Z<|aJ Z<|wq<|wQ Z Z ?_;refine wn Z<|aJ Z<|wq<|wQ Z Z<|wn Z<|aJ Z<|wq<|wQ Z Z<|wn Z<|aJ Z ?_;refine wq<|wR Z Z<|wn Z<|bE Z<|wq<|wm Z<|wa (aD WQ Z (Ct.pick [1,2,3,0] 4 cC Z (uC Z Z s8 hl hq))) ?_;rintro _ _⟨rfl,rfl⟩;refine wn Z<|aQ [0,1,2] 4 cC Z ?_;exact⟨_,Z,Z,Z⟩
theorem aNq:
  CT 31 #[PG gx, .agg #[I 7,sl Ab nb cb,I N,I k,I so,I od,I sz]] B w0 (DX gx As ns cs Aw nw cw vv Ad 0 cd ([]) R) (λv R'=>v=I 6/\R'=DX gx As ns cs Aw nw cw vv Ad 0 cd ([]) R):=by
 refine fn1 rz Z Z Z ?_;refine wq<|wa (bO (sz:=7) Z Z) ?_;rintro _ _⟨am,rfl,rfl⟩;refine wn Z<|aC<|wq<|wy (yF 0 0 dz sz3 Z)<|wy (yL 0 ai Z Z Z)<|aA<|aH<|wq<|wQ Z Z<|wn Z<|aJ Z ?_;refine wq<|wQ Z Z<|wn Z<|aJ Z<|wq<|wQ Z Z<|wn Z<|aJ Z<|wq<|wQ Z Z ?_;refine wn Z<|aJ Z<|wq<|wQ Z Z<|wn Z<|aJ Z<|wq<|wQ Z Z<|wn Z<|aJ Z ?_;refine wq<|wR Z Z<|wn Z<|bE Z<|wq<|wm Z<|wa (aD WQ Z (Ct.pick [1,2,3,0] 4 cC Z (uD))) ?_;rintro _ _⟨rfl,rfl⟩;refine wn Z<|aQ [0,1,2] 4 cC Z ?_;exact⟨_,Z,Z,Z⟩
theorem aNn (ml:nw=vv.length) (hnd:nd=dd.length) (Xt:RdC B w0 R Ab nb cb 1 (ints .u8 d)) (Tn:nb=d.length) (hN:d.length<=100000):
  CT 31 #[PG gx, .agg #[I 1,sl Ab nb cb,I N,I k,I so,I od,I sz]] B w0 (DX gx As ns cs Aw nw cw vv Ad nd cd dd R) (λv R'=> ∃(A8:AF) (c8:Nat),v=I 0/\R'=(rc 54 3 gx [sl A8 d.length c8,sl none 0 0,sl none 0 0])::⟨22,1,none,0,0,[],false⟩::(ri 3 none 0 0 ([]))::(ru 5 A8 d.length c8 d)::R):=by
 subst ml;subst hnd;subst Tn;refine fn1 rz Z Z Z ?_;refine wq<|wa (bO (sz:=7) Z Z) ?_;rintro _ _⟨am,rfl,rfl⟩;refine wn Z<|aC<|wq<|wy (yF 0 0 dz sz3 Z)<|wy (yL 0 ai Z Z Z)<|aA<|aH<|wq<|wR Z Z<|wn Z<|bE Z ?_;refine aC<|wq<|wy (yF 1 1 dz dA Z)<|wy (yL 0 af Z Z Z)<|wy (aN af Z)<|wy (Yl.f (dE Z Z))<|aA<|aJ Z<|aI<|wq<|wm Z<|wm Z<|wm Z ?_;refine wa (bH .u8 [] af zs5 Z Z Z) ?_;rintro _ _⟨du,rfl,rfl⟩;refine wy (yF 1 1 dz dA Z)<|wy (yL 1 af Z Z Z)<|wa (aS 0 Z af zb5 Z Z Z (RdC.right Xt [_,_,_,_,_]) cG) ?_;rintro _ _⟨iu,js,rfl,rfl⟩;refine bF (v:=sl iu (0+d.length) js) Z<|wy (aF Z)<|wy (yF 0 0 lc dA Z)<|bV (aX 2 Z Z Z dA Z Z Z Z (au Z)) ?_;rintro _ _ rfl;refine wy (aF Z)<|wy (yF 1 1 lc mM Z)<|bV (aX 2 Z Z Z mM Z Z Z Z (au Z)) ?_;rintro _ _ rfl;refine wy (aF Z)<|wy (yF 2 2 lc dO Z)<|bV (aX 2 Z Z Z dO Z Z Z Z (au Z)) ?_;rintro _ _ rfl;refine aA<|wq<|wn Z<|bN (R1:=(rc 54 3 gx [sl iu (0+d.length) js,sl none 0 0,sl none 0 0])::⟨22,1,none,0,0,[],false⟩::(ri 3 none 0 0 ([]))::(ru 5 iu (0+d.length) js (([])++d))::R) (λ_ h=>Hp.pickT (R:=(ri 3 none 0 0 ([]))::⟨22,1,none,0,0,[],false⟩::(rc 54 3 gx [sl iu (0+d.length) js,sl none 0 0,sl none 0 0])::(ru 5 iu (0+d.length) js (([])++d))::R) (((h.pickT [2,0] 5 cC Z).nil 22 1).nil 3 1) [2,1,0,3] 4 cC Z) ?_;refine⟨_,Z,?_⟩;have e:0+d.length=d.length:=nu _;rw[e];exact⟨_,_,Z,Z⟩
theorem SE {X T:List Row} {i7 s':AH} {was vu:AD} {e:Int} (pf:ns=s.length) (ml:nw=vv.length) (hnd:nd=dd.length) (hT:RdT T As ns cs s) (hW:SlR .u8 T vv was) (Wb:was.length=dd.length) (hS:DStep K N k so od sz d s was dd e s' vu i7) (cg:aP s) (hN:K=2\/K=4\/K=6->s.length<=120) (hl:dd.length<=100) (hd:RdC B w0 (X++T) Ab nb cb 1 (ints .u8 d)) (Tn:nb=d.length) (hD:d.length<=40000):
  CT 31 #[PG gx, .agg #[I K,sl Ab nb cb,I N,I k,I so,I od,I sz]] B w0 (DX gx As ns cs Aw nw cw vv Ad nd cd dd (X++T)) (λv R'=> ∃(nr:List Row) (A8:AF) (c8:Nat) (A7:AF) (c7:Nat) (Kk:AG) (A6:AF) (c6:Nat),v=I e/\R'=DX gx A8 s'.length c8 A7 Kk.length c7 Kk A6 i7.length c6 i7 (X++(nr++T))/\RdT (nr++T) A8 s'.length c8 s'/\SlR .u8 (nr++T) Kk vu):=by
 have hs:RdC B w0 (X++T) As ns cs 1 (ints .u8 s):=RdC.right (hT.rdc _ _) X;have hvw:vv.length=was.length:=hW.1;subst pf;subst ml;subst hnd
 have stay: ∀(v:Value) (R':List Row),v=I e/\R'=DX gx As s.length cs Aw vv.length cw vv Ad dd.length cd dd (X++T)->s'=s->vu=was->i7=dd-> ∃rn,(∀w,Hp B w0 w R'->Hp B w0 w rn)/\ ∃(nr:List Row) (A8:AF) (c8:Nat) (A7:AF) (c7:Nat) (Kk:AG) (A6:AF) (c6:Nat),v=I e/\rn=DX gx A8 s'.length c8 A7 Kk.length c7 Kk A6 i7.length c6 i7 (X++(nr++T))/\RdT (nr++T) A8 s'.length c8 s'/\SlR .u8 (nr++T) Kk vu:=by
  rintro v R' ⟨h1,h2⟩ rfl rfl rfl;exact⟨R',λ_ h=>h,[],As,cs,Aw,cw,vv,Ad,cd,h1,h2,hT,hW⟩
 cases hS with
 |set h=>
  subst h;exact(aNn Z Z hd Tn G).conv λv R' ⟨A8,c8,h1,h2⟩=>⟨_,λw h=>Hp.sink (h2▸h),_,A8,c8,none,0,[],none,0,h1,Z,RdT.head,SlR.nilR _ _⟩
 |turn h hn=>
  subst h;have Kn:=hN cC;rcases hn with rfl|rfl
  ·exact(ZL rfl rfl rfl hs cg G G).conv λv R' ⟨A8,c8,A7,c7,A6,c6,h1,h2⟩=>⟨_,λw h=>Hp.sink (h2▸h),_,A8,c8,A7,c7,vv++[sl As s.length cs],A6,c6,h1,by rw[ah,ah];rfl,RdT.head,(hW.push rfl hT).right [_]⟩
  ·exact(ZK rfl rfl rfl hs cg G G).conv λv R' ⟨A8,c8,A7,c7,A6,c6,h1,h2⟩=>⟨_,λw h=>Hp.sink (h2▸h),_,A8,c8,A7,c7,vv++[sl As s.length cs],A6,c6,h1,by rw[ah,ah];rfl,RdT.head,(hW.push rfl hT).right [_]⟩
 |turnN h hn=>
  subst h;exact(VI Z Z Z hn).conv λv R' h=>stay v R' h Z Z Z
 |front h=>
  subst h;have Kn:=hN cC;exact(ZN Z Z Z hs cg G G).conv λv R' ⟨A8,c8,A7,c7,A6,c6,h1,h2⟩=>⟨_,λw h=>Hp.sink (h2▸h),_,A8,c8,A7,c7,vv++[sl As s.length cs],A6,c6,h1,by rw[ah,ah];rfl,RdT.head,(hW.push rfl hT).right [_]⟩
 |box h hk hp=>
  subst h;have Kn:=hN cC;exact(ZO Z Z Z hs cg Kn G hp hk).conv λv R' ⟨A8,c8,A7,c7,A6,c6,h1,h2⟩=>⟨_,λw h=>Hp.sink (h2▸h),_,A8,c8,A7,c7,vv++[sl As s.length cs],A6,c6,h1,by rw[ah,ah];rfl,RdT.head,(hW.push rfl hT).right [_]⟩
 | boxN h hn=>
  subst h;by_cases h3:k=3
  ·subst h3;exact(ZP Z Z Z).conv λv R' h=>stay v R' h Z Z Z
  ·exact(ZQ rfl rfl rfl hs h3 (hn.resolve_left h3)).conv λv R' h=>stay v R' h rfl rfl rfl
 |undo h hw Yh=>
  subst hw;subst Yh;obtain⟨v0,A,c,rfl,g1,g2⟩:=hW.pop;have hv:=g1.1;simp only[ah,gq] at Wb hl;have hx: ∀(v:Value) (R':List Row),v=I 0/\R'=DX gx A s'.length c Aw v0.length cw v0 Ad i7.length cd i7 (X++T)->_:=λv R' h=>(⟨R',λ_ h=>h,[],A,c,Aw,cw,v0,Ad,cd,h.1,h.2,g2,g1⟩: ∃rn,(∀w,Hp B w0 w R'->Hp B w0 w rn)/\ ∃(nr:List Row) (A8:AF) (c8:Nat) (A7:AF) (c7:Nat) (Kk:AG) (A6:AF) (c6:Nat),v=I 0/\rn=DX gx A8 s'.length c8 A7 Kk.length c7 Kk A6 i7.length c6 i7 (X++(nr++T))/\RdT (nr++T) A8 s'.length c8 s'/\SlR .u8 (nr++T) Kk vu);rcases h with⟨rfl,rfl⟩|⟨rfl,rfl⟩|⟨rfl,rfl⟩
  ·exact(aNu rfl rfl G G).conv hx
  ·exact(aNr rfl rfl G G).conv hx
  ·exact(aNo rfl rfl G G).conv hx
 | undoN h hn=>
  rcases hn with rfl|⟨d0,q,rfl,hq⟩
  ·rcases h with rfl|rfl|rfl
   ·exact aNw.conv λv R' h=>stay v R' h rfl rfl rfl
   ·exact aNt.conv λv R' h=>stay v R' h rfl rfl rfl
   ·exact aNq.conv λv R' h=>stay v R' h rfl rfl rfl
  ·rcases List.eq_nil_or_concat was with rfl|⟨w1,s1,hw1⟩
   ·rw [ah] at Wb;simp at Wb
   rw[List.concat_eq_append] at hw1;subst hw1;obtain⟨v0,A,c,rfl,g1,g2⟩:=hW.pop;have hv:=g1.1;simp only[ah,gq] at Wb hl;rcases h with rfl|rfl|rfl
   ·exact(aNv rfl rfl G G (λe=>hq (.inl ⟨rfl,e⟩))).conv λv R' h=>stay v R' h rfl rfl rfl
   ·exact(aNs rfl rfl G G (λe=>hq (.inr (.inl ⟨rfl,e⟩)))).conv λv R' h=>stay v R' h rfl rfl rfl
   ·exact(aNp rfl rfl G G (λe=>hq (.inr (.inr ⟨rfl,e⟩)))).conv λv R' h=>stay v R' h rfl rfl rfl
 |other h=>exact(ZM rfl rfl rfl h).conv λv R' h=>stay v R' h rfl rfl rfl
theorem aGj {w:World}:
  CF 35 #[] w (λv R'=>v=bt):=by
 refine fn1 Tryz.func35 Z Z Z ?_;refine wq<|wn Z<|wq<|wa (aD bJo Z (Ct.fresh (λw hw=>MU))) ?_;rintro _ _⟨_,rfl,am,rfl,rfl⟩;refine wn Z<|wq<|wm Z<|wy (xK lu Z Z)<|wm Z<|aB Z Z<|wm Z<|aB Z Z<|wy (dW (v:= .agg #[I 3,sl none 0 0,I 0,I 0,I 0,I 0,I 0]) Z (λw=>cA))<|aB rfl rfl<|wa (aD bJn rfl ((aCp (s:=[])))) ?_;rintro _ _⟨rfl,rfl⟩;refine aB Z Z<|wR Z Z<|wy (aT Z Z)<|wm Z<|aB Z Z<|wm Z<|aB Z Z<|wa (aD bLy Z ((NY Z Z))) ?_;rintro _ _⟨rfl,rfl⟩;refine aB Z Z<|wR Z Z<|wy (aT Z Z)<|wm Z<|aB Z Z<|wm Z<|aB Z Z<|wa (aD bJm Z ((ET Z Z cC))) ?_;rintro _ _⟨fk,fm,rfl,rfl⟩;refine aB Z Z<|wy (aN af Z)<|aB Z Z<|wR Z Z<|wy (aT Z Z)<|wn Z<|aQ [] 99 cC Z ?_;refine⟨_,Z,?_⟩;rfl
variable {B g nt ct np cp nd cd:Nat} {w0:World} {R:List Row} {At Ap Ad:AF} {s:AH} {l:AE} {so od sz k N:Int}
theorem aHz (kt:nt=s.length) (km:np=l.length):
  CT 61 #[PG g, .agg #[I 3,I so,I od,I sz]] B w0 (DK g At nt ct Ap np cp s l R) (λv R'=>v=I 1/\R'=DK g At nt ct Ap np cp s l R):=by
 subst kt;subst km;refine fn1 Jv Z Z Z ?_;refine wq<|wa (bO (sz:=4) Z Z) ?_;rintro _ _⟨am,rfl,rfl⟩;refine wn Z<|aC<|wq<|wy (yF 0 0 bi sz3 Z)<|wy (yL 0 ai Z Z Z)<|wR Z Z<|aA<|bE Z<|wq<|wn Z<|aQ [1,2,3] 4 cC Z ?_;exact⟨_,Z,Z,Z⟩
theorem aIa (kt:nt=s.length) (km:np=l.length) (h3:k≠3) (mn: ¬((0<=k/\k<=3)/\(0<=so/\so<=2)/\(od=0\/od=1)/\(1<=sz/\sz<=16777216))):
  CT 61 #[PG g, .agg #[I k,I so,I od,I sz]] B w0 (DK g At nt ct Ap np cp s l R) (λv R'=>v=I 1/\R'=DK g At nt ct Ap np cp s l R):=by
 subst kt;subst km;refine fn1 Jv Z Z Z ?_;refine wq<|wa (bO (sz:=4) Z Z) ?_;rintro _ _⟨am,rfl,rfl⟩;refine wn Z<|aC<|wq<|wy (yF 0 0 bi sz3 Z)<|wy (yL 0 ai Z Z Z)<|wy (Yl.f (dR Z Z) (h3))<|aA<|aJ Z<|aI<|aC<|bI mixed<|wD 0 Z (aK Z)<|wD 1 Z (aF Z) ?_;refine wD 2 Z (yF 0 0 ik dA Z)<|wD 3 Z (yL 1 af Z Z Z)<|wD 4 Z (dW (v:= .agg #[sl At s.length ct,sl none 0 0]) Z (λw=>cA))<|wD 5 rfl (cB (vs:=[I k,I so,I od,I sz]) (rdr 0 rfl) bi rfl fD rfl rfl (au rfl) rfl)<|wC 6 rfl (aD bOn rfl (Ct.quiet (λw hw=>bEa ((rdr 2 rfl) w hw) mn))) ?_;rintro _ _⟨rfl,rfl⟩;refine⟨.inr hiZ,?_⟩;refine wD 7 Z (aK Z)<|wD 8 Z (iE Z Z)<|wD 9 Z (iE Z Z)<|wD 10 Z (bC Z)<|wD 11 Z (bC Z)<|wN<|aC<|wq<|wm Z<|wy (Yl.t (fE Z Z) cC)<|aA<|bE Z<|wq ?_;refine wm Z<|wn Z<|aQ [1,2,3] 4 cC Z ?_;exact⟨_,Z,Z,Z⟩
theorem aHy (kt:nt=s.length) (km:np=l.length) (cg:aP s) (hN:s.length<=120) (hl:l.length<=1000) (hp:(0<=so/\so<=2)/\(od=0\/od=1)/\(1<=sz/\sz<=16777216)) (hk:k=0\/k=1\/k=2):
  CT 61 #[PG g, .agg #[I k,I so,I od,I sz]] B w0 (DK g At nt ct Ap np cp s l R) (λv R'=> ∃(A8:AF) (c8:Nat) (A7:AF) (c7:Nat),v=I 0/\R'=(rc 102 2 g [sl A8 ((jZ k so od sz s).length) c8,sl A7 ((l++[(3,0)]).length) c7])::(ru 5 A8 ((jZ k so od sz s).length) c8 (jZ k so od sz s))::⟨106,2,A7,(l++[(3,0)]).length,c7,prs (l++[(3,0)]),false⟩::R):=by
 subst kt;subst km;have j7:=zV (t:=k) (so:=so) (o:=od) (sz:=sz) cg hN G;refine fn1 Jv Z Z Z ?_;refine wq<|wa (bO (sz:=4) Z Z) ?_;rintro _ _⟨am,rfl,rfl⟩;refine wn Z<|aC<|wq<|wy (yF 0 0 bi sz3 Z)<|wy (yL 0 ai Z Z Z)<|wy (Yl.f (dR Z Z))<|aA<|aJ Z<|aI<|aC<|bI mixed<|wD 0 Z (aK Z)<|wD 1 Z (aF Z) ?_;refine wD 2 Z (yF 0 0 ik dA Z)<|wD 3 Z (yL 1 af Z Z Z)<|wD 4 Z (dW (v:= .agg #[sl At s.length ct,sl none 0 0]) Z (λw=>cA))<|wD 5 rfl (cB (vs:=[I k,I so,I od,I sz]) (rdr 0 rfl) bi rfl fD rfl rfl (au rfl) rfl)<|wC 6 rfl (aD bOn rfl (Ct.fresh (λw hw=>bDz (u:=s) ((rdr 2 rfl) w hw) cg G hp hk))) ?_;rintro _ _⟨_,rfl,fk,fm,rfl,rfl⟩;refine⟨.inr hrZ,?_⟩;refine wD 7 Z (aK Z)<|wD 8 Z (iE Z Z)<|wD 9 Z (iE Z Z)<|wD 10 Z (bC Z)<|wD 11 Z (bC Z)<|wN<|aC<|wq<|wm Z<|wy (Yl.f (fE Z Z) cC)<|aA<|aJ Z<|aI<|aC ?_;refine wq<|wm Z<|wy (aN af Z)<|wy (Yl.f (dE Z Z))<|aA<|aJ Z<|aI<|wq<|wm Z<|wm Z<|wy (dW (v:= .agg #[I 3,I 0]) Z (λw=>cA))<|wa (aD bEd rfl (Ct.pick [2,4,0,1,3] 5 cC rfl (yC rfl G))) ?_;rintro _ _⟨iu,js,rfl,rfl⟩;refine wn Z<|aQ [0,2,1] 5 cC Z ?_;exact⟨_,Z,_,_,_,_,Z,Z⟩
theorem aHf (kt:nt=s.length) (km:np=l.length):
  CT 30 #[PG g, .agg #[I 6,sl Ad nd cd,I N,I 3,I so,I od,I sz]] B w0 (DK g At nt ct Ap np cp s l R) (λv R'=>v=I 1/\R'=DK g At nt ct Ap np cp s l R):=by
 subst kt;subst km;refine fn1 qz Z Z Z ?_;refine wq<|wa (bO (sz:=7) Z Z) ?_;rintro _ _⟨am,rfl,rfl⟩;refine wn Z<|aC<|wq<|wm Z<|wy (dL lu Z Z)<|aA<|aJ Z<|aI<|aC<|wq<|wy (yF 0 0 dz sz3 Z)<|wy (yL 0 ai Z Z Z) ?_;refine aA<|aH<|wq<|wQ Z Z<|wn Z<|aJ Z<|wq<|wQ Z Z<|wn Z<|aJ Z<|aC ?_;refine aL<|wQ Z Z<|wn Z<|aJ Z<|wq<|wR Z Z<|wn Z<|bE Z<|wq<|wm Z<|wy (yF 3 3 dz fD Z) ?_;refine wy (cB (vs:=[I 3,I so,I od,I sz]) (rdr 0 Z) bi Z fD Z Z (au Z) Z)<|wa (aD bJk Z (Ct.pick [1,2,3,0] 4 cC Z (aHz Z Z))) ?_;rintro _ _⟨rfl,rfl⟩;refine wn Z<|aQ [0,1,2] 4 cC Z ?_;exact⟨_,Z,Z,Z⟩
theorem aHg (kt:nt=s.length) (km:np=l.length) (h3:k≠3) (mn: ¬((0<=k/\k<=3)/\(0<=so/\so<=2)/\(od=0\/od=1)/\(1<=sz/\sz<=16777216))):
  CT 30 #[PG g, .agg #[I 6,sl Ad nd cd,I N,I k,I so,I od,I sz]] B w0 (DK g At nt ct Ap np cp s l R) (λv R'=>v=I 1/\R'=DK g At nt ct Ap np cp s l R):=by
 subst kt;subst km;refine fn1 qz Z Z Z ?_;refine wq<|wa (bO (sz:=7) Z Z) ?_;rintro _ _⟨am,rfl,rfl⟩;refine wn Z<|aC<|wq<|wm Z<|wy (dL lu Z Z)<|aA<|aJ Z<|aI<|aC<|wq<|wy (yF 0 0 dz sz3 Z)<|wy (yL 0 ai Z Z Z) ?_;refine aA<|aH<|wq<|wQ Z Z<|wn Z<|aJ Z<|wq<|wQ Z Z<|wn Z<|aJ Z<|aC ?_;refine aL<|wQ Z Z<|wn Z<|aJ Z<|wq<|wR Z Z<|wn Z<|bE Z<|wq<|wm Z<|wy (yF 3 3 dz fD Z) ?_;refine wy (cB (vs:=[I k,I so,I od,I sz]) (rdr 0 Z) bi Z fD Z Z (au Z) Z)<|wa (aD bJk Z (Ct.pick [1,2,3,0] 4 cC Z (aIa Z Z h3 mn))) ?_;rintro _ _⟨rfl,rfl⟩;refine wn Z<|aQ [0,1,2] 4 cC Z ?_;exact⟨_,Z,Z,Z⟩
theorem aHe (kt:nt=s.length) (km:np=l.length) (cg:aP s) (hN:s.length<=120) (hl:l.length<=1000) (hp:(0<=so/\so<=2)/\(od=0\/od=1)/\(1<=sz/\sz<=16777216)) (hk:k=0\/k=1\/k=2):
  CT 30 #[PG g, .agg #[I 6,sl Ad nd cd,I N,I k,I so,I od,I sz]] B w0 (DK g At nt ct Ap np cp s l R) (λv R'=> ∃(A8:AF) (c8:Nat) (A7:AF) (c7:Nat),v=I 0/\R'=(rc 102 2 g [sl A8 ((jZ k so od sz s).length) c8,sl A7 ((l++[(3,0)]).length) c7])::(ru 5 A8 ((jZ k so od sz s).length) c8 (jZ k so od sz s))::⟨106,2,A7,(l++[(3,0)]).length,c7,prs (l++[(3,0)]),false⟩::R):=by
 subst kt;subst km;refine fn1 qz Z Z Z ?_;refine wq<|wa (bO (sz:=7) Z Z) ?_;rintro _ _⟨am,rfl,rfl⟩;refine wn Z<|aC<|wq<|wm Z<|wy (dL lu Z Z)<|aA<|aJ Z<|aI<|aC<|wq<|wy (yF 0 0 dz sz3 Z)<|wy (yL 0 ai Z Z Z) ?_;refine aA<|aH<|wq<|wQ Z Z<|wn Z<|aJ Z<|wq<|wQ Z Z<|wn Z<|aJ Z<|aC ?_;refine aL<|wQ Z Z<|wn Z<|aJ Z<|wq<|wR Z Z<|wn Z<|bE Z<|wq<|wm Z<|wy (yF 3 3 dz fD Z) ?_;refine wy (cB (vs:=[I k,I so,I od,I sz]) (rdr 0 Z) bi Z fD Z Z (au Z) Z)<|wa (aD bJk Z (Ct.pick [1,2,3,0] 4 cC Z (aHy Z Z cg hN hl hp hk))) ?_;rintro _ _⟨fk,fm,iu,js,rfl,rfl⟩;refine wn Z<|aQ [0,1,2] 4 cC Z ?_;exact⟨_,Z,_,_,_,_,Z,Z⟩
theorem aCn (kt:nt=s.length) (km:np=l.length) (hk:N≠1/\N≠2):
  CT 30 #[PG g, .agg #[I 2,sl Ad nd cd,I N,I k,I so,I od,I sz]] B w0 (DK g At nt ct Ap np cp s l R) (λv R'=>v=I 1/\R'=DK g At nt ct Ap np cp s l R):=by
 subst kt;subst km;refine fn1 qz Z Z Z ?_;refine wq<|wa (bO (sz:=7) Z Z) ?_;rintro _ _⟨am,rfl,rfl⟩;refine wn Z<|aC<|wq<|wm Z<|wy (dL lu Z Z)<|aA<|aJ Z<|aI<|aC<|wq<|wy (yF 0 0 dz sz3 Z)<|wy (yL 0 ai Z Z Z) ?_;refine aA<|aH<|wq<|wQ Z Z<|wn Z<|aJ Z<|wq<|wR Z Z<|wn Z<|bE Z<|aC ?_;refine aL<|wm Z<|wy (yF 2 2 dz sz3 Z)<|wy (yL 0 ai Z Z Z)<|wa (aD bJl Z (Ct.pick [1,2,3,0] 4 cC Z (YG Z Z hk))) ?_;rintro _ _⟨rfl,rfl⟩;refine wn Z<|aQ [0,1,2] 4 cC Z ?_;exact⟨_,Z,Z,Z⟩
theorem aHc {K:Int} (kt:nt=s.length) (km:np=l.length) (hK:K<1\/7<K):
  CT 30 #[PG g, .agg #[I K,sl Ad nd cd,I N,I k,I so,I od,I sz]] B w0 (DK g At nt ct Ap np cp s l R) (λv R'=>v=I 1/\R'=DK g At nt ct Ap np cp s l R):=by
 subst kt;subst km;refine fn1 qz Z Z Z ?_;refine wq<|wa (bO (sz:=7) Z Z) ?_;rintro _ _⟨am,rfl,rfl⟩;refine wn Z<|aC<|wq<|wm Z<|wy (dL lu Z Z)<|aA<|aJ Z<|aI<|aC<|wq<|wy (yF 0 0 dz sz3 Z)<|wy (yL 0 ai Z Z Z) ?_;refine aA<|aH<|wq<|wy (Yl.f (dR Z Z))<|wn Z<|aJ Z<|wq<|wy (Yl.f (dR Z Z))<|wn Z<|aJ Z<|aC ?_;refine aL<|wy (Yl.f (dR Z Z))<|wn Z<|aJ Z<|wq<|wy (Yl.f (dR Z Z))<|wn Z<|aJ Z<|wq<|wy (Yl.f (dR Z Z))<|wg Z ?_;refine aA<|aJ Z<|wq<|wy (Yl.f (dR Z Z))<|wn Z<|aJ Z<|wq<|wy (Yl.f (dR Z Z))<|wn Z<|aJ Z<|aI ?_;refine wq<|wn Z<|aQ [1,2,3] 4 cC Z ?_;exact⟨_,Z,Z,Z⟩
end Go.Proofs.YtdbebmmhdefgdaaGreat
