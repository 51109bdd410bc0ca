/- Own work. -/
import Derived.Lib.BitFns
import Derived.Lib.BytesEntry
import Derived.Lib.AppendZeros
import Derived.Lib.MakeNoZero
import Derived.Laws.Externs
import Derived.Test.YtnbfoleohpdhjaaGreatZc2
set_option linter.unusedVariables false
set_option linter.unusedSimpArgs false
set_option maxHeartbeats 8000000
namespace Go.Pure
open Go Go.Eng
theorem JW {T:Int->Int->Prop} [DecidableRel T] (Pp: ∀x y,T x y-> ¬T y x): ∀ {o:AH} {q:Nat},o.Pairwise T->(h:q<o.length)->o.countP (λx=>decide (T x o[q]))=q
 |[],q,_,h=>by simp at h
 |a::o,0,hs,h=>by
  rw[Cm];intro x hx;simp only[List.getElem_cons_zero,jb];rcases jd.1 hx with rfl|hx
  ·exact λh=>Pp _ _ h h
  ·exact Pp _ _ ((ja.1 hs).1 x hx)
 |a::o,q+1,hs,h=>by
  obtain⟨h1,h2⟩:=ja.1 hs;have hq:q<o.length:=by simp only[dn] at h;omega
  simp only[List.getElem_cons_succ];rw[List.countP_cons_of_pos (by simpa using h1 _ (lu hq)),JW Pp h2 hq]
theorem aKm {T:Int->Int->Prop} [DecidableRel T] (Pp: ∀x y,T x y-> ¬T y x) {o:AH} {n:Nat} (hp:o.Perm (iota n)) (hs:o.Pairwise T) {q:Int} (q0:0<=q) (hq:q<n):(((iota n).countP λx=>decide (T x (rd o q)):Nat):Int)=q:=by
 have hl:o.length=n:=by rw[hp.length_eq,bA]
 rw[<-hp.countP_eq,gB q0 G,JW Pp hs G];omega
theorem vP {n:Nat} {q:Int} (q0:0<=q) (hq:q<n):rd (iota n) q=q:=by
 unfold iota;rw[iT q0 hq];omega
theorem GD {n:Nat} {f:Int->Int} (hf: ∀x:Int,0<=x->x<n->0<=f x/\f x<n) (hi: ∀x y:Int,0<=x->x<n->0<=y->y<n->f x=f y->x=y):((iota n).map f).Perm (iota n):=by
 refine sG ?_ (λx hx=> ?_) cD
 ·refine ik.2 (lm (λ{a b} ha hb yr e=> ?_) (fB n));have h1:=aZ.1 ha;have h2:=aZ.1 hb;exact yr (hi a b h1.1 h1.2 h2.1 h2.2 e)
 ·obtain ⟨y,hy,rfl⟩:=ii.1 hx;have h:=aZ.1 hy;exact aZ.2 (hf y h.1 h.2)
def tl (l:AH) (i k:Int):Prop:=rd l i<rd l k\/rd l i=rd l k/\i<k
instance (l:AH):DecidableRel (tl l):=λi k=>by unfold tl;infer_instance
theorem aTl {l:AH} (x y:Int) (h:tl l x y): ¬tl l y x:=by unfold tl at*;omega
def lfC (l:AH) (k:Int):Int:=((iota l.length).countP λj=>decide (tl l j k):Nat)
def Byt (l:AH):Prop:= ∀x∈l,0<=x/\x<256
section
variable {l:AH}
theorem lJ (hl:Byt l):(dD (iota l.length) l 256).Perm (iota l.length)/\(dD (iota l.length) l 256).Pairwise (tl l):=
 ⟨oZ λi hi=>by have h:=aZ.1 hi;exact hl _ (bG h.1 h.2),iV (yD _) 256⟩
theorem bMr (hl:Byt l) {q:Int} (q0:0<=q) (hq:q<l.length):lfC l (rd (dD (iota l.length) l 256) q)=q:=aKm aTl (lJ hl).1 (lJ hl).2 q0 hq
theorem aBs (hl:Byt l) {i:Int} (i0:0<=i) (hi:i<l.length): ∃q:Int,0<=q/\q<l.length/\rd (dD (iota l.length) l 256) q=i/\lfC l i=q:=by
 obtain⟨u,hu,e⟩:=ib.1 ((lJ hl).1.symm.subset (aZ.2 ⟨i0,hi⟩));have hlen:=(lJ hl).1.length_eq;rw[bA] at hlen;have e2:rd (dD (iota l.length) l 256) (u:Int)=i:=by rw[jK hu];exact e
 refine⟨u,G,G,e2,?_⟩;rw[<-e2];exact bMr hl G G
theorem aBt (hl:Byt l) {i:Int} (i0:0<=i) (hi:i<l.length):0<=lfC l i/\lfC l i<l.length:=by
 obtain⟨q,q0,q1,_,e⟩:=aBs hl i0 hi;omega
theorem bHn (hl:Byt l) {i k:Int} (i0:0<=i) (hi:i<l.length) (k0:0<=k) (hk:k<l.length):lfC l i<lfC l k↔tl l i k:=by
 obtain⟨p,p0,p1,ep,fp⟩:=aBs hl i0 hi;obtain⟨q,q0,q1,eq,fq⟩:=aBs hl k0 hk;have hlen:=(lJ hl).1.length_eq;rw[bA] at hlen;have hs:=(lJ hl).2;rw[fp,fq];constructor
 ·intro h;have:=fP hs p0 h G;rwa[ep,eq] at this
 ·intro h;rcases jl p q with a|a|a
  ·exact a
  ·subst a;rw[<-ep,<-eq] at h;exact absurd h (aTl _ _ h)
  ·have:=fP hs q0 a G;rw[ep,eq] at this;exact absurd h (aTl _ _ this)
theorem aXf (hl:Byt l) {i k:Int} (i0:0<=i) (hi:i<l.length) (k0:0<=k) (hk:k<l.length) (e:lfC l i=lfC l k):i=k:=by
 have h1:=bHn hl i0 hi k0 hk;have h2:=bHn hl k0 hk i0 hi;unfold tl at h1 h2;rcases jl (rd l i) (rd l k) with a|a|a
 ·have:=h1.2 (.inl a);omega
 ·rcases jl i k with b|b|b
  ·have:=h1.2 (.inr ⟨a,b⟩);omega
  ·exact b
  ·have:=h2.2 (.inr ⟨a.symm,b⟩);omega
 ·have:=h2.2 (.inl a);omega
def zat (a:AH):Int:=if (0:Int)∈a then(a.idxOf 0:Int)+1 else 0
def ofT (s a:AH):AH:=(a.filter λx=>decide (x≠0)).map λx=>rd s (x-1)
def ofL (s a:AH):AH:=(if 0<s.length then [rd s (s.length-1)] else [])++ofT s a
theorem YZ {a:AH} (hd:a.Nodup) {i:Int} (i0:0<=i) (hi:i<a.length):zat (a.take (i+1).toNat)=if rd a i=0 then i+1 else zat (a.take i.toNat):=by
 rw[dJ i0 hi];split
 ·rename_i e
  have vi:(0:Int)∉a.take i.toNat:=by
   intro h;obtain⟨q,hq,e2⟩:=ib.1 h;rw[ax] at hq;have:=kM hd (i:=(q:Int)) (j:=i) G G i0 hi (by rw[wo] at e2;rw[e,gB G G];simp only[dh];exact e2);omega
  unfold zat;rw[dm (by simp[e]),Im,df vi,e];simp only[ax,List.idxOf_cons_self];omega
 ·rename_i e;have vi:(0:Int)∉[rd a i]:=by simp;exact λh=>e h.symm
  unfold zat;by_cases h:(0:Int)∈a.take i.toNat
  ·rw[dm h,dm (Ga _ h),Im,dm h]
  ·rw[df h,df (by rw[ek];exact λg=>g.elim h vi)]
theorem aBh {s a:AH} {i:Int} (i0:0<=i) (hi:i<a.length):ofT s (a.take (i+1).toNat)=ofT s (a.take i.toNat)++if rd a i=0 then [] else [rd s (rd a i-1)]:=by
 unfold ofT;rw[dJ i0 hi,uk,jc];congr 1;by_cases h:rd a i=0
 ·rw[dm h,lh (by simpa using h)];rfl
 ·rw[df h,pg (by simpa using h)];rfl
variable {s a:AH}
theorem kJ {u v:AH} {j:Int} (h0:0<=j) (h:j<u.length):rd (u++v) j=rd u j:=by
 unfold rd;rw[ai,ai,ji G]
theorem iG {u v:AH} {j:Int} (h:(u.length:Int)<=j):rd (u++v) j=rd v (j-u.length):=by
 unfold rd;rw[ai,ai,jk G,show j.toNat-u.length=(j-u.length).toNat by omega]
theorem xO {u:AH} {f:Int->Int} {j:Int} (h0:0<=j) (h:j<u.length):rd (u.map f) j=f (rd u j):=by
 rw[gB h0 (by rw[bu];exact h),yt,<-gB h0 h]
theorem uR (hp:a.Perm (iota s.length)):(ofL s a).length=s.length/\(0<s.length->1<=zat a/\zat a<=s.length/\rd a (zat a-1)=0)/\(s.length=0->zat a=0)/\
  ∀j:Int,0<=j->j<s.length->rd (ofL s a) j=if j=0 then rd s (s.length-1) else if j<zat a then rd s (rd a (j-1)-1) else rd s (rd a j-1):=by
 have hl:a.length=s.length:=by rw[hp.length_eq,bA]
 rcases fo s.length with hz|hn
 ·have e:a=[]:=dw G;subst e;refine⟨by unfold ofL ofT;rw[df G];simp;omega,λh=>G,λ_=>rfl,λj h0 h=>G⟩
 have hnd:a.Nodup:=hp.symm.nodup (fB _);have ft:(0:Int)∈a:=hp.symm.subset (aZ.2 ⟨ni 0,G⟩);obtain⟨a1,a2,e⟩:=List.append_of_mem ft
 have Ls:(0:Int)∉a1:=λh=>by
  rw[e] at hnd;exact(yf.1 hnd).2.2 0 h 0 cD rfl
 have Ro:(0:Int)∉a2:=λh=>by
  rw[e] at hnd;exact(xg.1 (yf.1 hnd).2.1).1 h
 have hzat:zat a=(a1.length:Int)+1:=by
  unfold zat;rw[dm ft,e,Im,df Ls];simp
 have hT:ofT s a=(a1.map λx=>rd s (x-1))++a2.map λx=>rd s (x-1):=by
  unfold ofT;have f1:a1.filter (λx=>decide (x≠0))=a1:=Cn.2 λx hx=>ky λh=>Ls (by rw[<-h];exact hx);have f2:a2.filter (λx=>decide (x≠0))=a2:=Cn.2 λx hx=>ky λh=>Ro (by rw[<-h];exact hx);rw[e,uk,lh cD,f1,f2,jc]
 have hlen:a1.length+a2.length+1=s.length:=by rw[<-hl,e];simp;omega
 have hL:ofL s a=rd s (s.length-1)::((a1.map λx=>rd s (x-1))++a2.map λx=>rd s (x-1)):=by
  unfold ofL;rw[dm hn,hT];rfl
 refine⟨by rw[hL];simp;omega,λ_=>⟨G,G,?_⟩,λh=>G,λj j0 j1=> ?_⟩
 ·rw [hzat,e,iG G,show(a1.length:Int)+1-1-a1.length=0 by omega];rfl
 ·rw [hL];by_cases hj:j=0
  ·subst hj;rw[dm rfl];rfl
  ·rw [df hj]
   have ec:rd (rd s (s.length-1)::((a1.map λx=>rd s (x-1))++a2.map λx=>rd s (x-1))) j=rd ((a1.map λx=>rd s (x-1))++a2.map λx=>rd s (x-1)) (j-1):=by
    unfold rd;rw[show j.toNat=(j-1).toNat+1 by omega];rfl
   rw[ec];split
   ·rename_i h;rw[kJ G (by rw[bu];omega),xO G G,e,kJ G G]
   ·rename_i h;rw[iG (by rw[bu];omega),xO (by rw[bu];omega) (by rw[bu];omega),e,iG G];rw[bu]
    have:rd ((0:Int)::a2) (j-a1.length)=rd a2 (j-1-a1.length):=by
     unfold rd;rw[show(j-a1.length).toNat=(j-1-a1.length).toNat+1 by omega];rfl
    rw[this]
def ixr (m r:Int):Int:=if m<r then r-1 else r
def kK (l:AH) (m:Int):Nat->Int
 |0=>0
 |t+1=>lfC l (ixr m (kK l m t))+1
def sV (l:AH) (m:Int):AH:=(List.range l.length).map λi:Nat=>rd l (ixr m (kK l m (l.length-1-i)))
def bBv (l:AH) (m:Int):Prop:=min (l.length:Int) 1<=m/\m<=l.length
def bSw (l:AH) (m:Int):Prop:= ∀t:Nat,t<l.length->kK l m t≠m
def bLx (l:AH) (m:Int):Prop:=bBv l m/\bSw l m/\kK l m l.length=m
theorem zU (l:AH) (m:Int):(sV l m).length=l.length:=by simp[sV]
theorem aAs {m i:Int} (i0:0<=i) (hi:i<l.length):rd (sV l m) i=rd l (ixr m (kK l m (l.length-1-i).toNat)):=by
 unfold sV;rw[iT i0 hi,show l.length-1-i.toNat=((l.length:Int)-1-i).toNat by omega]
theorem XR {m r:Int} {n:Nat} (h0:0<=r) (h1:r<=n) (cg:r≠m) (qn:0<=m) (hm:m<=n) (hn:0<n):0<=ixr m r/\ixr m r<n:=by
 unfold ixr;split<;>omega
theorem bKo {m r q:Int} (hr:r≠m) (hq:q≠m):ixr m r<ixr m q↔r<q:=by
 unfold ixr;split<;>split<;>omega
theorem aLc {m r q:Int} (hr:r≠m) (hq:q≠m) (h:ixr m r=ixr m q):r=q:=by
 unfold ixr at h;split at h<;>split at h<;>omega
theorem aEa (hl:Byt l) {m:Int} (hm:bBv l m): ∀t:Nat,(∀u:Nat,u<t->kK l m u≠m)->t<=l.length->0<=kK l m t/\kK l m t<=l.length
 |0,_,_=>by unfold kK;omega
 |t+1,h,ht=>by
  have ih:=aEa hl hm t (λu hu=>h u G) G;have hb:=XR (n:=l.length) ih.1 ih.2 (h t G) (by have:=hm.1;omega) hm.2 G;have:=aBt hl hb.1 hb.2;rw[kK];omega
theorem aBe {x:Int} (x0:0<=x) (hx:x<s.length) {y:Int} (hy:(s.length:Int)<=y): ¬bV s x y:=gW _ _ (EI x0 hx hy)
theorem aWd {j k:Int} (j0:0<=j) (hj:j<s.length) (k0:0<=k) (hk:k<s.length):bV s j k↔rd s j<rd s k\/rd s j=rd s k/\bV s (j+1) (k+1):=by
 rw[oD j0 hj k0 hk,iI]
end
end Go.Pure
namespace Go.Pure
open Go Go.Eng
section
variable {l s a:AH}
def cT (s:AH) (x y:Int):Prop:=cmpL (s.drop x.toNat) (s.drop y.toNat)<0
instance (s:AH):DecidableRel (cT s):=λx y=>by unfold cT;infer_instance
theorem YK {x y:Int}:cT s x y↔bV s x y:=iI
theorem bQp (x y:Int) (h:cT s x y): ¬cT s y x:=λh'=>gW _ _ (YK.1 h) (YK.1 h')
def EG (s:AH) (k:Int):Int:=((iota s.length).countP λj=>decide (cT s j k):Nat)
def mK (s:AH) (k:Int):Int:=if k<s.length then EG s k+1 else 0
theorem aVt (hp:a.Perm (iota s.length)) (ho:a.Pairwise (bV s)) {q:Int} (q0:0<=q) (hq:q<s.length):EG s (rd a q)=q:=aKm bQp hp (ho.imp λh=>YK.2 h) q0 hq
theorem OS (hp:a.Perm (iota s.length)) (ho:a.Pairwise (bV s)) {k:Int} (k0:0<=k) (hk:k<s.length):(0<=EG s k/\EG s k<s.length)/\rd a (EG s k)=k:=by
 obtain⟨u,hu,e⟩:=ib.1 (hp.symm.subset (aZ.2 ⟨k0,hk⟩));have hlen:=hp.length_eq;rw[bA] at hlen;have e2:rd a (u:Int)=k:=by rw[jK hu];exact e
 have e3:=aVt hp ho (q:=(u:Int)) G G;rw[e2] at e3;rw[e3];exact⟨G,e2⟩
theorem aFv {j k:Int} (j0:0<=j) (hj:j<=s.length) (k0:0<=k) (hk:k<=s.length):mK s j<mK s k↔bV s j k:=by
 obtain⟨a,hp,ho⟩:=qZ s;have hlen:=hp.length_eq;rw[bA] at hlen;unfold mK;rcases cz j s.length with a1|a1
 ·rw [dm a1];have b6:=OS hp ho j0 a1;rcases cz k s.length with b1|b1
  ·rw [dm b1];have po:=OS hp ho k0 b1;constructor
   ·intro h;have:=fP ho b6.1.1 (by omega:EG s j<EG s k) G;rwa[b6.2,po.2] at this
   ·intro h;rcases jl (EG s j) (EG s k) with c|c|c
    ·omega
    ·rw [c,po.2] at b6;rw[<-b6.2] at h;exact absurd h (gW _ _ h)
    ·have:=fP ho po.1.1 c G;rw[b6.2,po.2] at this;exact absurd h (gW _ _ this)
  ·rw [df G];exact⟨λh=>G,λh=>absurd h (aBe j0 a1 b1)⟩
 ·rw [df G];rcases cz k s.length with b1|b1
  ·rw [dm b1];have po:=OS hp ho k0 b1;exact⟨λ_=>EI k0 b1 a1,λ_=>G⟩
  ·rw [df G];obtain rfl:j=k:=G
   exact⟨λh=>G,λh=>absurd h (gW _ _ h)⟩
theorem BI {k:Int} (k0:0<=k):0<=mK s k/\mK s k<=s.length/\(k<s.length->1<=mK s k):=by
 obtain⟨a,hp,ho⟩:=qZ s;unfold mK;split
 ·rename_i h;have:=OS hp ho k0 h;omega
 ·omega
theorem zD {j k:Int} (j0:0<=j) (hj:j<=s.length) (k0:0<=k) (hk:k<=s.length) (e:mK s j=mK s k):j=k:=by
 have h1:=aFv j0 hj k0 hk;have h2:=aFv k0 hk j0 hj;rcases cz j s.length with a1|a1
 ·rcases cz k s.length with b1|b1
  ·by_cases h:j=k
   ·exact h
   ·rcases EJ ⟨j0,a1⟩ ⟨k0,b1⟩ h with c|c
    ·have:=h1.2 c;omega
    ·have:=h2.2 c;omega
  ·have:=h2.2 (EI j0 a1 b1);omega
 ·rcases cz k s.length with b1|b1
  ·have:=h1.2 (EI k0 b1 a1);omega
  ·omega
theorem nN (hp:a.Perm (iota s.length)) (ho:a.Pairwise (bV s)):zat a=mK s 0:=by
 obtain⟨_,h1,h2,_⟩:=uR hp;unfold mK;rcases fo s.length with hz|hn
 ·rw[df G,h2 hz]
 ·have h:=h1 hn;rw[dm G];have:=aVt hp ho (q:=zat a-1) G G;rw[h.2.2] at this;omega
theorem letter (hp:a.Perm (iota s.length)) (ho:a.Pairwise (bV s)) {k:Int} (k0:0<=k) (hk:k<s.length):(0<=ixr (zat a) (mK s (k+1))/\ixr (zat a) (mK s (k+1))<s.length)/\rd (ofL s a) (ixr (zat a) (mK s (k+1)))=rd s k:=by
 obtain⟨_,h1,_,h3⟩:=uR hp;have hz:=h1 G;have hb:=BI (s:=s) (k:=k+1) G
 have cg:mK s (k+1)≠zat a:=by
  rw[nN hp ho];intro e;have:=zD (s:=s) G G (ni 0) G e;omega
 have ti:=XR hb.1 hb.2.1 cg G hz.2.1 G;refine⟨ti,?_⟩;rw[h3 _ ti.1 ti.2];rcases cz (k+1) s.length with c|c
 ·have Mj:=OS hp ho (k:=k+1) G c;have er:mK s (k+1)=EG s (k+1)+1:=by unfold mK;rw[dm c]
  unfold ixr at ti ⊢;by_cases d:zat a<mK s (k+1)
  ·rw [dm d];rw[df G,df G,show mK s (k+1)-1=EG s (k+1) by omega,Mj.2];congr 1;omega
  ·rw [df d];rw[df G,dm G,show mK s (k+1)-1=EG s (k+1) by omega,Mj.2];congr 1;omega
 ·have er:mK s (k+1)=0:=by unfold mK;rw[df G]
  have e0:ixr (zat a) 0=0:=by unfold ixr;rw[df G]
  rw[er,e0,dm rfl];congr 1;omega
theorem zN (hs:Byt s) (hp:a.Perm (iota s.length)):Byt (ofL s a):=by
 intro x hx;obtain⟨h0,_,_,h3⟩:=uR hp;obtain⟨u,hu,rfl⟩:=ib.1 hx;have Md:=hp.length_eq;rw[bA] at Md;have e:=h3 u G G;rw[jK hu] at e;have hm: ∀j:Int,0<=j->j<s.length->0<=rd s j/\rd s j<256:=λj j0 j1=>hs _ (bG j0 j1);have ha: ∀j:Int,0<=j->j<s.length->0<=rd a j/\rd a j<s.length:=λj j0 j1=>aZ.1 (hp.subset (bG j0 G));have Oy: ∀j:Int,j<0->rd s j=rd s 0:=λj h=>by unfold rd;rw[show j.toNat=(0:Int).toNat by omega]
 have Tk: ∀j:Int,j<s.length->0<=rd s j/\rd s j<256:=λj h=>by
  rcases cz j 0 with c|c
  ·rw[Oy j c];exact hm 0 (ni 0) G
  ·exact hm j c h
 rw[e];split
 ·exact Tk _ G
 ·split
  ·have:=ha ((u:Int)-1) G G;exact Tk _ G
  ·have:=ha u G G;exact Tk _ G
theorem bEu (hs:Byt s) (hp:a.Perm (iota s.length)) (ho:a.Pairwise (bV s)) {k:Int} (k0:0<=k) (hk:k<s.length):lfC (ofL s a) (ixr (zat a) (mK s (k+1)))=EG s k:=by
 obtain⟨h0,h1,_,_⟩:=uR hp
 have cg: ∀j:Int,0<=j->j<s.length->mK s (j+1)≠zat a:=λj j0 j1 e=>by
  rw[nN hp ho] at e;have:=zD (s:=s) G G (ni 0) G e;omega
 have hb:=GD (n:=s.length) (f:=λk=>ixr (zat a) (mK s (k+1))) (λj j0 j1=>(letter hp ho j0 j1).1) λx y x0 x1 y0 y1 e=>by
  have e2:=aLc (cg x x0 x1) (cg y y0 y1) e;have:=zD (s:=s) G G G G e2;omega
 unfold lfC EG;rw[h0,<-hb.countP_eq,List.countP_map];congr 1;refine Ik λj hj=> ?_;have hj:=aZ.1 hj;simp only[Function.comp_apply,jb];rw[YK,aWd hj.1 hj.2 k0 hk,<-aFv G G G G];unfold tl;rw[(letter hp ho hj.1 hj.2).2,(letter hp ho k0 hk).2,bKo (cg j hj.1 hj.2) (cg k k0 hk)]
theorem GH (hs:Byt s) (hp:a.Perm (iota s.length)) (ho:a.Pairwise (bV s)): ∀t:Nat,t<=s.length->kK (ofL s a) (zat a) t=mK s (s.length-t)
 |0,_=>by unfold kK mK;rw[df G]
 |t+1,ht=>by
  rw[kK,GH hs hp ho t G];have:=bEu hs hp ho (k:=(s.length:Int)-((t+1:Nat):Int)) G G;rw[show(s.length:Int)-((t+1:Nat):Int)+1=s.length-(t:Int) by omega] at this;rw[this];unfold mK;rw[dm G]
theorem JP (hs:Byt s) (hp:a.Perm (iota s.length)) (ho:a.Pairwise (bV s)):bLx (ofL s a) (zat a)/\sV (ofL s a) (zat a)=s:=by
 obtain⟨h0,h1,h2,_⟩:=uR hp;refine⟨⟨?_,λt ht=> ?_,?_⟩,?_⟩
 ·unfold bBv;rw[h0];rcases fo s.length with hz|hn
  ·have:=h2 hz;omega
  ·have:=h1 hn;omega
 ·rw [h0] at ht;rw[GH hs hp ho t G,nN hp ho];intro e;have:=zD (s:=s) G G (ni 0) G e;omega
 ·rw [h0,GH hs hp ho _ (ed _),nN hp ho];congr 1;omega
 ·refine bI (by rw[zU,h0]) λi i0 i1=> ?_;rw[zU,h0] at i1;rw[aAs i0 (by rw[h0];exact i1),h0,GH hs hp ho _ G];have:=(letter hp ho i0 i1).2;rwa[show(s.length:Int)-(((s.length:Int)-1-i).toNat:Int)=i+1 by omega]
theorem aWp (hp:a.Perm (iota s.length)) (ho:a.Pairwise (bV s)):((iota s.length).map λk=>ixr (zat a) (mK s (k+1))).Perm (iota s.length):=by
 have cg: ∀j:Int,0<=j->j<s.length->mK s (j+1)≠zat a:=λj j0 j1 e=>by
  rw[nN hp ho] at e;have:=zD (s:=s) G G (ni 0) G e;omega
 exact GD (n:=s.length) (f:=λk=>ixr (zat a) (mK s (k+1))) (λj j0 j1=>(letter hp ho j0 j1).1) λx y x0 x1 y0 y1 e=>by
  have e2:=aLc (cg x x0 x1) (cg y y0 y1) e;have:=zD (s:=s) G G G G e2;omega
theorem EK (hp:a.Perm (iota s.length)) (ho:a.Pairwise (bV s)):(ofL s a).Perm s:=by
 have h0:=(uR hp).1;have h1:=(aWp hp ho).map (rd (ofL s a));rw[ql] at h1
 have e1:(iota s.length).map (rd (ofL s a) ∘ λk=>ixr (zat a) (mK s (k+1)))=s:=by
  conv=>rhs;rw[<-nG s]
  refine uu λk hk=> ?_;have hk:=aZ.1 hk;exact(letter hp ho hk.1 hk.2).2
 have e2:(iota s.length).map (rd (ofL s a))=ofL s a:=by
  have:=nG (ofL s a);rwa[h0] at this
 rw[e1,e2] at h1;exact h1.symm
end
end Go.Pure
namespace Go.Pure
open Go Go.Eng
theorem aBa {l m:AH} (hl:l.Nodup) (hm:m.Nodup) (e: ∀x,x∈l↔x∈m):l.Perm m:=
 sG hl (λx h=>(e x).1 h) (pM hm λx h=>(e x).2 h)
def SK (r k:Nat):AH:=(List.range k).map λt:Nat=>(r+3*t:Int)
theorem aAu (r k:Nat):(SK r k).length=k:=by simp[SK]
theorem aOx (r k:Nat):SK r (k+1)=SK r k++[(r+3*k:Int)]:=by
 unfold SK;rw[zz,jc];rfl
def plc (n r:Nat):AH:=SK r ((n+2-r)/3)
theorem kP (n r:Nat):(plc n r).length=(n+2-r)/3:=aAu _ _
theorem XB {n r:Nat} {t:Int} (h0:0<=t) (h:t<(plc n r).length):rd (plc n r) t=r+3*t:=by
 rw[kP] at h;unfold plc SK;rw[iT h0 G];omega
theorem lD {n r:Nat} {x:Int} (hr:r<=2):x∈plc n r↔0<=x/\x<n/\x%3=r:=by
 unfold plc SK;rw[ii];constructor
 ·rintro ⟨t,ht,rfl⟩;have:=jy.1 ht;omega
 ·rintro ⟨h0,h1,h2⟩;exact⟨((x-r)/3).toNat,jy.2 G,G⟩
theorem zJ (n r:Nat):(plc n r).Nodup:=by
 unfold plc SK;exact ik.2 (xu.imp λ{x y} h hh=>h G)
def smp (n:Nat):AH:=plc n 1++plc n 2
theorem mU {n:Nat} {x:Int}:x∈smp n↔0<=x/\x<n/\x%3≠0:=by
 unfold smp;rw[ek,lD G,lD G];omega
theorem DN (n:Nat):(smp n).length=(n+1)/3+n/3:=by
 unfold smp;rw[ah,kP,kP];omega
theorem rF (n:Nat):(smp n).Nodup:=by
 unfold smp;refine yf.2 ⟨zJ _ _,zJ _ _,λa ha b hb e=> ?_⟩;rw[lD G] at ha hb;omega
theorem bCo (n:Nat):(smp n++plc n 0).Perm (iota n):=by
 refine aBa (yf.2 ⟨rF _,zJ _ _,λa ha b hb e=> ?_⟩) (fB n) λx=> ?_
 ·rw [mU] at ha;rw[lD G] at hb;omega
 ·rw [ek,mU,lD G,aZ];omega
def jM (s:AH) (i:Int):Int:=if (s.length:Int)<=i then 0 else rd s i+1
def iA (s:AH) (b:Int):AH:=(List.range s.length).map λi:Nat=>jM s ((i:Int)+b)
theorem IU (s:AH) (b:Int):(iA s b).length=s.length:=by simp[iA]
theorem ED {s:AH} {b i:Int} (h0:0<=i) (h:i<s.length):rd (iA s b) i=jM s (i+b):=by
 unfold iA;rw[iT h0 G];congr 1;omega
theorem bHm: ∀ {s:AH},Nn s->lo s=0
 |[],_=>rfl
 |a::s,h=>by
  have:=bHm (s:=s) λx hx=>h x (gm _ hx);have ha:=h a cD;unfold lo at this ⊢;rw[List.foldr_cons,this];omega
theorem vX {s:AH} (hs:Nn s) (i d:Nat):eu s i d=jM s ((i+d:Nat):Int):=by
 unfold eu jM;rw[bHm hs];by_cases h:i+d<s.length
 ·rw [dm h,df G];unfold rd lt;rw[dh];omega
 ·rw[df h,dm G]
theorem aLb {s:AH} {k:Int} (hs: ∀x∈s,0<=x/\x<k) (hk:0<=k) {i:Int} (h0:0<=i):0<=jM s i/\jM s i<k+1:=by
 unfold jM;split
 ·omega
 ·have:=hs _ (bG (L:=s) h0 G);omega
theorem aBx {s:AH} {k b:Int} (hs: ∀x∈s,0<=x/\x<k) (hk:0<=k) (hb:0<=b): ∀x∈iA s b,0<=x/\x<k+1:=by
 intro x hx;obtain⟨i,_,rfl⟩:=ii.1 hx;exact aLb hs hk G
theorem aYs (s:AH) (i d:Nat):0<=eu s i d:=by
 rcases gp (i+d) s.length with h|h
 ·exact Bw (uG h)
 ·rw[jZ h];exact ni 0
def LtO (U V:Nat->Int):Prop:= ∃k,(∀i,i<k->U i=V i)/\U k<V k
theorem BO {m:Nat} {U V:Nat->Int}:LtH m U V->LtO U V:=λ⟨k,_,h1,h2⟩=>⟨k,h1,h2⟩
theorem bEq {s:AH} {x y:Nat}:LtO (eu s x) (eu s y)↔LtH s.length (eu s x) (eu s y):=by
 refine⟨λ⟨k,h1,h2⟩=>⟨k,?_,h1,h2⟩,BO⟩;have:=aYs s x k;rcases gp (y+k) s.length with h|h
 ·omega
 ·rw[jZ h] at h2;omega
theorem pE {s:AH} {x y:Int}:bV s x y↔LtO (eu s x.toNat) (eu s y.toNat):=bEq.symm
theorem aPk {U V:Nat->Int} (h:LtO U V): ¬LtO V U:=by
 rintro⟨k',h1',h2'⟩;obtain⟨k,h1,h2⟩:=h;rcases wu k k' with a|a|a
 ·have:=h1' k a;omega
 ·subst a;omega
 ·have:=h1 k' a;omega
theorem aPj {U V:Nat->Int} {m:Nat} (e:EqH m U V):LtO (λd=>U (m+d)) (λd=>V (m+d))↔LtO U V:=by
 constructor
 ·rintro ⟨k,h1,h2⟩;refine⟨m+k,λi hi=> ?_,h2⟩;rcases gp i m with a|a
  ·exact e i a
  ·have:=h1 (i-m) G;simp only[show m+(i-m)=i by omega] at this;exact this
 ·rintro ⟨k,h1,h2⟩
  have hk:m<=k:=by
   rcases gp k m with a|a
   ·have:=e k a;omega
   ·exact a
  refine⟨k-m,λi hi=>h1 (m+i) G,?_⟩;simp only[show m+(k-m)=k by omega];exact h2
theorem aCp (s:AH) (i m:Nat):(λd=>eu s i (m+d))=eu s (i+m):=funext λd=>(yJ s i m d).symm
theorem PR {s:AH} {i j m:Nat} (e:EqH m (eu s i) (eu s j)):LtO (eu s (i+m)) (eu s (j+m))↔LtO (eu s i) (eu s j):=by
 rw[<-aCp,<-aCp];exact aPj e
theorem vY {s:AH} {m i j:Nat} (hi:i<s.length) (hj:j<s.length) (mz:i≠j) (e:EqH m (eu s i) (eu s j)):j+m<=s.length:=by
 refine Jw.1 λh=> ?_;have e1:=e (s.length-j) G;rw[jZ (s:=s) (i:=j) G] at e1;have h1:s.length<=i+(s.length-j):=Jw.1 λhh=>by have:=uG hh;omega
 have e2:=e (s.length-i) G;rw[jZ (s:=s) (i:=i) G] at e2;have:=uG (s:=s) (i:=j) (d:=s.length-i) G;omega
def bIy (s:AH) (k:Int):AH:=dD (dD (dD (smp s.length) (iA s 2) (k+1).toNat) (iA s 1) (k+1).toNat) (iA s 0) (k+1).toNat
section
variable {s:AH} {k:Int}
theorem rG {o:AH} {b:Int} (hs: ∀x∈s,0<=x/\x<k) (hk:0<=k) (hb:0<=b) (ho: ∀x∈o,0<=x/\x<s.length):(dD o (iA s b) (k+1).toNat).Perm o:=
 oZ λi hi=>by
  have:=ho i hi;rw[ED this.1 this.2];have:=aLb hs hk (i:=i+b) G;omega
theorem oU {x:Int} (h:x∈smp s.length):0<=x/\x<s.length:=by rw[mU] at h;omega
theorem bHh (hs: ∀x∈s,0<=x/\x<k) (hk:0<=k):(dD (smp s.length) (iA s 2) (k+1).toNat).Perm (smp s.length):=rG hs hk G λ_ h=>oU h
theorem bHg (hs: ∀x∈s,0<=x/\x<k) (hk:0<=k):(dD (dD (smp s.length) (iA s 2) (k+1).toNat) (iA s 1) (k+1).toNat).Perm (smp s.length):=
 (rG hs hk G λ_ h=>oU ((bHh hs hk).subset h)).trans (bHh hs hk)
theorem bHf (hs: ∀x∈s,0<=x/\x<k) (hk:0<=k):(bIy s k).Perm (smp s.length):=
 (rG hs hk G λ_ h=>oU ((bHg hs hk).subset h)).trans (bHg hs hk)
theorem aEz (hs: ∀x∈s,0<=x/\x<k) (hk:0<=k):(bIy s k).Pairwise λx y=> ¬LtH 3 (eu s y.toNat) (eu s x.toNat):=by
 have h0:(smp s.length).Pairwise λ_ _=>True:=(rF s.length).imp λ_=>trivial;have h3:=iV (keys:=iA s 0) (iV (keys:=iA s 1) (iV (keys:=iA s 2) h0 (k+1).toNat) (k+1).toNat) (k+1).toNat;refine lm (λ{x y} hx hy h=> ?_) h3;have mx:=oU ((bHf hs hk).subset hx);have my:=oU ((bHf hs hk).subset hy);have nn:Nn s:=λx hx=>(hs x hx).1
 have e: ∀ {z:Int} (hz:0<=z/\z<s.length) (b:Nat),rd (iA s (b:Int)) z=eu s z.toNat b:=λ{z} hz b=>by
  rw[ED hz.1 hz.2,vX nn];congr 1;omega
 have ex0:rd (iA s 0) x=eu s x.toNat 0:=e mx 0;have ex1:rd (iA s 1) x=eu s x.toNat 1:=e mx 1;have ex2:rd (iA s 2) x=eu s x.toNat 2:=e mx 2;have ey0:rd (iA s 0) y=eu s y.toNat 0:=e my 0;have ey1:rd (iA s 1) y=eu s y.toNat 1:=e my 1;have ey2:rd (iA s 2) y=eu s y.toNat 2:=e my 2;rw[ex0,ex1,ex2,ey0,ey1,ey2] at h;rintro⟨q,hq,h1,h2⟩
 match q,hq,h1,h2 with
 |0,_,h1,h2=>omega
 |1,_,h1,h2=>have:=h1 0 G;omega
 |2,_,h1,h2=>have:=h1 0 G;have:=h1 1 G;omega
end
structure RkI (s o V:AH) (q n:Int):Prop where
 len:V.length=s.length+3
 n0:0<=n
 nq:n<=q
 bd: ∀p,0<=p->p<q->1<=rd V (rd o p)/\rd V (rd o p)<=n
 last:0<q->rd V (rd o (q-1))=n
 lt: ∀p p',0<=p->p<p'->p'<q->(EqH 3 (eu s (rd o p).toNat) (eu s (rd o p').toNat)/\rd V (rd o p)=rd V (rd o p'))\/(LtH 3 (eu s (rd o p).toNat) (eu s (rd o p').toNat)/\rd V (rd o p)<rd V (rd o p'))
 full:n=q-> ∀p,0<=p->p<q->rd V (rd o p)=p+1
 out: ∀j:Int,0<=j->j<s.length+3->(∀p:Int,0<=p->p<q->rd o p≠j)->rd V j=0
theorem EqH.trans' {m:Nat} {U V W:Nat->Int} (h:EqH m U V) (g:EqH m V W):EqH m U W:=λi hi=>(h i hi).trans (g i hi)
theorem EqH.ltH {m:Nat} {U V W:Nat->Int} (h:EqH m U V) (g:LtH m V W):LtH m U W:=by
 obtain⟨k,hk,a,b⟩:=g;exact⟨k,hk,λi hi=>(h i G).trans (a i hi),by rw[h k hk];exact b⟩
theorem LtH.eqH {m:Nat} {U V W:Nat->Int} (h:LtH m U V) (g:EqH m V W):LtH m U W:=by
 obtain⟨k,hk,a,b⟩:=h;exact⟨k,hk,λi hi=>(a i hi).trans (g i G),by rw[<-g k hk];exact b⟩
section
variable {s o V:AH} {q n:Int}
theorem aUs:RkI s o (List.replicate (s.length+3) 0) 0 0:=
 ⟨bz,G,G,λp h1 h2=>G,λh=>G,λp p' h1 h2 h3=>G,λ_ p h1 h2=>G,λj _ _ _=>qY⟩
theorem RkI.step (h:RkI s o V q n) (hp:o.Perm (smp s.length)) (q0:0<=q) (hq:q<o.length) {m:Int}
  (hm:(m=n+1/\(q=0\/LtH 3 (eu s (rd o (q-1)).toNat) (eu s (rd o q).toNat)))\/(m=n/\0<q/\EqH 3 (eu s (rd o (q-1)).toNat) (eu s (rd o q).toNat))):
  RkI s o (upd V (rd o q) m) (q+1) m:=by
 have de: ∀p:Int,0<=p->p<o.length->0<=rd o p/\rd o p<s.length:=λp p0 p1=>oU (hp.subset (bG p0 p1));have hnd:o.Nodup:=hp.symm.nodup (rF _);have hV:=h.len;have iq:=de q q0 hq;have same:rd (upd V (rd o q) m) (rd o q)=m:=fO iq.1 G
 have other: ∀p,0<=p->p<q->rd (upd V (rd o q) m) (rd o p)=rd V (rd o p):=λp p0 p1=>by
  have ip:=de p p0 G;exact gN iq.1 ip.1 λe=>by have:=kM hnd q0 hq p0 G e;omega
 have Ox:=h.n0;have hnq:=h.nq;refine⟨by rw[aY];exact hV,G,G,λp p0 p1=> ?_,λ_=>by rw[show q+1-1=q by omega];exact same,λp p' p0 pp p1=> ?_,λe p p0 p1=> ?_,λj j0 j1 hj=> ?_⟩
 ·rcases cz p q with a|a
  ·rw [other p p0 a];have:=h.bd p p0 a;omega
  ·rw [show p=q by omega,same];rcases hm with⟨a,_⟩|⟨a,b,_⟩
   ·omega
   ·have:=h.bd (q-1) G G;have:=h.last b;omega
 ·rcases cz p' q with a|a
  ·rw [other p p0 G,other p' G a];exact h.lt p p' p0 pp a
  ·obtain rfl:p'=q:=G
   rw[other p p0 pp,same];have hl:=h.last G;have hb:=h.bd p p0 pp;rcases cz p (p'-1) with c|c
   ·have h1:=h.lt p (p'-1) p0 c G;rcases hm with⟨rfl,z|g⟩|⟨rfl,_,g⟩
    ·omega
    ·refine .inr ⟨?_,G⟩;rcases h1 with⟨e,_⟩|⟨e,_⟩
     ·exact e.ltH g
     ·exact e.trans g
    ·rcases h1 with⟨e,v⟩|⟨e,v⟩
     ·exact .inl ⟨e.trans' g,G⟩
     ·exact .inr ⟨e.eqH g,G⟩
   ·obtain rfl:p=p'-1:=G
    rcases hm with⟨rfl,z|g⟩|⟨rfl,_,g⟩
    ·omega
    ·exact .inr ⟨g,G⟩
    ·exact .inl ⟨g,hl⟩
 ·rcases hm with⟨a,_⟩|⟨a,_,_⟩
  ·rcases cz p q with c|c
   ·rw [other p p0 c];exact h.full G p p0 c
   ·rw [show p=q by omega,same];omega
  ·omega
 ·rw [gN iq.1 j0 (hj q q0 G)];exact h.out j j0 j1 λp p0 p1=>hj p p0 G
theorem aHi {l:AH} {x:Int} (h:x∈l): ∃p:Int,0<=p/\p<l.length/\rd l p=x:=by
 obtain⟨i,hi,rfl⟩:=ib.1 h;exact⟨i,G,G,jK hi⟩
structure RkF (s V:AH) (n:Int):Prop where
 len:V.length=s.length+3
 bd: ∀i:Nat,i<s.length->i%3≠0->1<=rd V i/\rd V i<=n
 lt: ∀i j:Nat,i<s.length->i%3≠0->j<s.length->j%3≠0->(rd V i<rd V j↔LtH 3 (eu s i) (eu s j))
 eq: ∀i j:Nat,i<s.length->i%3≠0->j<s.length->j%3≠0->(rd V i=rd V j↔EqH 3 (eu s i) (eu s j))
 out: ∀j:Int,0<=j->j<s.length+3->(j%3=0\/s.length<=j)->rd V j=0
theorem RkI.done (h:RkI s o V o.length n) (hp:o.Perm (smp s.length)):RkF s V n:=by
 have at_: ∀i:Nat,i<s.length->i%3≠0-> ∃p:Int,0<=p/\p<o.length/\rd o p=i:=λi h1 h2=>aHi (hp.symm.subset (mU.2 ⟨G,G,G⟩))
 have key: ∀i j:Nat,i<s.length->i%3≠0->j<s.length->j%3≠0->(EqH 3 (eu s i) (eu s j)/\rd V i=rd V j)\/(LtH 3 (eu s i) (eu s j)/\rd V i<rd V j)\/(LtH 3 (eu s j) (eu s i)/\rd V j<rd V i):=by
  intro i j i1 i2 j1 j2;obtain⟨p,p0,p1,ep⟩:=at_ i i1 i2;obtain⟨r,r0,r1,er⟩:=at_ j j1 j2;rcases jl p r with a|a|a
  ·have:=h.lt p r p0 a r1;rw[ep,er,dh,dh] at this;exact this.elim .inl λh=> .inr (.inl h)
  ·subst a;have e:(i:Int)=j:=ep.symm.trans er;have e:i=j:=G
   subst e;exact .inl ⟨λ_ _=>rfl,rfl⟩
  ·have:=h.lt r p r0 a p1;rw[ep,er,dh,dh] at this;exact this.elim (λh=> .inl ⟨h.1.symm,h.2.symm⟩) λh=> .inr (.inr h)
 refine⟨h.len,λi i1 i2=> ?_,λi j i1 i2 j1 j2=> ?_,λi j i1 i2 j1 j2=> ?_,λj j0 j1 hj=>h.out j j0 j1 λp p0 p1 e=> ?_⟩
 ·obtain ⟨p,p0,p1,ep⟩:=at_ i i1 i2;have:=h.bd p p0 p1;rwa[ep] at this
 ·rcases key i j i1 i2 j1 j2 with⟨e,v⟩|⟨e,v⟩|⟨e,v⟩
  ·exact⟨λh=>G,λh=>absurd e h.not_eq⟩
  ·exact⟨λ_=>e,λ_=>v⟩
  ·exact⟨λh=>G,λh=>absurd h e.asymm⟩
 ·rcases key i j i1 i2 j1 j2 with⟨e,v⟩|⟨e,v⟩|⟨e,v⟩
  ·exact⟨λ_=>e,λ_=>v⟩
  ·exact⟨λh=>G,λh=>absurd h e.not_eq⟩
  ·exact⟨λh=>G,λh=>absurd h.symm e.not_eq⟩
 ·have:=mU.1 (hp.subset (e▸bG (L:=o) p0 p1));omega
structure RkO (s o V:AH):Prop where
 perm:o.Perm (smp s.length)
 sorted:o.Pairwise (bV s)
 len:V.length=s.length+3
 rk: ∀p:Int,0<=p->p<o.length->rd V (rd o p)=p+1
 out: ∀j:Int,0<=j->j<s.length+3->(j%3=0\/s.length<=j)->rd V j=0
theorem RkI.all (h:RkI s o V o.length n) (hp:o.Perm (smp s.length)) (hn:n=o.length):RkO s o V:=by
 have hf:=h.full hn;refine⟨hp,?_,h.len,hf,(h.done hp).out⟩;refine dz.2 λi j hi hj mz=> ?_;have:=h.lt i j G G G;have e1:=hf i G G;have e2:=hf j G G;rw[jK hi,jK hj] at this;rw[jK hi] at e1;rw[jK hj] at e2;rcases this with⟨_,v⟩|⟨v,_⟩
 ·omega
 ·exact pE.2 (BO v)
def blw (s V:AH):AH:=(plc s.length 1).map (rd V)++[0]++(plc s.length 2).map (rd V)
theorem wE (s V:AH):(blw s V).length=(s.length+1)/3+1+s.length/3:=by
 unfold blw;rw[ah,ah,bu,bu,kP,kP,ic];omega
def vB (s:AH) (i:Nat):Nat:=if i%3=1 then i/3 else(s.length+1)/3+1+i/3
theorem bGg {t:Int} (h0:0<=t) (h:t<(plc s.length 1).length):rd (blw s V) t=rd V (1+3*t):=by
 unfold blw;rw[kJ h0 (by rw[ah,bu];omega),kJ h0 (by rw[bu];exact h),xO h0 h,XB h0 h];rfl
theorem bGf:rd (blw s V) (plc s.length 1).length=0:=by
 unfold blw;rw[kJ G (by rw[ah,bu,ic];omega),iG (by rw[bu];omega),bu,Gt];rfl
theorem bGe {t:Int} (h0:0<=t) (h:t<(plc s.length 2).length):rd (blw s V) ((plc s.length 1).length+1+t)=rd V (2+3*t):=by
 unfold blw;have e:(((plc s.length 1).map (rd V)++[0]).length:Int)=(plc s.length 1).length+1:=by rw[ah,bu,ic];rfl
 rw[iG (by rw[e];omega),e,show((plc s.length 1).length+1+t:Int)-((plc s.length 1).length+1)=t by omega,xO h0 h,XB h0 h];rfl
theorem RkF.nn (h:RkF s V n): ∀i:Nat,i<s.length->i%3≠0->0<=rd V i:=λi a b=>by have:=h.bd i a b;omega
theorem bAv (h:RkF s V n) (hn:0<=n): ∀x∈blw s V,0<=x/\x<n+1:=by
 intro x hx;unfold blw at hx
 have g: ∀r:Nat,r=1\/r=2->x∈(plc s.length r).map (rd V)->0<=x/\x<n+1:=λr hr hx=>by
  obtain⟨i,hi,rfl⟩:=ii.1 hx;rw[lD G] at hi;have:=h.bd i.toNat G G;rw[show((i.toNat:Nat):Int)=i by omega] at this;omega
 rcases ek.1 hx with hx|hx
 ·rcases ek.1 hx with hx|hx
  ·exact g 1 (.inl rfl) hx
  ·rw[ig.1 hx];omega
 ·exact g 2 (.inr rfl) hx
theorem bAu (h:RkF s V n) (hn:0<=n):Nn (blw s V):=λx hx=>(bAv h hn x hx).1
theorem JJ (h:RkF s V n) (hn:0<=n) {i:Nat} (hi:i<s.length) (h3:i%3≠0):eu (blw s V) (vB s i) 0=rd V i+1:=by
 have l1:=kP s.length 1;have l2:=kP s.length 2;rw[vX (bAu h hn)];unfold jM;rw[wE];unfold vB;by_cases c:i%3=1
 ·rw[dm c,df G,rq,bGg G (by rw[l1];omega),show(1+3*((i/3:Nat):Int))=i by omega]
 ·rw[df c,df G,rq,show(((s.length+1)/3+1+i/3:Nat):Int)=(plc s.length 1).length+1+(i/3:Nat) by rw[l1];omega,bGe G (by rw[l2];omega),show(2+3*((i/3:Nat):Int))=i by omega]
theorem aMk (h:RkF s V n) (hn:0<=n) (h3:s.length%3≠0):eu (blw s V) (vB s s.length) 0<=1:=by
 have l1:=kP s.length 1;rw[vX (bAu h hn)];unfold jM;rw[wE];unfold vB;by_cases c:s.length%3=1
 ·rw [dm c,df G,rq,show((s.length/3:Nat):Int)=(plc s.length 1).length by rw[l1];omega,bGf];omega
 ·rw [df c,dm G];omega
theorem bAs {i:Nat} (h3:i%3≠0):vB s (i+3)=vB s i+1:=by
 unfold vB;by_cases c:i%3=1
 ·rw[dm c,dm G];omega
 ·rw[df c,df G];omega
theorem bGh (h:RkF s V n) (hn:0<=n): ∀(k i j:Nat),i%3≠0->j%3≠0->i<=s.length->j<=s.length->i≠j->
  (∀d,d<k->eu (blw s V) (vB s i) d=eu (blw s V) (vB s j) d)->eu (blw s V) (vB s i) k<eu (blw s V) (vB s j) k->LtO (eu s i) (eu s j):=by
 intro k
 induction k with
 | zero=>
  intro i j i3 j3 hi hj mz _ br;rcases gp j s.length with j1|j1
  ·rcases gp i s.length with i1|i1
   ·rw [JJ h hn i1 i3,JJ h hn j1 j3] at br;exact BO ((h.lt i j i1 i3 j1 j3).1 G)
   ·exact⟨0,λi hi=>G,by rw[jZ G];exact uG G⟩
  ·have e:j=s.length:=G
   rw[e] at br j3;have h1:=aMk h hn j3;rw[JJ h hn G i3] at br;have:=h.bd i G i3;omega
 | succ k ih=>
  intro i j i3 j3 hi hj mz Fk br;have e0:=Fk 0 G;rcases gp j s.length with j1|j1
  ·rcases gp i s.length with i1|i1
   ·rw [JJ h hn i1 i3,JJ h hn j1 j3] at e0;have e:=(h.eq i j i1 i3 j1 j3).1 G;have r1:=vY i1 j1 mz e;have r2:=vY j1 i1 (Ir mz) e.symm
    have sh: ∀ {x d:Nat},x%3≠0->eu (blw s V) (vB s (x+3)) d=eu (blw s V) (vB s x) (d+1):=λ{x d} hx=>by
     rw[bAs hx,yJ,ve]
    have:=ih (i+3) (j+3) G G r2 r1 G (λd hd=>by rw[sh i3,sh j3];exact Fk (d+1) G) (by rw[sh i3,sh j3];exact br);exact(PR e).1 this
   ·exact⟨0,λi hi=>G,by rw[jZ G];exact uG G⟩
  ·exfalso;have e:j=s.length:=G
   rw[e] at e0 j3;have h1:=aMk h hn j3;rw[JJ h hn G i3] at e0;have:=h.bd i G i3;omega
def bk (s:AH) (t:Int):Int:=if t<(plc s.length 1).length then 1+3*t else 2+3*(t-(plc s.length 1).length-1)
theorem aDz {t:Int} (h0:0<=t) (h:t<(blw s V).length) (cg:t≠(plc s.length 1).length):(0<=bk s t/\bk s t<s.length)/\bk s t%3≠0/\vB s (bk s t).toNat=t.toNat:=by
 have l1:=kP s.length 1;rw[wE] at h;unfold bk;by_cases c:t<(plc s.length 1).length
 ·rw [dm c];refine⟨G,G,?_⟩;unfold vB;rw[dm G];omega
 ·rw [df c];refine⟨G,G,?_⟩;unfold vB;rw[df G];omega
def ofB (s sb:AH):AH:=(sb.filter λt:Int=>decide (t≠(plc s.length 1).length)).map (bk s)
theorem aBi {sb:AH} {t:Int} (h:t=(plc s.length 1).length):ofB s (sb++[t])=ofB s sb:=by
 unfold ofB;rw[uk,lh (by simpa using h)];simp
theorem aBj {sb:AH} {t:Int} (h:t≠(plc s.length 1).length):ofB s (sb++[t])=ofB s sb++[bk s t]:=by
 unfold ofB;rw[uk,pg (by simpa using h),jc];rfl
theorem bEe (sb:AH):(ofB s sb).length<=sb.length:=by
 unfold ofB;rw[bu];exact ym _ _
variable {sb:AH}
theorem EL (hb:sb.Perm (iota (blw s V).length)) {t:Int} (ht:t∈sb.filter λt:Int=>decide (t≠(plc s.length 1).length)):(0<=t/\t<(blw s V).length)/\t≠(plc s.length 1).length:=by
 rw[ow] at ht;exact⟨aZ.1 (hb.subset ht.1),by simpa using ht.2⟩
theorem aWo (hb:sb.Perm (iota (blw s V).length)):(ofB s sb).Perm (smp s.length):=by
 have hd:(sb.filter λt:Int=>decide (t≠(plc s.length 1).length)).Nodup:=(hb.symm.nodup (fB _)).sublist ut;refine aBa ?_ (rF _) λx=>⟨λhx=> ?_,λhx=> ?_⟩
 ·unfold ofB;refine ik.2 (hd.imp_of_mem λ{x y} hx hy cg e=> ?_);obtain⟨⟨x0,x1⟩,xn⟩:=EL hb hx;obtain⟨⟨y0,y1⟩,yn⟩:=EL hb hy;have a:=(aDz x0 x1 xn).2.2;have b:=(aDz y0 y1 yn).2.2;rw[e,b] at a;omega
 ·obtain ⟨t,ht,rfl⟩:=ii.1 hx;obtain⟨⟨x0,x1⟩,xn⟩:=EL hb ht;have:=aDz x0 x1 xn;exact mU.2 ⟨this.1.1,this.1.2,this.2.1⟩
 ·obtain ⟨x0,x1,x3⟩:=mU.1 hx;have l1:=kP s.length 1;refine ii.2 ⟨vB s x.toNat,ow.2 ⟨hb.symm.subset (aZ.2 ⟨G,?_⟩),?_⟩,?_⟩
  ·rw [wE];unfold vB;split<;>omega
  ·rw [jb,l1];unfold vB;split<;>omega
  ·unfold bk vB;rw[l1];by_cases c:x.toNat%3=1
   ·rw[dm c,dm G];omega
   ·rw[df c,df G];omega
theorem aGq (h:RkF s V n) (hn:0<=n) (hb:sb.Perm (iota (blw s V).length)) (hs:sb.Pairwise (bV (blw s V))):(ofB s sb).Pairwise (bV s):=by
 unfold ofB;refine ik.2 ((hs.filter _).imp_of_mem λ{x y} hx hy ho=> ?_);obtain⟨⟨x0,x1⟩,xn⟩:=EL hb hx;obtain⟨⟨y0,y1⟩,yn⟩:=EL hb hy;obtain⟨a1,a2,a3⟩:=aDz x0 x1 xn;obtain⟨b1,b2,b3⟩:=aDz y0 y1 yn;rw[pE] at ho ⊢;obtain⟨k,h1,h2⟩:=ho;rw[<-a3,<-b3] at h2;refine bGh h hn k _ _ G G G G ?_ (λd hd=>by rw[a3,b3];exact h1 d hd) h2;intro e;rw[e] at h2;omega
structure RkN (s o V:AH) (q:Int):Prop where
 len:V.length=s.length+3
 rk: ∀p,0<=p->p<q->rd V (rd o p)=p+1
 out: ∀j:Int,0<=j->j<s.length+3->(j%3=0\/s.length<=j)->rd V j=0
theorem RkF.zero (h:RkF s V n) (o:AH):RkN s o V 0:=⟨h.len,λp h1 h2=>G,h.out⟩
theorem RkN.step (h:RkN s o V q) (hp:o.Perm (smp s.length)) (q0:0<=q) (hq:q<o.length):RkN s o (upd V (rd o q) (q+1)) (q+1):=by
 have de: ∀p:Int,0<=p->p<o.length->rd o p∈smp s.length:=λp p0 p1=>hp.subset (bG p0 p1);have hnd:o.Nodup:=hp.symm.nodup (rF _);have iq:=mU.1 (de q q0 hq);have hl:=h.len;refine⟨by rw[aY];exact hl,λp p0 p1=> ?_,λj j0 j1 hj=> ?_⟩
 ·rcases cz p q with a|a
  ·have ip:=mU.1 (de p p0 G);rw[gN iq.1 ip.1 λe=>by have:=kM hnd q0 hq p0 G e;omega];exact h.rk p p0 a
  ·rw[show p=q by omega,fO iq.1 G]
 ·rw [gN iq.1 j0 G];exact h.out j j0 j1 hj
theorem RkN.done (h:RkN s o V o.length) (hp:o.Perm (smp s.length)) (hs:o.Pairwise (bV s)):RkO s o V:=⟨hp,hs,h.len,h.rk,h.out⟩
def aNv (s:AH) (a:Int):Prop:=0<=a/\(a<s.length/\a%3≠0\/a=s.length)
theorem RkO.at_ (h:RkO s o V) {a:Int} (ha:aNv s a) (hl:a<s.length): ∃p:Int,(0<=p/\p<o.length)/\rd o p=a/\rd V a=p+1:=by
 obtain⟨p,p0,p1,e⟩:=aHi (h.perm.symm.subset (mU.2 ⟨ha.1,hl,ha.2.elim (·.2) λh=>G⟩));exact⟨p,⟨p0,p1⟩,e,by rw[<-e];exact h.rk p p0 p1⟩
theorem RkO.end_ (h:RkO s o V):rd V (s.length:Int)=0:=h.out _ G G (.inr G)
theorem RkO.bd (h:RkO s o V) {a:Int} (ha:aNv s a):0<=rd V a/\rd V a<=o.length:=by
 rcases cz a s.length with c|c
 ·obtain ⟨p,hp,_,e⟩:=h.at_ ha c;omega
 ·have e:a=s.length:=ha.2.elim (λh=>G) id;rw[e,h.end_];omega
theorem RkO.cmp (h:RkO s o V) {a b:Int} (ha:aNv s a) (hb:aNv s b) (cg:a≠b):rd V a<rd V b↔LtO (eu s a.toNat) (eu s b.toNat):=by
 rcases cz a s.length with ca|ca
 ·obtain ⟨p,hp,ep,vp⟩:=h.at_ ha ca;rcases cz b s.length with cb|cb
  ·obtain ⟨r,hr,er,vr⟩:=h.at_ hb cb;rw[vp,vr];constructor
   ·intro br;have:=fP h.sorted hp.1 (show p<r by omega) hr.2;rw[ep,er] at this;exact pE.1 this
   ·intro br;rcases jl p r with c|c|c
    ·omega
    ·subst c;exact absurd (ep.symm.trans er) cg
    ·have:=fP h.sorted hr.1 c hp.2;rw[ep,er] at this;exact absurd br (aPk (pE.1 this))
  ·have e:b=s.length:=hb.2.elim (λh=>G) id;rw[e,h.end_,vp];refine⟨λh=>G,λ⟨k,_,h2⟩=> ?_⟩;rw[jZ (s:=s) (i:=(s.length:Int).toNat) G] at h2;have:=aYs s a.toNat k;omega
 ·have e:a=s.length:=ha.2.elim (λh=>G) id;rw[e,h.end_];have cb:b<s.length:=hb.2.elim (·.1) λh=>G
  obtain⟨r,hr,er,vr⟩:=h.at_ hb cb;rw[vr];refine⟨λ_=>⟨0,λi hi=>G,?_⟩,λ_=>G⟩;rw[jZ G];exact uG (by have:=hb.1;omega)
def bhd (s V:AH):AH:=(List.range s.length).map λi:Nat=>rd V ((i:Int)+1)
theorem aMo (s V:AH):(bhd s V).length=s.length:=by simp[bhd]
theorem aGf {i:Int} (h0:0<=i) (h:i<s.length):rd (bhd s V) i=rd V (i+1):=by
 unfold bhd;rw[iT h0 G];congr 1;omega
theorem RkO.all_bd (h:RkO s o V) {j:Int} (j0:0<=j) (hj:j<=s.length):0<=rd V j/\rd V j<=s.length:=by
 have ho:o.length<=s.length:=by rw[h.perm.length_eq,DN];omega
 by_cases c:j%3=0
 ·rw[h.out j j0 G (.inl c)];omega
 ·have:=h.bd (a:=j) ⟨j0,G⟩;omega
theorem bAx (h:RkO s o V): ∀x∈bhd s V,0<=x/\x<(s.length:Int)+1:=by
 intro x hx;obtain⟨i,hi,rfl⟩:=ii.1 hx;have:=jy.1 hi;have:=h.all_bd (j:=(i:Int)+1) G G;omega
def oth (s V:AH) (k:Int):AH:=dD (dD (plc s.length 0) (bhd s V) ((s.length:Int)+1).toNat) (iA s 0) (k+1).toNat
theorem aWc (h:RkO s o V):(dD (plc s.length 0) (bhd s V) ((s.length:Int)+1).toNat).Perm (plc s.length 0):=
 oZ λi hi=>by
  rw[lD G] at hi;have:=bAx h _ (bG (L:=bhd s V) hi.1 (by rw[aMo];exact hi.2.1));omega
theorem OY (h:RkO s o V) {k:Int} (hs: ∀x∈s,0<=x/\x<k) (hk:0<=k):(oth s V k).Perm (plc s.length 0):=
 (rG hs hk G λx hx=>by have:=(aWc h).subset hx;rw[lD G] at this;omega).trans (aWc h)
theorem aGm (h:RkO s o V) {k:Int} (hs: ∀x∈s,0<=x/\x<k) (hk:0<=k):(oth s V k).Pairwise (bV s):=by
 have h3:=iV (keys:=iA s 0) (iV (keys:=bhd s V) (zJ s.length 0) ((s.length:Int)+1).toNat) (k+1).toNat;refine lm (λ{x y} hx hy g=> ?_) h3;have mx:=(OY h hs hk).subset hx;have my:=(OY h hs hk).subset hy;rw[lD G] at mx my;have nn:Nn s:=λx hx=>(hs x hx).1
 have e: ∀ {z:Int},0<=z->z<s.length->rd (iA s 0) z=eu s z.toNat 0:=λ{z} h0 h1=>by
  rw[ED h0 h1,vX nn];congr 1;omega
 rw[e mx.1 mx.2.1,e my.1 my.2.1,aGf mx.1 mx.2.1,aGf my.1 my.2.1] at g;have sx:aNv s (x+1):=⟨G,G⟩;have sy:aNv s (y+1):=⟨G,G⟩;rw[pE];rcases g with g|⟨g1,g2|⟨g2,g3⟩⟩
 ·exact⟨0,λi hi=>G,g⟩
 ·have:=(h.cmp sx sy λe=>by rw[e] at g2;omega).1 g2;refine(PR (m:=1) λi hi=> ?_).1 ?_
  ·rw[show i=0 by omega];exact g1
  ·rw [show x.toNat+1=(x+1).toNat by omega,show y.toNat+1=(y+1).toNat by omega];exact this
 ·exfalso;have Pl:x≠y:=g3;have t:=h.cmp sx sy G;have t':=h.cmp sy sx G;rcases tri s.length (eu s (x+1).toNat) (eu s (y+1).toNat) with a|a|a
  ·have:=t.2 (BO a);omega
  ·have a0:EqH s.length (eu s x.toNat) (eu s y.toNat):=λi hi=>by
    cases i with
    |zero=>exact g1
    |succ i=>
     have:=a i G;rw[show(x+1).toNat=x.toNat+1 by omega,show(y+1).toNat=y.toNat+1 by omega,yJ,yJ,ve] at this;exact this
   have:=aHu G G a0;omega
  ·have:=t'.2 (BO a);omega
theorem aXg (nn:Nn s) {i j:Int} (i0:0<=i) (j0:0<=j) {c:Nat} (e:EqH c (eu s i.toNat) (eu s j.toNat)) (cg:jM s (i+c)≠jM s (j+c)):jM s (i+c)<jM s (j+c)↔bV s i j:=by
 have k1:jM s (i+c)=eu s i.toNat c:=by rw[vX nn];congr 1;omega
 have k2:jM s (j+c)=eu s j.toNat c:=by rw[vX nn];congr 1;omega
 rw[k1,k2] at cg ⊢;rw[pE];refine⟨λh=>⟨c,e,h⟩,λ⟨k,h1,h2⟩=> ?_⟩;rcases wu k c with a|a|a
 ·have:=e k a;omega
 ·rw[<-a];exact h2
 ·exact absurd (h1 c a) cg
theorem bEv (nn:Nn s) {i j:Int} (i0:0<=i) (j0:0<=j) {c:Nat} (e:EqH c (eu s i.toNat) (eu s j.toNat)) (h:jM s (i+c)=jM s (j+c)):EqH (c+1) (eu s i.toNat) (eu s j.toNat):=λd hd=>by
 rcases gp d c with a|a
 ·exact e d a
 ·have k1:jM s (i+c)=eu s i.toNat c:=by rw[vX nn];congr 1;omega
  have k2:jM s (j+c)=eu s j.toNat c:=by rw[vX nn];congr 1;omega
  rw[show d=c by omega,<-k1,<-k2,h]
theorem aPn (h:RkO s o V) {i j:Int} (hi:0<=i/\i<s.length) (hj:0<=j/\j<s.length) (mz:i≠j) {c:Nat} (e:EqH c (eu s i.toNat) (eu s j.toNat)) (i3:(i+c)%3≠0) (j3:(j+c)%3≠0):
  (i+c<=s.length/\j+c<=s.length)/\(rd V (i+c)<rd V (j+c)↔bV s i j):=by
 have r1:=vY (s:=s) (i:=i.toNat) (j:=j.toNat) G G G e;have r2:=vY (s:=s) (i:=j.toNat) (j:=i.toNat) G G G e.symm;refine⟨G,?_⟩;rw[h.cmp ⟨G,G⟩ ⟨G,G⟩ G,pE,<-PR e,show(i+c).toNat=i.toNat+c by omega,show(j+c).toNat=j.toNat+c by omega]
structure MgI (s o t acc:AH) (a q:Int):Prop where
 perm:acc.Perm (o.take a.toNat++t.take q.toNat)
 sorted:acc.Pairwise (bV s)
 ahead: ∀x∈acc,∀y,y∈o.drop a.toNat\/y∈t.drop q.toNat->bV s x y
variable {t acc:AH} {a:Int}
theorem aWv:MgI s o t [] 0 0:=⟨.refl _, .nil,λx hx=>by cases hx⟩
theorem MgI.len (h:MgI s o t acc a q) (a0:0<=a) (ha:a<=o.length) (q0:0<=q) (hq:q<=t.length):(acc.length:Int)=a+q:=by
 rw[h.perm.length_eq,ah,ax,ax];omega
theorem aJx {r:Int->Int->Prop} {l:AH} {x:Int} (h:l.Pairwise r) (hx: ∀y∈l,r y x):(l++[x]).Pairwise r:=by
 rw[ku];exact⟨h,qi _ _,λy hy z hz=>by rw[ig.1 hz];exact hx y hy⟩
theorem MgI.left (h:MgI s o t acc a q) (ho:o.Pairwise (bV s)) (ht:t.Pairwise (bV s)) (a0:0<=a) (ha:a<o.length) (q0:0<=q) (hq:q<t.length) (hl:bV s (rd o a) (rd t q)):MgI s o t (acc++[rd o a]) (a+1) q:=by
 have eo:=iO (s:=o) a0 ha;have et:=iO (s:=t) q0 hq;refine⟨?_,aJx h.sorted λy hy=>h.ahead y hy _ (.inl (by rw[eo];simp)),λx hx y hy=> ?_⟩
 ·rw [dJ a0 ha];refine(h.perm.append_right _).trans ?_;rw[dx,dx];exact wz _ rf
 ·rcases ek.1 hx with hx|hx
  ·exact h.ahead x hx y (hy.imp_left λhy=>by rw[eo];exact gm _ hy)
  ·rw [ig.1 hx];have so:(o.drop a.toNat).Pairwise (bV s):=ho.sublist (ze _ _);have st:(t.drop q.toNat).Pairwise (bV s):=ht.sublist (ze _ _);rw[eo,ja] at so;rw[et,ja] at st;rcases hy with hy|hy
   ·exact so.1 y hy
   ·rw [et] at hy;rcases jd.1 hy with rfl|hy
    ·exact hl
    ·exact BN _ _ _ hl (st.1 y hy)
theorem MgI.right (h:MgI s o t acc a q) (ho:o.Pairwise (bV s)) (ht:t.Pairwise (bV s)) (a0:0<=a) (q0:0<=q) (hq:q<t.length) (hl:a<o.length->bV s (rd t q) (rd o a)):MgI s o t (acc++[rd t q]) a (q+1):=by
 have et:=iO (s:=t) q0 hq;refine⟨?_,aJx h.sorted λy hy=>h.ahead y hy _ (.inr (by rw[et];simp)),λx hx y hy=> ?_⟩
 ·rw [dJ q0 hq,<-dx];exact h.perm.append_right _
 ·rcases ek.1 hx with hx|hx
  ·exact h.ahead x hx y (hy.imp_right λhy=>by rw[et];exact gm _ hy)
  ·rw [ig.1 hx];have st:(t.drop q.toNat).Pairwise (bV s):=ht.sublist (ze _ _);rw[et,ja] at st;rcases hy with hy|hy
   ·rcases cz a o.length with c|c
    ·have eo:=iO (s:=o) a0 c;have so:(o.drop a.toNat).Pairwise (bV s):=ho.sublist (ze _ _);rw[eo,ja] at so;rw[eo] at hy;rcases jd.1 hy with rfl|hy
     ·exact hl c
     ·exact BN _ _ _ (hl c) (so.1 y hy)
    ·rw [ol G] at hy;cases hy
   ·exact st.1 y hy
theorem MgI.done (h:MgI s o t acc a q) (ho:o.Pairwise (bV s)) (hq:(t.length:Int)<=q) (hp:o.Perm (smp s.length)) (tp:t.Perm (plc s.length 0)):(acc++o.drop a.toNat).Perm (iota s.length)/\(acc++o.drop a.toNat).Pairwise (bV s):=by
 refine⟨?_,?_⟩
 ·have h1:=h.perm;rw[bg (l:=t) G] at h1;refine((h1.append_right _).trans ?_).trans (((hp.append_right _).trans (tp.append_left _)).trans (bCo _));refine(rf.append_right _).trans ?_;rw[dx,gz];exact rf
 ·rw [ku];exact⟨h.sorted,ho.sublist (ze _ _),λx hx y hy=>h.ahead x hx y (.inl hy)⟩
end
def thr (s:AH) (m:Int):AH:=(List.range (m+1).toNat).map λc:Nat=>if (c:Int)∈s then 1 else 0
theorem lC (s:AH) (m:Int):(thr s m).length=(m+1).toNat:=by simp[thr]
theorem OD {s:AH} {m c:Int} (h0:0<=c) (h:c<=m):rd (thr s m) c=if c∈s then 1 else 0:=by
 unfold thr;rw[iT h0 G,show((c.toNat:Nat):Int)=c by omega]
theorem bCf (m:Int):thr [] m=List.replicate (m+1).toNat 0:=by
 refine bI (by rw[lC,bz]) λj h0 h1=> ?_;rw[lC] at h1;rw[OD h0 G,qY];rfl
theorem aTm {s:AH} {m x:Int} (h0:0<=x) (h:x<=m):upd (thr s m) x 1=thr (s++[x]) m:=by
 refine bI (by rw[aY,lC,lC]) λj j0 j1=> ?_;rw[aY,lC] at j1;rw[gV h0 j0 (by rw[lC];omega),OD j0 G,OD j0 G];by_cases e:j=x
 ·rw[dm e,dm (by rw[e];simp)]
 ·rw [df e];by_cases c:j∈s
  ·rw[dm c,dm (Ga _ c)]
  ·rw[df c,df (by rw[ek,ig];exact λh=>h.elim c e)]
theorem aTn (s:AH) (m:Int): ∀x∈thr s m,0<=x:=by
 intro x hx;obtain⟨c,_,rfl⟩:=ii.1 hx;split<;>omega
theorem aVq {s:AH} {m:Int}: ∀x:Nat,(x:Int)<=m+1->ps (thr s m) x=((List.range x).filter λc:Nat=>decide ((c:Int)∈s)).length
 |0,_=>rfl
 | x+1,h=>by
  rw[show((x+1:Nat):Int)=(x:Int)+1 by omega,mP G (by rw[lC];omega),aVq x G,OD G G,zz,uk,ah];by_cases c:(x:Int)∈s
  ·rw [dm c,pg (by simpa using c)];simp
  ·rw [df c,lh (by simpa using c)];simp
theorem bDq {L:AH} (h: ∀x∈L,0<=x) {a b:Int} (h0:0<=a) (yr:a<=b) (hb:b<=L.length):ps L a<=ps L b:=by
 obtain⟨d,rfl⟩: ∃d:Nat,b=a+d:=⟨(b-a).toNat,G⟩
 induction d with
 |zero=>simp
 |succ d ih=>
  have:=ih G G;rw[show a+((d+1:Nat):Int)=a+(d:Int)+1 by omega,mP G G];have:=h _ (bG (L:=L) (k:=a+d) G G);omega
theorem aJv {s:AH} {m x y:Int} (hx:x∈s) (x0:0<=x) (Pl:x<y) (hy:y<=m):ps (thr s m) x<ps (thr s m) y:=by
 have h1:=mP (L:=thr s m) (k:=x) x0 (by rw[lC];omega);rw[OD x0 G,dm hx] at h1;have h2:=bDq (aTn s m) (a:=x+1) (b:=y) G G (by rw[lC];omega);omega
theorem bMq {s:AH} {m x:Int} (hx:x∈s) (x0:0<=x) (hm:x<=m):0<=ps (thr s m) x/\ps (thr s m) x<s.length:=by
 have e:ps (thr s m) x=((List.range x.toNat).filter λc:Nat=>decide ((c:Int)∈s)).length:=by
  have:=aVq (s:=s) (m:=m) x.toNat G;rwa[show((x.toNat:Nat):Int)=x by omega] at this
 rw[e];have hl:=pM (l:=(((List.range x.toNat).filter λc:Nat=>decide ((c:Int)∈s)).map λc:Nat=>(c:Int))++[x]) (m:=s) ?_ ?_
 ·rw [ah,bu,ic] at hl;omega
 ·refine yf.2 ⟨ik.2 ((xu.sublist ut).imp λ{x y} h hh=>h G),qi _ _,λa ha b hb e=> ?_⟩;obtain⟨c,hc,rfl⟩:=ii.1 ha;have:=jy.1 (ow.1 hc).1;rw[ig] at hb;omega
 ·intro z hz;rcases ek.1 hz with hz|hz
  ·obtain ⟨c,hc,rfl⟩:=ii.1 hz;simpa using (ow.1 hc).2
  ·rw[ig.1 hz];exact hx
def sqz (s:AH) (m:Int):AH:=s.map λx=>ps (thr s m) x
theorem LJ (s:AH) (m:Int):(sqz s m).length=s.length:=by simp[sqz]
theorem bJf {s:AH} {m:Int} (hs: ∀x∈s,0<=x/\x<=m): ∀x∈sqz s m,0<=x/\x<s.length:=by
 intro y hy;obtain⟨x,hx,rfl⟩:=ii.1 hy;exact bMq hx (hs x hx).1 (hs x hx).2
theorem QT {P:Int->Prop} {f:Int->Int} (hf: ∀x y:Int,P x->P y->(x<y↔f x<f y)): ∀a b:AH,(∀x∈a,P x)->(∀x∈b,P x)->cmpL (a.map f) (b.map f)=cmpL a b
 |[],[],_,_=>rfl
 |[],b::v,_,_=>rfl
 |a::u,[],_,_=>rfl
 |a::u,b::v,ha,hb=>by
  have pa:=ha a cD;have pb:=hb b cD;simp only[jm,cmpL,<-hf a b pa pb,<-hf b a pb pa];rw[QT hf u v (λx hx=>ha x (gm _ hx)) λx hx=>hb x (gm _ hx)]
theorem bCk {s:AH} {m:Int} (hs: ∀x∈s,0<=x/\x<=m) {x y:Int}:bV (sqz s m) x y↔bV s x y:=by
 rw[<-iI,<-iI];unfold sqz;rw[<-Jf,<-Jf,QT (P:=λx=>x∈s) (λx y hx hy=>⟨λh=>aJv hx (hs x hx).1 h (hs y hy).2,λh=> ?_⟩) _ _ (λx hx=>nu hx) λx hx=>nu hx];refine Int.not_le.1 λc=> ?_;rcases cz y x with d|d
 ·have:=aJv hy (hs y hy).1 d (hs x hx).2;omega
 ·rw [show x=y by omega] at h;omega
theorem aNq {s b:AH} {m:Int} (hs: ∀x∈s,0<=x/\x<=m) (hp:b.Perm (iota (sqz s m).length)) (ho:b.Pairwise (bV (sqz s m))):b.Perm (iota s.length)/\b.Pairwise (bV s):=by
 rw[LJ] at hp;exact⟨hp,ho.imp λh=>(bCk hs).1 h⟩
def bIx (s:AH) (k:Int):Nat->AH
 |0=>smp s.length
 |j+1=>dD (bIx s k j) (iA s (2-(j:Int))) (k+1).toNat
theorem GZ {s:AH} {k:Int} (hs: ∀x∈s,0<=x/\x<k) (hk:0<=k): ∀j:Nat,j<=3->(bIx s k j).Perm (smp s.length)
 |0,_=> .refl _
 |j+1,h=>(rG hs hk G λx hx=>oU ((GZ hs hk j G).subset hx)).trans (GZ hs hk j G)
def SS (s:AH) (i j:Int):Prop:=jM s (i+0)=jM s (j+0)/\jM s (i+1)=jM s (j+1)/\jM s (i+2)=jM s (j+2)
instance (s:AH) (i j:Int):Decidable (SS s i j):=by unfold SS;exact inferInstance
theorem aEg {s:AH} (nn:Nn s) {i j:Int} (i0:0<=i) (j0:0<=j):SS s i j↔EqH 3 (eu s i.toNat) (eu s j.toNat):=by
 have e: ∀(z:Int) (b:Nat),0<=z->jM s (z+b)=eu s z.toNat b:=λz b hz=>by rw[vX nn];congr 1;omega
 have a0:jM s (i+0)=eu s i.toNat 0:=e i 0 i0;have a1:jM s (i+1)=eu s i.toNat 1:=e i 1 i0;have a2:jM s (i+2)=eu s i.toNat 2:=e i 2 i0;have b0:jM s (j+0)=eu s j.toNat 0:=e j 0 j0;have b1:jM s (j+1)=eu s j.toNat 1:=e j 1 j0;have b2:jM s (j+2)=eu s j.toNat 2:=e j 2 j0;unfold SS;rw[a0,a1,a2,b0,b1,b2];constructor
 ·rintro ⟨h0,h1,h2⟩ d hd
  match d,hd with
  |0,_=>exact h0
  |1,_=>exact h1
  |2,_=>exact h2
 ·intro h;exact⟨h 0 G,h 1 G,h 2 G⟩
theorem bGp {s:AH} {i j:Int} (h: ∀c:Int,0<=c->c<3->jM s (i+c)=jM s (j+c)):SS s i j:=⟨h 0 G G,h 1 G G,h 2 G G⟩
theorem bBj {s:AH} {i j c:Int} (c0:0<=c) (c3:c<3) (h:jM s (i+c)≠jM s (j+c)): ¬SS s i j:=by
 rintro⟨h0,h1,h2⟩;rcases(by omega:c=0\/c=1\/c=2) with rfl|rfl|rfl
 ·exact h h0
 ·exact h h1
 ·exact h h2
section
variable {s o V:AH} {q n:Int}
theorem bKf (nn:Nn s) (hp:o.Perm (smp s.length)) (hs:o.Pairwise λx y=> ¬LtH 3 (eu s y.toNat) (eu s x.toNat)) (q0:0<=q) (hq:q<o.length) (h:q=0\/ ¬SS s (rd o (q-1)) (rd o q)):
  q=0\/LtH 3 (eu s (rd o (q-1)).toNat) (eu s (rd o q).toNat):=by
 rcases cz 0 q with c|c
 ·rcases h with h|h
  ·exact .inl h
  ·have de: ∀p:Int,0<=p->p<o.length->0<=rd o p:=λp a b=>(oU (hp.subset (bG a b))).1;rw[aEg nn (de (q-1) G G) (de q q0 hq)] at h;have g:=fP hs (i:=q-1) (j:=q) G G hq;rcases tri 3 (eu s (rd o (q-1)).toNat) (eu s (rd o q).toNat) with a|a|a
   ·exact .inr a
   ·exact absurd a h
   ·exact absurd a g
 ·exact .inl G
theorem bKc (nn:Nn s) (hp:o.Perm (smp s.length)) (q0:0<=q) (hq:q<o.length) (h: ¬(q=0\/ ¬SS s (rd o (q-1)) (rd o q))):0<q/\EqH 3 (eu s (rd o (q-1)).toNat) (eu s (rd o q).toNat):=by
 have c:0<q:=G
 have de: ∀p:Int,0<=p->p<o.length->0<=rd o p:=λp a b=>(oU (hp.subset (bG a b))).1;refine⟨c,(aEg nn (de (q-1) G G) (de q q0 hq)).1 (uy.1 λg=>h (.inr g))⟩
theorem RkI.short (h:RkI s o V o.length n) (hp:o.Perm (smp s.length)) (h2:2<=s.length) (h3:s.length<=3):n=o.length:=by
 have hl:o.length=(s.length+1)/3+s.length/3:=by rw[hp.length_eq,DN]
 have de: ∀p:Int,0<=p->p<o.length->(0<=rd o p/\rd o p<s.length/\rd o p%3≠0):=λp a b=>mU.1 (hp.subset (bG a b));have hnq:=h.nq;have b0:=h.bd 0 G G;rcases(by omega:o.length=1\/o.length=2) with e|e
 ·omega
 ·have b1:=h.bd 1 G G;have i0:=de 0 G G;have i1:=de 1 G G;rcases h.lt 0 1 G G G with⟨a,_⟩|⟨_,a⟩
  ·exfalso;have cg:rd o 0≠rd o 1:=λg=>by have:=kM (hp.symm.nodup (rF _)) (i:=0) (j:=1) G G G G g;omega
   have:=vY (s:=s) (i:=(rd o 0).toNat) (j:=(rd o 1).toNat) G G G a;omega
  ·omega
theorem bLl {t:Int} (h0:0<=t) (h:t<(plc s.length 1).length):rd (plc s.length 1) t=bk s t:=by
 unfold bk;rw[dm h,XB h0 h];rfl
theorem bLk {t:Int} (h:(plc s.length 1).length<t) (ht:t-1<(smp s.length).length):rd (smp s.length) (t-1)=bk s t:=by
 unfold bk;rw[df G];unfold smp at ht ⊢;rw[ah] at ht;rw[iG G,XB G G];omega
theorem aOw (h:s.length<2):plc s.length 0=iota s.length:=by
 rcases(by omega:s.length=0\/s.length=1) with e|e<;>rw[e]<;>rfl
theorem bJr (h:s.length<2):(iota s.length).Pairwise (bV s):=by
 rcases(by omega:s.length=0\/s.length=1) with e|e
 ·rw[e];exact .nil
 ·rw[e];exact qi _ _
theorem bLo {W:AH} (hl:W.length=s.length) (h: ∀j:Int,0<=j->j<s.length->rd W j=rd V (j+1)):W=bhd s V:=
 bI (hl.trans (aMo s V).symm) λj h0 h1=>by rw[aGf h0 G];exact h j h0 G
theorem aXp {W:AH} {b:Int} (hl:W.length=s.length) (h: ∀j:Int,0<=j->j<s.length->rd W j=jM s (j+b)):W=iA s b:=
 bI (hl.trans (IU s b).symm) λj h0 h1=>by rw[ED h0 G];exact h j h0 G
end
theorem NJ: ∀ {L:AH},(∀x∈L,x<=1)->L.sum<=L.length
 |[],_=>cD
 |a::L,h=>by
  have:=NJ (L:=L) λx hx=>h x (gm _ hx);have:=h a cD;rw[uo,dn];omega
theorem bCe (s:AH) (m:Int):(thr s m).sum<=(m+1).toNat:=by
 rw[<-lC s m];refine NJ λx hx=> ?_;obtain⟨c,_,rfl⟩:=ii.1 hx;split<;>omega
theorem bJe {s W:AH} {m:Int} (hs: ∀x∈s,0<=x/\x<=m) (hl:W.length=s.length) (h: ∀j:Int,0<=j->j<s.length->rd W j=rd (dO (thr s m)) (rd s j)):W=sqz s m:=
 bI (hl.trans (LJ s m).symm) λj h0 h1=>by
  have hm:=hs _ (bG (L:=s) h0 G);unfold sqz;rw[xO h0 G,h j h0 G,oW hm.1 (by rw[lC];omega)]
def yK (s:AH) (i j:Nat) (d:Nat):Prop:=(i+d<s.length/\j+d<s.length)/\lt s (i+d)=lt s (j+d)
instance (s:AH) (i j d:Nat):Decidable (yK s i j d):=by unfold yK;exact inferInstance
def aDo (s:AH):Nat->Nat->Nat->Nat
 |0,_,_=>0
 |f+1,i,j=>if yK s i j 0 then aDo s f (i+1) (j+1)+1 else 0
def com (s:AH) (i j:Int):Nat:=aDo s s.length i.toNat j.toNat
theorem FN {s:AH} {i j m d:Nat}:yK s (i+m) (j+m) d↔yK s i j (m+d):=by
 unfold yK;rw[nz,nz]
theorem aDn {s:AH}: ∀(f i j:Nat),∀d,d<aDo s f i j->yK s i j d
 |0,i,j,d,h=>by simp[aDo] at h
 | f+1,i,j,d,h=>by
  unfold aDo at h;split at h
  ·rename_i c;cases d with
   |zero=>exact c
   |succ d=>
    have:=aDn (s:=s) f (i+1) (j+1) d G;rwa[FN,ve] at this
  ·omega
theorem aDm {s:AH}: ∀(f i j:Nat),s.length<=i+f-> ¬yK s i j (aDo s f i j)
 |0,i,j,h=>by
  unfold aDo yK;omega
 | f+1,i,j,h=>by
  unfold aDo;by_cases c:yK s i j 0
  ·rw [dm c];have:=aDm (s:=s) f (i+1) (j+1) G;rwa[FN,ve] at this
  ·rw[df c];exact c
theorem ME {s:AH} {i j:Int}: ∀d,d<com s i j->yK s i.toNat j.toNat d:=aDn _ _ _
theorem YH {s:AH} {i j:Int}: ¬yK s i.toNat j.toNat (com s i j):=aDm _ _ _ G
theorem bAf {s:AH} {i j:Int} {n:Nat} (h: ∀d,d<n->yK s i.toNat j.toNat d) (he: ¬yK s i.toNat j.toNat n):com s i j=n:=by
 rcases wu (com s i j) n with a|a|a
 ·exact absurd (h _ a) YH
 ·exact a
 ·exact absurd (ME _ a) he
theorem aId {s:AH} {i j:Int} {n:Nat}:n<=com s i j↔ ∀d,d<n->yK s i.toNat j.toNat d:=by
 refine⟨λh d hd=>ME d G,λh=>Jw.1 λc=> ?_⟩;exact YH (h _ c)
theorem bFx {s:AH} {i j:Int} {n:Nat} (i0:0<=i) (j0:0<=j) (h:n<=com s i j):com s (i+n) (j+n)=com s i j-n:=by
 refine bAf (λd hd=> ?_) ?_
 ·rw [show(i+(n:Int)).toNat=i.toNat+n by omega,show(j+(n:Int)).toNat=j.toNat+n by omega,FN];exact ME _ G
 ·rw [show(i+(n:Int)).toNat=i.toNat+n by omega,show(j+(n:Int)).toNat=j.toNat+n by omega,FN,show n+(com s i j-n)=com s i j by omega];exact YH
theorem QL {s:AH} {i j:Int} (i0:0<=i) (hi:i<=s.length) (j0:0<=j) (hj:j<=s.length):i+com s i j<=s.length/\j+com s i j<=s.length:=by
 rcases fo (com s i j) with z|z
 ·omega
 ·have:=(ME (s:=s) (i:=i) (j:=j) (com s i j-1) G).1;omega
theorem aLn {s:AH} {i j n:Int} (i0:0<=i) (j0:0<=j) (n0:0<=n):yK s i.toNat j.toNat n.toNat↔max i j+n<s.length/\rd s (i+n)=rd s (j+n):=by
 unfold yK rd lt;rw[show(i+n).toNat=i.toNat+n.toNat by omega,show(j+n).toNat=j.toNat+n.toNat by omega];omega
theorem bAe {s:AH} {i j n:Int} (i0:0<=i) (j0:0<=j) (n0:0<=n) (h:n.toNat<=com s i j) (hc:max i j+n<s.length/\rd s (i+n)=rd s (j+n)):(n+1).toNat<=com s i j:=by
 rw[aId] at h ⊢;intro d hd;rcases gp d n.toNat with a|a
 ·exact h d a
 ·rw [show d=n.toNat by omega];exact(aLn i0 j0 n0).2 hc
theorem aDl {s:AH} {i j n:Int} (i0:0<=i) (j0:0<=j) (n0:0<=n) (h:n.toNat<=com s i j) (hc: ¬(max i j+n<s.length/\rd s (i+n)=rd s (j+n))):n=com s i j:=by
 have:=bAf (aId.1 h) λh=>hc ((aLn i0 j0 n0).1 h);omega
theorem aMd {s:AH} {i j:Int} {n:Nat} (hi:0<=i/\i<s.length) (hj:0<=j/\j<s.length) (mz:i≠j):n<=com s i j↔EqH n (eu s i.toNat) (eu s j.toNat):=by
 rw[aId];constructor
 ·intro h d hd;obtain⟨⟨a,b⟩,c⟩:=h d hd;unfold eu;rw[dm a,dm b,c]
 ·intro h d hd;have r1:=vY (s:=s) (i:=i.toNat) (j:=j.toNat) G G G h;have r2:=vY (s:=s) (i:=j.toNat) (j:=i.toNat) G G G h.symm;refine⟨⟨G,G⟩,?_⟩;have:=h d hd;unfold eu at this;rw[dm G,dm G] at this;omega
theorem eq_between {n:Nat} {U V W:Nat->Int} (e:EqH n U W) (h1: ¬LtO V U) (h2: ¬LtO W V):EqH n U V:=by
 rcases tri n U V with a|a|a
 ·exact absurd (BO (e.symm.ltH a)) h2
 ·exact a
 ·exact absurd (BO a) h1
structure nC (s a R:AH):Prop where
 perm:a.Perm (iota s.length)
 sorted:a.Pairwise (bV s)
 len:R.length=s.length
 inv: ∀r:Int,0<=r->r<s.length->rd R (rd a r)=r
section
variable {s a R:AH}
theorem nC.alen (h:nC s a R):a.length=s.length:=by rw[h.perm.length_eq,bA]
theorem nC.ain (h:nC s a R) {r:Int} (r0:0<=r) (hr:r<s.length):0<=rd a r/\rd a r<s.length:=aZ.1 (h.perm.subset (bG r0 (by rw[h.alen];exact hr)))
theorem nC.at_ (h:nC s a R) {i:Int} (i0:0<=i) (hi:i<s.length):(0<=rd R i/\rd R i<s.length)/\rd a (rd R i)=i:=by
 obtain⟨p,p0,p1,e⟩:=aHi (h.perm.symm.subset (aZ.2 ⟨i0,hi⟩));rw[h.alen] at p1;have:=h.inv p p0 p1;rw[e] at this;rw[this];exact⟨⟨p0,p1⟩,e⟩
theorem nC.ord (h:nC s a R) {p q:Int} (p0:0<=p) (hpq:p<q) (hq:q<s.length):bV s (rd a p) (rd a q):=fP h.sorted p0 hpq (by rw[h.alen];exact hq)
theorem nC.rank (h:nC s a R) {i j:Int} (hi:0<=i/\i<s.length) (hj:0<=j/\j<s.length):rd R i<rd R j↔bV s i j:=by
 obtain⟨a1,a2⟩:=h.at_ hi.1 hi.2;obtain⟨b1,b2⟩:=h.at_ hj.1 hj.2;constructor
 ·intro c;have:=h.ord a1.1 c b1.2;rwa[a2,b2] at this
 ·intro c;rcases jl (rd R i) (rd R j) with d|d|d
  ·exact d
  ·rw [d,b2] at a2;rw[a2] at c;exact absurd c (gW _ _ c)
  ·have:=h.ord b1.1 d a1.2;rw[a2,b2] at this;exact absurd c (gW _ _ this)
theorem PV (h:nC s a R) {i:Int} (i0:0<=i) (hi:i+1<s.length) (h1:0<rd R i) (h2:0<rd R (i+1)):
  com s i (rd a (rd R i-1))-1<=com s (i+1) (rd a (rd R (i+1)-1)):=by
 rcases gp 1 (com s i (rd a (rd R i-1))) with c|c
 ·obtain ⟨ra,rb⟩:=h.at_ i0 G;obtain⟨sa,sb⟩:=h.at_ (i:=i+1) G hi;generalize hj:rd a (rd R i-1)=j at c ⊢;generalize hp:rd a (rd R (i+1)-1)=p;have Yb:=h.ain (r:=rd R i-1) G G;have pin:=h.ain (r:=rd R (i+1)-1) G G;rw[hj] at Yb;rw[hp] at pin;have Yj:=h.ord (p:=rd R i-1) (q:=rd R i) G G ra.2;rw[hj,rb] at Yj;have Yk:=h.ord (p:=rd R (i+1)-1) (q:=rd R (i+1)) G G sa.2;rw[hp,sb] at Yk;have Fl:j≠i:=λe=>by rw[e] at Yj;exact gW _ _ Yj Yj
  have Tp:p≠i+1:=λe=>by rw[e] at Yk;exact gW _ _ Yk Yk
  have bj:=QL (s:=s) (i:=i) (j:=j) G G G G;have w4:j+1<s.length:=G
  have e:=(aMd (n:=com s i j) ⟨i0,G⟩ Yb (Ir Fl)).1 (ed _);have e1:EqH 1 (eu s j.toNat) (eu s i.toNat):=(e.mono G).symm
  have o1:LtO (eu s (j+1).toNat) (eu s (i+1).toNat):=by
   rw[show(j+1).toNat=j.toNat+1 by omega,show(i+1).toNat=i.toNat+1 by omega,PR e1];exact pE.1 Yj
  have r1:=(h.rank (i:=j+1) (j:=i+1) ⟨G,w4⟩ ⟨G,hi⟩).2 (pE.2 o1);obtain⟨ta,tb⟩:=h.at_ (i:=j+1) G w4
  have e2:EqH (com s i j-1) (eu s (i+1).toNat) (eu s (j+1).toNat):=λd hd=>by
   have:=e (d+1) G;rw[show(j+1).toNat=j.toNat+1 by omega,show(i+1).toNat=i.toNat+1 by omega,yJ,yJ,ve 1 d];exact this
  refine(aMd ⟨G,hi⟩ pin (Ir Tp)).2 ?_
  have nw:j+1=p\/bV s (j+1) p:=by
   rcases cz (rd R (j+1)) (rd R (i+1)-1) with d|d
   ·have:=h.ord ta.1 d G;rw[tb,hp] at this;exact .inr this
   ·refine .inl ?_;rw[<-tb,<-hp];congr 1;omega
  rcases nw with rfl|nw
  ·exact e2
  ·refine e2.trans' (eq_between e2.symm (λg=> ?_) λg=> ?_)
   ·exact gW _ _ nw (pE.2 g)
   ·exact gW _ _ Yk (pE.2 g)
 ·omega
def BP (s a:AH):AH:=(List.range a.length).map λr:Nat=>if r=0 then 0 else(com s (rd a r) (rd a ((r:Int)-1)):Int)
theorem EU (s a:AH):(BP s a).length=a.length:=by simp[BP]
theorem XC {r:Int} (h0:0<=r) (h:r<a.length):rd (BP s a) r=if r=0 then 0 else(com s (rd a r) (rd a (r-1)):Int):=by
 unfold BP;rw[iT h0 G,show((r.toNat:Nat):Int)=r by omega];by_cases c:r=0
 ·rw[dm c,dm G]
 ·rw[df c,df G]
structure SX (s a R V:AH) (i n:Int):Prop where
 len:V.length=s.length
 n0:0<=n
 nl:i<s.length->0<rd R i->n.toNat<=com s i (rd a (rd R i-1))
 val: ∀p:Int,0<=p->p<i->rd V (rd R p)=rd (BP s a) (rd R p)
 zero:0<s.length->rd V 0=0
theorem aPt:SX s a R (List.replicate s.length 0) 0 0:=⟨bz,G,λ_ _=>oz _,λp h1 h2=>G,λ_=>qY⟩
variable {V:AH} {i n:Int}
theorem SX.skip (k:SX s a R V i n) (h:nC s a R) (i0:0<=i) (hi:i<s.length) (hr:rd R i=0):SX s a R V (i+1) 0:=by
 refine⟨k.len,G,λ_ _=>oz _,λp p0 p1=> ?_,k.zero⟩;rcases cz p i with c|c
 ·exact k.val p p0 c
 ·rw [show p=i by omega,hr,XC G (by rw[h.alen];omega),dm rfl];exact k.zero G
theorem SX.put (k:SX s a R V i n) (h:nC s a R) (i0:0<=i) (hi:i<s.length) (hr:rd R i≠0) {m:Int} (hm:m=com s i (rd a (rd R i-1))):SX s a R (upd V (rd R i) m) (i+1) (max (m-1) 0):=by
 obtain⟨ra,rb⟩:=h.at_ i0 hi;have hl:=k.len;refine⟨by rw[aY];exact hl,G,λh1 h2=> ?_,λp p0 p1=> ?_,λhs=> ?_⟩
 ·have:=PV h i0 h1 G h2;omega
 ·obtain ⟨pa,pb⟩:=h.at_ p0 (show p<s.length by omega);rcases cz p i with c|c
  ·rw [gN ra.1 pa.1 λe=>by rw[<-e,rb] at pb;omega];exact k.val p p0 c
  ·rw[show p=i by omega,fO ra.1 G,XC ra.1 (by rw[h.alen];exact ra.2),df hr,rb,hm]
 ·rw [gN ra.1 G hr];exact k.zero hs
theorem SX.done (k:SX s a R V s.length n) (h:nC s a R):V=BP s a:=by
 refine bI (by rw[k.len,EU,h.alen]) λj j0 j1=> ?_;rw[k.len] at j1;have e:=k.val (rd a j) (h.ain j0 j1).1 (h.ain j0 j1).2;rwa[h.inv j j0 j1] at e
def AC (s a R:AH):AH:=(List.range s.length).map λi:Nat=>if rd R i=0 then 0 else(com s i (rd a (rd R i-1)):Int)
theorem UJ:(AC s a R).length=s.length:=by simp[AC]
theorem OE (h0:0<=i) (h:i<s.length):rd (AC s a R) i=if rd R i=0 then 0 else(com s i (rd a (rd R i-1)):Int):=by
 unfold AC;rw[iT h0 G,show((i.toNat:Nat):Int)=i by omega]
theorem aVv (h:nC s a R) {r:Int} (r0:0<=r) (hr:r<s.length):rd (AC s a R) (rd a r)=rd (BP s a) r:=by
 have:=h.ain r0 hr;rw[OE this.1 this.2,h.inv r r0 hr,XC r0 (by rw[h.alen];exact hr)]
theorem nC.next (h:nC s a R) {r:Int} (r0:1<=r) (hr:r<s.length):rd s (rd a (r-1))<rd s (rd a r)\/rd s (rd a (r-1))=rd s (rd a r)/\
  ((rd a (r-1)+1=s.length/\rd a r+1<s.length)\/(rd a (r-1)+1<s.length/\rd a r+1<s.length/\rd R (rd a (r-1)+1)<rd R (rd a r+1))):=by
 have o:=h.ord (p:=r-1) (q:=r) G G hr;have x:=h.ain (r:=r-1) G G;have y:=h.ain (r:=r) G hr;generalize rd a (r-1)=p at o x ⊢;generalize rd a r=q at o y ⊢;rw[pE] at o
 have e0: ∀z:Int,0<=z->z<s.length->eu s z.toNat 0=rd s z-lo s+1:=λz z0 z1=>by
  unfold eu;rw[dm G];rfl
 obtain⟨k,h1,h2⟩:=o;cases k with
 |zero=>rw[e0 p x.1 x.2,e0 q y.1 y.2] at h2;exact .inl G
 | succ k=>
  have e:=h1 0 G;rw[e0 p x.1 x.2,e0 q y.1 y.2] at e;refine .inr ⟨G,?_⟩
  have hq:q+1<s.length:=by
   rcases gp (q.toNat+(k+1)) s.length with c|c
   ·omega
   ·rw [jZ c] at h2;have:=aYs s p.toNat (k+1);omega
  rcases cz (p+1) s.length with c|c
  ·refine .inr ⟨c,hq,(h.rank ⟨G,c⟩ ⟨G,hq⟩).2 (pE.2 ?_)⟩;rw[show(p+1).toNat=p.toNat+1 by omega,show(q+1).toNat=q.toNat+1 by omega,PR (λd hd=>by rw[show d=0 by omega];exact h1 0 G)];exact⟨k+1,h1,h2⟩
  ·exact .inl ⟨G,hq⟩
end
structure RS (a V:AH) (B:List Bool) (q:Int):Prop where
 len:V.length=a.length
 blen:B.length=a.length
 val: ∀p:Int,0<=p->p<q->rd V (rd a p)=p
 seen: ∀x:Int,0<=x->x<a.length->(rdb B x=true↔ ∃p:Int,0<=p/\p<q/\rd a p=x)
theorem aPy {a:AH}:RS a (List.replicate a.length 0) (List.replicate a.length false) 0:=
 ⟨bz,bz,λp h1 h2=>G,λx _ _=>by rw[EC];exact⟨λh=>(by cases h),λ⟨p,h1,h2,_⟩=>G⟩⟩
theorem RS.fresh {a V:AH} {B:List Bool} {q:Int} (h:RS a V B q) (hp:a.Perm (iota a.length)) (q0:0<=q) (hq:q<a.length):(0<=rd a q/\rd a q<a.length)/\ ¬rdb B (rd a q)=true:=by
 have de:=aZ.1 (hp.subset (bG q0 hq));refine⟨de,λhs=> ?_⟩;obtain⟨p,p0,p1,e⟩:=(h.seen _ de.1 de.2).1 hs;have:=kM (hp.symm.nodup (fB _)) p0 G q0 hq e;omega
theorem RS.step {a V:AH} {B:List Bool} {q:Int} (h:RS a V B q) (hp:a.Perm (iota a.length)) (q0:0<=q) (hq:q<a.length):RS a (upd V (rd a q) q) (qW B (rd a q) true) (q+1):=by
 obtain⟨⟨x0,x1⟩,_⟩:=h.fresh hp q0 hq;have hl:=h.len;have hb:=h.blen;have hnd:=hp.symm.nodup (fB a.length);refine⟨by rw[aY];exact hl,by rw[mI];exact hb,λp p0 p1=> ?_,λx h0 h1=> ?_⟩
 ·rcases cz p q with c|c
  ·have de:=aZ.1 (hp.subset (bG (L:=a) p0 G));rw[gN x0 de.1 λe=>by have:=kM hnd q0 hq p0 G e;omega];exact h.val p p0 c
  ·rw[show p=q by omega,fO x0 G]
 ·rw [zH x0 G h0];by_cases c:x=rd a q
  ·rw [dm c];exact⟨λ_=>⟨q,q0,G,c.symm⟩,λ_=>rfl⟩
  ·rw [df c,h.seen x h0 h1];exact⟨λ⟨p,p0,p1,e⟩=>⟨p,p0,G,e⟩,λ⟨p,p0,p1,e⟩=>⟨p,p0,(cz p q).elim id λd=>absurd (by rw[<-e,show p=q by omega]) c,e⟩⟩
theorem RS.done {s a V:AH} {B:List Bool} (h:RS a V B a.length) (hp:a.Perm (iota s.length)) (hs:a.Pairwise (bV s)):nC s a V:=by
 have hl:a.length=s.length:=by rw[hp.length_eq,bA]
 exact⟨hp,hs,by rw[h.len,hl],λr r0 hr=>h.val r r0 G⟩
def bGt (a V:AH):Prop:=V.length=a.length/\ ∀r:Int,0<=r->r<a.length->rd V (rd a r)=r
theorem RS.all {a V:AH} {B:List Bool} (h:RS a V B a.length):bGt a V:=⟨h.len,h.val⟩
theorem bGt.ord {s a V:AH} (h:bGt a V) (hp:a.Perm (iota s.length)) (hs:a.Pairwise (bV s)):nC s a V:=by
 have hl:a.length=s.length:=by rw[hp.length_eq,bA]
 exact⟨hp,hs,by rw[h.1,hl],λr r0 hr=>h.2 r r0 G⟩
theorem zK {s a:AH} (hp:a.Perm (iota s.length)):a.Perm (iota a.length):=by
 have hl:a.length=s.length:=by rw[hp.length_eq,bA]
 rwa[hl]
def bhF (R:AH) (i:Int):Int:=if i+1=R.length then -1 else rd R (i+1)
theorem MH {R:AH} {i:Int} (h0:0<=i) (h:i<R.length):rd (R++[-1]) (i+1)=bhF R i:=by
 unfold bhF;by_cases c:i+1=R.length
 ·rw [dm c,iG G,c,Gt];rfl
 ·rw[df c,kJ G G]
section
variable {s a R:AH}
theorem nC.bh (h:nC s a R) {i:Int} (h0:0<=i) (hi:i<s.length): -1<=bhF R i/\bhF R i<=s.length:=by
 unfold bhF;have hl:=h.len;split
 ·omega
 ·have:=(h.at_ (i:=i+1) G G).1;omega
theorem nC.nofall (h:nC s a R) {r:Int} (r0:1<=r) (hr:r<s.length): ¬(rd s (rd a r)<rd s (rd a (r-1))\/rd s (rd a (r-1))=rd s (rd a r)/\bhF R (rd a r)<bhF R (rd a (r-1))):=by
 have n:=h.next r0 hr;have hl:=h.len;have x:=h.ain (r:=r-1) G G;have y:=h.ain (r:=r) G hr;generalize rd a (r-1)=p at*;generalize rd a r=q at*;have yb:=h.bh y.1 y.2;unfold bhF at*;rintro(g|⟨g,g2⟩)
 ·omega
 ·rcases n with n|⟨_,⟨n1,n2⟩|⟨n1,n2,n3⟩⟩
  ·omega
  ·rw [dm (show p+1=R.length by omega)] at g2;omega
  ·rw [df (show¬p+1=R.length by omega),df (show¬q+1=R.length by omega)] at g2;omega
structure AhI (a V:AH) (q l:Int):Prop where
 len:V.length=a.length
 last:l=if q=0 then -1 else rd a (q-1)
 val: ∀p:Int,0<=p->p<q->rd V (rd a p)=if p=0 then -1 else rd a (p-1)
def AhF (a V:AH):Prop:=V.length=a.length/\ ∀p:Int,0<=p->p<a.length->rd V (rd a p)=if p=0 then -1 else rd a (p-1)
theorem bBk:AhI a (List.replicate a.length 0) 0 (-1):=⟨bz,by rw[dm rfl],λp h1 h2=>G⟩
variable {V:AH} {q l:Int}
theorem AhI.step (h:AhI a V q l) (hp:a.Perm (iota a.length)) (q0:0<=q) (hq:q<a.length):AhI a (upd V (rd a q) l) (q+1) (rd a q):=by
 have de:=aZ.1 (hp.subset (bG q0 hq));have hnd:=hp.symm.nodup (fB a.length);have hl:=h.len;refine⟨by rw[aY];exact hl,by rw[df G,show q+1-1=q by omega],λp p0 p1=> ?_⟩;rcases cz p q with c|c
 ·have ip:=aZ.1 (hp.subset (bG (L:=a) p0 G));rw[gN de.1 ip.1 λe=>by have:=kM hnd q0 hq p0 G e;omega];exact h.val p p0 c
 ·rw [show p=q by omega,fO de.1 G];exact h.last
theorem AhI.done (h:AhI a V a.length l):AhF a V:=⟨h.len,h.val⟩
theorem AhF.at_ (h:AhF a V) (o:nC s a R) {i:Int} (h0:0<=i) (hi:i<s.length):rd V i=if rd R i=0 then -1 else rd a (rd R i-1):=by
 obtain⟨x,y⟩:=o.at_ h0 hi;have:=h.2 (rd R i) x.1 (by rw[o.alen];exact x.2);rwa[y] at this
structure PlI (s a R V:AH) (i n:Int):Prop where
 len:V.length=s.length
 n0:0<=n
 nl:i<s.length->0<rd R i->(n-1).toNat<=com s i (rd a (rd R i-1))
 val: ∀p:Int,0<=p->p<i->rd V p=rd (AC s a R) p
theorem aVw:PlI s a R (List.replicate s.length 0) 0 0:=⟨bz,G,λ_ _=>oz _,λp h1 h2=>G⟩
variable {i n:Int}
theorem PlI.put (k:PlI s a R V i n) (i0:0<=i) (hi:i<s.length) {m:Int} (hm:m=rd (AC s a R) i) (h0:0<=m) (hn:i+1<s.length->0<rd R (i+1)->(m-1).toNat<=com s (i+1) (rd a (rd R (i+1)-1))):PlI s a R (upd V i m) (i+1) m:=by
 have hl:=k.len;refine⟨by rw[aY];exact hl,h0,hn,λp p0 p1=> ?_⟩;rcases cz p i with c|c
 ·rw [gN i0 p0 G];exact k.val p p0 c
 ·rw [show p=i by omega,fO i0 G];exact hm
theorem PlI.zero (k:PlI s a R V i n) (i0:0<=i) (hi:i<s.length) (hr:rd R i=0):PlI s a R (upd V i 0) (i+1) 0:=
 k.put i0 hi (by rw[OE i0 hi,dm hr]) G λ_ _=>oz _
theorem PlI.more (k:PlI s a R V i n) (h:nC s a R) (i0:0<=i) (hi:i<s.length) (hr:rd R i≠0) {j:Int} (hj:j=rd a (rd R i-1)):
  ((max (n-1) 0).toNat<=com s i j)/\PlI s a R (upd V i (max (n-1) 0+(com s (i+max (n-1) 0) (j+max (n-1) 0):Int))) (i+1) (max (n-1) 0+(com s (i+max (n-1) 0) (j+max (n-1) 0):Int)):=by
 obtain⟨x,y⟩:=h.at_ i0 hi;have Yb:=h.ain (r:=rd R i-1) G G;have hl:=k.nl hi G;rw[<-hj] at Yb hl;have hm:(max (n-1) 0).toNat<=com s i j:=G
 have hs:=bFx i0 Yb.1 hm;rw[show(((max (n-1) 0).toNat:Nat):Int)=max (n-1) 0 by omega] at hs;have e:max (n-1) 0+(com s (i+max (n-1) 0) (j+max (n-1) 0):Int)=com s i j:=by rw[hs];omega
 refine⟨hm,?_⟩;rw[e];refine k.put i0 hi (by rw[OE i0 hi,df hr,hj]) G λh1 h2=> ?_;have:=PV h i0 h1 G h2;rw[<-hj] at this;omega
theorem PlI.done (k:PlI s a R V s.length n):V=AC s a R:=
 bI (by rw[k.len,UJ]) λj j0 j1=>k.val j j0 (by have:=k.len;omega)
theorem bKm (h:nC s a R) {U:AH} (hl:U.length=a.length) (hU: ∀p:Int,0<=p->p<a.length->rd U p=rd (AC s a R) (rd a p)):U=BP s a:=
 bI (by rw[hl,EU]) λj j0 j1=>by
  have e:=h.alen;rw[hU j j0 G,aVv h j0 G]
end
section
variable {l b V:AH} {k c i:Int}
def mtf (l:AH) (k:Int):AH:=rd l k::(l.take k.toNat++l.drop (k.toNat+1))
def idx (l:AH) (c:Int):Int:=(l.findIdx (λx=>x==c):Nat)
def dB (l:AH):AH->AH
 |[]=>[]
 |c::b=>idx l c::dB (mtf l (idx l c)) b
def wM (l:AH):AH->AH
 |[]=>l
 |c::b=>wM (mtf l (idx l c)) b
def qR (l:AH):AH->AH
 |[]=>[]
 |k::b=>rd l k::qR (mtf l k) b
def KQ (l:AH):AH->AH
 |[]=>l
 |k::b=>KQ (mtf l k) b
theorem PK (c:Int): ∀(b l:AH),dB l (b++[c])=dB l b++[idx (wM l b) c]
 |[],l=>rfl
 |x::b,l=>by simp only[iy,dB,wM,PK c b]
theorem UC (c:Int): ∀(b l:AH),wM l (b++[c])=mtf (wM l b) (idx (wM l b) c)
 |[],l=>rfl
 |x::b,l=>by simp only[iy,wM,UC c b]
theorem TZ (k:Int): ∀(b l:AH),KQ l (b++[k])=mtf (KQ l b) k
 |[],l=>rfl
 |x::b,l=>by simp only[iy,KQ,TZ k b]
theorem iY: ∀(b l:AH),(dB l b).length=b.length
 |[],_=>rfl
 |x::b,l=>by simp only[dB,dn,iY b]
theorem GY: ∀(b l:AH),(qR l b).length=b.length
 |[],_=>rfl
 |x::b,l=>by simp only[qR,dn,GY b]
theorem ES (h0:0<=k) (h:k<l.length):(mtf l k).Perm l:=by
 have e:=iO (s:=l) h0 h;rw[show(k+1).toNat=k.toNat+1 by omega] at e;unfold mtf
 conv=>rhs;rw[<-gz k.toNat l,e]
 exact List.perm_middle.symm
theorem yE (h:c∈l):0<=idx l c/\idx l c<l.length:=by
 unfold idx;have:=List.findIdx_lt_length_of_exists (xs:=l) (p:=λx=>x==c) ⟨c,h,cD⟩;omega
theorem aGd (h:c∈l):rd l (idx l c)=c:=by
 have hi:=yE h;have br:l.findIdx (λx=>x==c)<l.length:=by unfold idx at hi;omega
 have:=Fy (xs:=l) (p:=λx=>x==c) (w:=br);unfold idx;rw[jK br];simpa using this
theorem UD: ∀(b l:AH),(∀c∈b,c∈l)->(wM l b).Perm l
 |[],l,_=> .refl _
 |c::b,l,h=>by
  have hc:=yE (h c cD);have hp:=ES hc.1 hc.2;exact(UD b _ λx hx=>hp.symm.subset (h x (gm _ hx))).trans hp
theorem UA: ∀(b l:AH),(∀k∈b,0<=k/\k<l.length)->(KQ l b).Perm l
 |[],l,_=> .refl _
 |k::b,l,h=>by
  have hk:=h k cD;have hp:=ES hk.1 hk.2;exact(UA b _ λx hx=>by rw[hp.length_eq];exact h x (gm _ hx)).trans hp
theorem aBn: ∀(b l:AH),(∀c∈b,c∈l)-> ∀k∈dB l b,0<=k/\k<l.length
 |[],l,_=>λk hk=>by cases hk
 | c::b,l,h=>by
  have hc:=yE (h c cD);have hp:=ES hc.1 hc.2;intro k hk;rcases jd.1 hk with rfl|hk
  ·exact hc
  ·have:=aBn b _ (λx hx=>hp.symm.subset (h x (gm _ hx))) k hk;rwa[hp.length_eq] at this
theorem TE: ∀(b l:AH),(∀c∈b,c∈l)->qR l (dB l b)=b
 |[],_,_=>rfl
 |c::b,l,h=>by
  have hc:=yE (h c cD);have hp:=ES hc.1 hc.2;simp only[dB,qR];rw[aGd (h c cD),TE b _ λx hx=>hp.symm.subset (h x (gm _ hx))]
def bL:AH:=iota 256
theorem BK:bL.length=256:=bA _
theorem BJ {b:AH} (h:aO b): ∀c∈b,c∈bL:=λc hc=>by
 have:=h c hc;exact aZ.2 G
theorem pO (h:aO b):aO (dB bL b):=λk hk=>by
 have:=aBn b _ (BJ h) k hk;rw[BK] at this;omega
theorem vL (h:aO b):qR bL (dB bL b)=b:=TE b _ (BJ h)
theorem UN: ∀(x y l:AH),dB l (x++y)=dB l x++dB (wM l x) y
 |[],_,_=>rfl
 |c::x,y,l=>by simp only[iy,dB,wM,UN x y]
theorem TF: ∀(x y l:AH),qR l (x++y)=qR l x++qR (KQ l x) y
 |[],_,_=>rfl
 |c::x,y,l=>by simp only[iy,qR,KQ,TF x y]
theorem aVm (h0:0<=i) (h:i<b.length):rd (dB l b) i=idx (wM l (b.take i.toNat)) (rd b i):=by
 have e:b=b.take i.toNat++(rd b i::b.drop (i+1).toNat):=by rw[<-iO h0 h,gz]
 have hl:((dB l (b.take i.toNat)).length:Int)=i:=by rw[iY,ax];omega
 conv=>lhs;rw[e,UN]
 rw[iG G,hl,Gt];rfl
theorem aVl (h0:0<=i) (h:i<b.length):rd (qR l b) i=rd (KQ l (b.take i.toNat)) (rd b i):=by
 have e:b=b.take i.toNat++(rd b i::b.drop (i+1).toNat):=by rw[<-iO h0 h,gz]
 have hl:((qR l (b.take i.toNat)).length:Int)=i:=by rw[GY,ax];omega
 conv=>lhs;rw[e,TF]
 rw[iG G,hl,Gt];rfl
theorem UB (h0:0<=i) (h:i<b.length):wM l (b.take (i+1).toNat)=mtf (wM l (b.take i.toNat)) (idx (wM l (b.take i.toNat)) (rd b i)):=by
 rw[dJ h0 h,UC]
theorem aOk (h0:0<=i) (h:i<b.length):KQ l (b.take (i+1).toNat)=mtf (KQ l (b.take i.toNat)) (rd b i):=by
 rw[dJ h0 h,TZ]
theorem aGt (h0:0<=i) (h:i<b.length):dB l (b.take (i+1).toNat)=dB l (b.take i.toNat)++[idx (wM l (b.take i.toNat)) (rd b i)]:=by
 rw[dJ h0 h,PK]
theorem bKh (h0:0<=k) (h:k<l.length):upd (l.take 1++(l.take k.toNat).take (min k.toNat (l.length-1))++l.drop (1+min k.toNat (l.length-1))) 0 (rd l k)=mtf l k:=by
 have e:min k.toNat (l.length-1)=k.toNat:=G
 rw[e,List.take_take,Nat.min_self,ve 1];unfold mtf upd;cases l with
 |nil=>simp at h;omega
 |cons x l=>simp
theorem aAj (hb:aO b) (k:Nat):(wM bL (b.take k)).Perm bL:=UD _ _ λc hc=>BJ hb c (ll hc)
theorem aUh (hb:aO b) (k:Nat):(KQ bL (b.take k)).Perm bL:=UA _ _ λc hc=>by
 have:=hb c (ll hc);rw[BK];omega
theorem IC (h:V.Perm bL):V.length=256/\aO V/\ ∀c:Int,0<=c->c<256->c∈V/\0<=idx V c/\idx V c<256:=by
 have hl:V.length=256:=by rw[h.length_eq,BK]
 refine⟨hl,λx hx=>by have:=aZ.1 (h.subset hx);omega,λc c0 c1=> ?_⟩;have hm:c∈V:=h.symm.subset (aZ.2 ⟨c0,c1⟩);have:=yE hm;exact⟨hm,this.1,G⟩
theorem aCc (hm:c∈V) (h:k<=idx V c) (cg:rd V k≠c):k+1<=idx V c:=by
 rcases cz k (idx V c) with a|a
 ·omega
 ·exact absurd (by rw[show k=idx V c by omega];exact aGd hm) cg
theorem aYe (k0:0<=k) (h:k<=idx V c) (hm:c∈V) (he:rd V k=c):k=idx V c:=by
 have hx:=yE hm;rcases cz k (idx V c) with a|a
 ·exfalso;unfold idx at a;have:=Ed (xs:=V) (p:=λx=>x==c) (i:=k.toNat) G;rw[gB k0 G] at he;simp[he] at this
 ·omega
def JQ:Nat->Nat->AH
 |0,_=>[]
 |f+1,n=>if n=0 then [] else(((n-1)%2:Nat):Int)::JQ f ((n-1)/2)
def eX (n:Nat):AH:=JQ n n
theorem ZP: ∀(f g n:Nat),n<=f->n<=g->JQ f n=JQ g n
 |0,0,n,_,_=>rfl
 |0,g+1,n,h,_=>by
  have:n=0:=G
  simp[JQ,this]
 |f+1,0,n,_,h=>by
  have:n=0:=G
  simp[JQ,this]
 |f+1,g+1,n,h1,h2=>by
  simp only[JQ];by_cases z:n=0
  ·rw[dm z,dm z]
  ·rw[df z,df z,ZP f g _ G G]
theorem TH:eX 0=[]:=rfl
theorem DC {n:Nat} (h:0<n):eX n=(((n-1)%2:Nat):Int)::eX ((n-1)/2):=by
 obtain⟨m,rfl⟩: ∃m,n=m+1:=⟨n-1,G⟩;unfold eX;rw[JQ,df G];congr 1;exact ZP _ _ _ G (ed _)
theorem WJ: ∀(m n:Nat),n<=m-> ∀x∈eX n,0<=x/\x<=1
 |0,n,h=>by
  have:n=0:=G
  subst this;intro x hx;cases hx
 | m+1,n,h=>by
  rcases fo n with z|z
  ·subst z;intro x hx;cases hx
  ·rw [DC z];intro x hx;rcases jd.1 hx with rfl|hx
   ·omega
   ·exact WJ m _ G x hx
theorem DD: ∀(m n:Nat),n<=m->(eX n).length<=n
 |0,n,h=>by
  have:n=0:=G
  subst this;exact ed _
 | m+1,n,h=>by
  rcases fo n with z|z
  ·subst z;exact ed _
  ·rw [DC z,dn];have:=DD m ((n-1)/2) G;omega
def dE:Nat->AH->AH
 |n,[]=>eX n
 |n,c::b=>if c=0 then dE (n+1) b else eX n++((c+1)::dE 0 b)
theorem qE: ∀(b:AH) (n:Nat),(dE n b).length<=n+b.length
 |[],n=>by
  have:=DD n n (ed _);simp only[dE,il];omega
 | c::b,n=>by
  simp only[dE];split
  ·have:=qE b (n+1);simp only[dn];omega
  ·have:=qE b 0;have:=DD n n (ed _);rw[ah,dn,dn];omega
theorem LD: ∀(b:AH) (n:Nat),aO b-> ∀x∈dE n b,0<=x/\x<=256
 |[],n,_=>λx hx=>by have:=WJ n n (ed _) x hx;omega
 | c::b,n,h=>by
  have hc:=h c cD;have hb:aO b:=λx hx=>h x (gm _ hx);intro x hx;simp only[dE] at hx;split at hx
  ·exact LD b _ hb x hx
  ·rcases ek.1 hx with hx|hx
   ·have:=WJ n n (ed _) x hx;omega
   ·rcases jd.1 hx with rfl|hx
    ·omega
    ·exact LD b _ hb x hx
def bkL (ew:Int):AH->AH->Int->Option (AH)
 |[],out,_=>some out
 |x::l,out,p=>if x<0\/257<=x then none else
  if 2<=x then(if ew<out.length+1 then none else bkL ew l (out++[x-1]) 1)
  else if ew<p\/ew-out.length<(x+1)*p then none else bkL ew l (out++List.replicate ((x+1)*p).toNat 0) (p*2)
theorem YM (ew:Int) (t:AH): ∀(m n:Nat),n<=m-> ∀(out:AH) (p:Nat),0<p->(out.length:Int)+n*p<=ew->
  ∃p':Nat,0<p'/\bkL ew (eX n++t) out p=bkL ew t (out++List.replicate (n*p) 0) p'
 |0,n,h=>by
  intro out p hp _;have:n=0:=G
  subst this;exact⟨p,hp,by simp[TH]⟩
 | m+1,n,h=>by
  intro out p hp hm;rcases fo n with z|z
  ·subst z;exact⟨p,hp,by simp[TH]⟩
  ·rw [DC z,iy];have hd:n=((n-1)%2+1)+2*((n-1)/2):=G
   generalize ha:(n-1)%2=a at hd;generalize hb:(n-1)/2=b at hd;have ha1:a<=1:=G
   have hnp:n*p=(a+1)*p+b*(p*2):=by rw[hd,yl,Ag 2 b,Nat.mul_assoc,Ag 2 p]
   have hnp2:(n:Int)*p=((n*p:Nat):Int):=cD
   have h1:(((a:Nat):Int)+1)*p=(((a+1)*p:Nat):Int):=cD
   have ye:p<=(a+1)*p:=Eg _ G
   obtain⟨p',cr,e⟩:=YM ew t m b G (out++List.replicate ((a+1)*p) 0) (p*2) G (by
    rw[ah,bz];have:(b:Int)*((p*2:Nat):Int)=((b*(p*2):Nat):Int):=cD
    rw[this]
    omega)
   refine⟨p',cr,?_⟩;rw[bkL,df G,df G,df (by rw[h1];omega),h1,dh];have e2:((p:Nat):Int)*2=((p*2:Nat):Int):=cD
   rw[e2,e,dx,Eu,<-hnp]
theorem YN (ew:Int): ∀(b:AH) (n:Nat) (out:AH),aO b->(out.length:Int)+n+b.length<=ew->bkL ew (dE n b) out 1=some (out++List.replicate n 0++b)
 |[],n,out,_,h=>by
  obtain⟨p',cr,e⟩:=YM ew [] n n (ed _) out 1 G (by simp only[il] at h;omega);rw[iw,qp] at e;simp only[dE];have e1:((1:Nat):Int)=1:=rfl;rw[e1] at e;rw[e];simp[bkL]
 | c::b,n,out,hb,h=>by
  have hc:=hb c cD;have u6:aO b:=λx hx=>hb x (gm _ hx);simp only[dn] at h;simp only[dE];split
  ·rename_i z;rw[YN ew b (n+1) out u6 G,z,Bt];simp
  ·rename_i z;obtain⟨p',cr,e⟩:=YM ew ((c+1)::dE 0 b) n n (ed _) out 1 G G;have e1:((1:Nat):Int)=1:=rfl;rw[qp,e1] at e;rw[e,bkL,df G,dm G,df (by rw[ah,bz];omega),YN ew b 0 _ u6 (by rw[ah,ah,bz,ic];omega)];rw[show c+1-1=c by omega];simp
theorem bLm {ew:Int} (hb:aO b) (h:b.length<=ew):bkL ew (dE 0 b) [] 1=some b:=by
 have:=YN ew b 0 [] hb (by simpa using h);simpa using this
end
section
variable {l V b C U:AH} {i v x x0 s t:Int}
def beL:Nat->Int->AH
 |0,_=>[]
 |k+1,N=>beL k (N/256)++[N%256]
theorem kS: ∀(k:Nat) (N:Int),(beL k N).length=k
 |0,_=>rfl
 |k+1,N=>by rw[beL,ah,kS k,ic]
theorem zV: ∀(k:Nat) (N:Int),aO (beL k N)
 |0,_=>λx h=>by cases h
 |k+1,N=>λx h=>by
  rw[beL] at h;rcases ek.1 h with h|h
  ·exact zV k _ x h
  ·rw[ig.1 h];omega
theorem bAz (k:Nat) (M d:Int) (h:0<=d/\d<256):beL (k+1) (M*256+d)=beL k M++[d]:=by
 rw[beL,show(M*256+d)/256=M by omega,show(M*256+d)%256=d by omega]
theorem aSi (k:Nat) (N:Int):beL (k+1) (N*256)=beL k N++[0]:=by
 have:=bAz k N 0 G;rwa[yx] at this
def bBl:AH->Int->AH
 |[],_=>[]
 |d::l,x=>(x+d)%256::bBl l ((x+d)/256)
def GK (l:AH) (x:Int):AH:=(bBl l.reverse x).reverse
theorem VW (l:AH) (d x:Int):GK (l++[d]) x=GK l ((x+d)/256)++[(x+d)%256]:=by
 unfold GK;rw[List.reverse_append,List.reverse_singleton,pz,bBl,List.reverse_cons]
theorem VZ: ∀l:AH,aO l->bBl l 0=l
 |[],_=>rfl
 |d::l,h=>by
  have hd:=h d cD;rw[bBl,Int.zero_add,kz hd.1 hd.2,Int.ediv_eq_zero_of_lt hd.1 hd.2,VZ l λx hx=>h x (gm _ hx)]
theorem aSo (h:aO l):GK l 0=l:=by
 unfold GK;rw[VZ _ λx hx=>h x (yu.1 hx),Gc]
theorem MI: ∀(k:Nat) (N x:Int),GK (beL k N) x=beL k (N+x)
 |0,_,_=>rfl
 |k+1,N,x=>by
  rw[beL,VW,MI k,beL,show N/256+(x+N%256)/256=(N+x)/256 by omega,show(x+N%256)%256=(N+x)%256 by omega]
theorem aNf (i0:0<=i) (hi:i<V.length):upd V i v=V.take i.toNat++v::V.drop (i+1).toNat:=by
 unfold upd;rw[Dy,dm G,show(i+1).toNat=i.toNat+1 by omega]
def aEm (b:AH) (x0:Int) (V:AH) (i x:Int):Prop:=V.length=b.length/\aO V/\GK (V.take (i+1).toNat) x++V.drop (i+1).toNat=GK b x0
theorem VY (hb:aO b) (hi:i=b.length-1):aEm b x b i x:=by
 refine⟨rfl,hb,?_⟩;rw[bg G,xx G,iw]
theorem aEm.step {d y:Int} (h:aEm b x0 V i x) (i0:0<=i) (hi:i<b.length) (hd:d=(x+rd V i)%256) (hy:y=(x+rd V i)/256):aEm b x0 (upd V i d) (i-1) y:=by
 obtain⟨hl,hV,ha⟩:=h;have hs:=aNf (V:=V) (v:=d) i0 G
 have h1:(upd V i d).take i.toNat=V.take i.toNat:=by
  unfold upd;rw[List.take_set_of_le (ed _)]
 have h2:(upd V i d).drop i.toNat=d::V.drop (i+1).toNat:=by
  rw[hs,List.drop_append_of_le_length (by rw[ax];omega),xx (by rw[ax];omega),iv]
 refine⟨by rw[aY];exact hl,λc hc=> ?_,?_⟩
 ·rw [hs] at hc;rcases ek.1 hc with hc|hc
  ·exact hV c (ll hc)
  ·rcases jd.1 hc with rfl|hc
   ·omega
   ·exact hV c (nu hc)
 ·rw [Int.sub_add_cancel,h1,h2,<-ha,dJ i0 G,VW,hd,hy,dx];rfl
theorem aEm.stop (h:aEm b x0 V i x) (hx:x=0\/i<0):V=GK b x0:=by
 obtain⟨hl,hV,ha⟩:=h;rw[<-ha];rcases hx with rfl|hx
 ·rw[aSo (λc hc=>hV c (ll hc)),gz]
 ·rw [show(i+1).toNat=0 by omega];rfl
theorem bGl: ∀(k:Nat) (N:Int),beL (k+4) N=beL k (N/4294967296)++[N%4294967296/16777216,N%16777216/65536,N%65536/256,N%256]:=λk N=>by
 rw[beL,beL,beL,beL,dx,dx,dx];rw[show N/256/256/256/256=N/4294967296 by omega,show N/256/256/256%256=N%4294967296/16777216 by omega,show N/256/256%256=N%16777216/65536 by omega,show N/256%256=N%65536/256 by omega];rfl
theorem XA {k:Int} (h0:0<=i) (h:i<k):rd (l.take k.toNat) i=rd l i:=by
 unfold rd;rw[ai,ai,qo G]
def cK (l:AH):Int:=l.sum
theorem uM (x:Int) (l:AH):cK (x::l)=x+cK l:=uo
theorem JS (x y:AH):cK (x++y)=cK x+cK y:=Db
theorem aNp (l:AH) (x:Int):cK (l++[x])=cK l+x:=by rw[JS];simp[cK]
theorem oP (h0:0<=i) (h:i<l.length):cK (l.take (i+1).toNat)=cK (l.take i.toNat)+rd l i:=by rw[dJ h0 h,aNp]
theorem bCh {l:AH} (h: ∀c∈l,1<=c):(l.length:Int)<=cK l:=by
 induction l with
 |nil=>simp[cK]
 |cons x l ih=>
  have:=ih λc hc=>h c (gm _ hc);have:=h x cD;rw[uM,dn];omega
theorem tK {l:AH} (h: ∀c∈l,1<=c):0<=cK l:=by have:=bCh h;omega
theorem BG (h0:0<=i) (h:i<l.length):cK l=cK (l.take i.toNat)+rd l i+cK (l.drop (i+1).toNat):=by
 conv=>lhs;rw[<-gz i.toNat l,iO h0 h]
 rw[JS,uM];omega
theorem aTr {l:AH} (h: ∀c∈l,1<=c) (k:Nat): ∀c∈l.take k,1<=c:=λc hc=>h c (ll hc)
theorem aZv {l:AH} (h: ∀c∈l,1<=c) (k:Nat): ∀c∈l.drop k,1<=c:=λc hc=>h c (nu hc)
theorem uL {l:AH} (hp: ∀c∈l,1<=c) (h0:0<=i) (h:i<l.length):0<=cK (l.take i.toNat)/\1<=rd l i/\cK (l.take i.toNat)+rd l i<=cK l:=by
 have h1:=BG h0 h;have h2:=tK (aZv hp (i+1).toNat);have h3:=tK (aTr hp i.toNat);have h4:=hp _ (bG h0 h);omega
theorem ZV (h0:0<=i) (h:i<l.length):cK (upd l i v)=cK l-rd l i+v:=by
 have e1:=BG (l:=upd l i v) h0 (by rw[aY];exact h);have e2:=BG h0 h;rw[fO h0 h] at e1
 have e3:(upd l i v).take i.toNat=l.take i.toNat:=by
  unfold upd;rw[List.take_set_of_le (ed _)]
 have e4:(upd l i v).drop (i+1).toNat=l.drop (i+1).toNat:=by
  unfold upd;rw[List.drop_set_of_lt G]
 rw[e3,e4] at e1;omega
theorem TQ {l:AH} (h: ∀c∈l,1<=c):2*cK (l.map λn=>(n+1)/2)<=cK l+l.length:=by
 induction l with
 |nil=>simp[cK]
 |cons x l ih=>
  have:=ih λc hc=>h c (gm _ hc);rw[jm,uM,uM,dn];omega
def mE (C:AH):Prop:=C.length=258/\(∀c∈C,1<=c)/\cK C<=65504
def zX:AH:=List.replicate 258 1
theorem NK (n:Nat) (x:Int):cK (List.replicate n x)=n*x:=by
 induction n with
 |zero=>simp[cK]
 |succ n ih=>rw[List.replicate_succ,uM,ih];rw[Int.natCast_succ,Km];omega
theorem XL:mE zX:=⟨bz,λc hc=>by rw[Cr hc];omega,by unfold zX;rw[NK];omega⟩
def qU (C:AH):AH:=C.map λn=>(n+1)/2
def mJ (C:AH) (s:Int):AH:=if 65504<cK (upd C s (rd C s+32)) then qU (upd C s (rd C s+32)) else upd C s (rd C s+32)
theorem aJr {C:AH} {s v:Int} (h: ∀c∈C,1<=c) (hv:1<=v): ∀c∈upd C s v,1<=c:=λc hc=>by
 unfold upd at hc;rcases List.mem_or_eq_of_mem_set hc with h1|h1
 ·exact h c h1
 ·omega
theorem bCr (h:mE C) (h0:0<=s) (hs:s<258):mE (mJ C s):=by
 obtain⟨hl,hp,ht⟩:=h;have h1:=hp _ (bG (L:=C) (k:=s) h0 G);have hu:=ZV (l:=C) (i:=s) (v:=rd C s+32) h0 G;have hq:=aJr (C:=C) (s:=s) (v:=rd C s+32) hp G;unfold mJ;split
 ·refine ⟨by unfold qU;rw[bu,aY];exact hl,λc hc=> ?_,?_⟩
  ·obtain ⟨x,hx,rfl⟩:=ii.1 hc;have:=hq x hx;omega
  ·have:=TQ hq;rw[aY,hl] at this;unfold qU;omega
 ·exact⟨by rw[aY];exact hl,hq,G⟩
theorem aVn (h0:0<=i) (h:i<C.length):rd (qU C) i=(rd C i+1)/2:=by
 unfold qU;rw[gB h0 (by rw[bu];exact h),gB h0 h,yt]
theorem IG {n:Nat} (h0:0<=i) (h:i<n):rd (List.replicate n x) i=x:=by
 rw[gB h0 (by rw[bz];exact h),List.getElem_replicate]
theorem bKi (hl:V.length=258) (h: ∀j:Int,0<=j->j<258->rd V j=1):V=zX:=
 bI (by rw[hl];exact bz.symm) λj j0 j1=>by
  unfold zX;rw[h j j0 G,IG j0 G]
def RQ (C:AH):Prop:=C.length=258/\(∀c∈C,1<=c)/\cK C<=65536
theorem mE.le (h:mE C):RQ C:=⟨h.1,h.2.1,by have:=h.2.2;omega⟩
theorem RQ.part (h:RQ C) (h0:0<=i) (hi:i<258):(0<=cK (C.take i.toNat)/\cK (C.take i.toNat)<=65536)/\(1<=rd C i/\rd C i<=65536)/\cK (C.take i.toNat)+rd C i<=65536:=by
 have:=uL (i:=i) h.2.1 h0 (by rw[h.1];omega);have:=h.2.2;omega
theorem mE.up (h:mE C) (h0:0<=s) (hs:s<258):RQ (upd C s (rd C s+32))/\cK (upd C s (rd C s+32))=cK C+32:=by
 have hp:=h.le.part h0 hs;have hu:=ZV (l:=C) (i:=s) (v:=rd C s+32) h0 (by rw[h.1];omega);have:=h.2.2;exact⟨⟨by rw[aY];exact h.1,aJr h.2.1 G,G⟩,G⟩
theorem RQ.half (h:RQ C):mE (qU C):=by
 have:=TQ h.2.1;rw[h.1] at this;have hl:=h.2.2;refine⟨by unfold qU;rw[bu];exact h.1,λc hc=> ?_,by unfold qU;omega⟩;obtain⟨x,hx,rfl⟩:=ii.1 hc;have:=h.2.1 x hx;omega
structure KM (U V:AH) (i:Int) (t:Int):Prop where
 len:V.length=258
 done: ∀j:Int,0<=j->j<i->rd V j=rd (qU U) j
 left: ∀j:Int,i<=j->j<258->rd V j=rd U j
 sum:t=cK ((qU U).take i.toNat)
theorem PX (h:U.length=258):KM U U 0 0:=⟨h,λj h1 h2=>G,λj _ _=>rfl,rfl⟩
theorem KM.step (h:KM U V i t) (hU:U.length=258) (h0:0<=i) (hi:i<258):KM U (upd V i ((rd V i+1)/2)) (i+1) (t+rd (upd V i ((rd V i+1)/2)) i):=by
 have hl:=h.len;have e:(rd V i+1)/2=rd (qU U) i:=by rw[h.left i G hi,aVn h0 G]
 refine⟨by rw[aY];exact hl,λj j0 j1=> ?_,λj j0 j1=> ?_,?_⟩
 ·rw [gV h0 j0 G];by_cases c:j=i
  ·rw[dm c,e,c]
  ·rw[df c];exact h.done j j0 G
 ·rw[gV h0 G G,df G];exact h.left j G j1
 ·rw[oP h0 (by unfold qU;rw[bu];omega),<-h.sum,fO h0 G,e]
theorem KM.done_all (h:KM U V 258 t) (hU:U.length=258):V=qU U/\t=cK (qU U):=by
 have hh:(qU U).length=258:=by unfold qU;rw[bu];exact hU
 refine⟨bI (by rw[h.len,hh]) λj j0 j1=>h.done j j0 (by have:=h.len;omega),?_⟩;rw[h.sum,bg (by rw[hh];decide)]
def shN (R:Int):Nat:=if 16777216<=R then 0 else if 65536<=R then 1 else if 256<=R then 2 else 3
theorem IA (R:Int):shN R<=3:=by unfold shN;split<;>(try split)<;>(try split)<;>omega
theorem DR {R:Int} {j:Nat} (h1:1<=R) (hj:j<=shN R) (h:R*256^j<16777216):j+1<=shN R:=by
 have:=IA R;rcases(by omega:j=0\/j=1\/j=2\/j=3) with rfl|rfl|rfl|rfl<;>unfold shN at* <;>(split<;>(try split)<;>(try split)<;>omega)
end
section
variable {R low size total o x:Int} {j:Nat} {b:AH}
theorem LM (h1:1<=R) (hj:j<=shN R) (h:16777216<=R*256^j):j=shN R:=by
 have:=IA R;rcases(by omega:j=0\/j=1\/j=2\/j=3) with rfl|rfl|rfl|rfl<;>unfold shN at* <;>(split at hj<;>(try split at hj)<;>(try split at hj)<;>split<;>(try split)<;>(try split)<;>omega)
theorem EF (h:1<=R):1<=R*256^j:=by
 have h1:(0:Int)<256^j:=Fx G;have:=Int.mul_pos (show 0<R by omega) h1;omega
theorem aOb (h:256<=R):shN R<=2:=by unfold shN;split<;>(try split)<;>(try split)<;>omega
theorem aOa (h:256<=R) (hl:R<4294967296):16777216<=R*256^shN R/\R*256^shN R<4294967296:=by
 unfold shN;split
 ·omega
 ·split
  ·omega
  ·omega
structure CdS where
 N:Int
 R:Int
 k:Nat
def cd0:CdS:=⟨0,4294967295,0⟩
def sF (s:CdS) (low size total:Int):CdS:=⟨(s.N+s.R/total*low)*256^shN (s.R/total*size),s.R/total*size*256^shN (s.R/total*size),s.k+shN (s.R/total*size)⟩
def YY (s:CdS):Prop:=16777216<=s.R/\s.R<4294967296/\0<=s.N/\s.N+s.R<=256^(s.k+4)
theorem bLi:YY cd0:=by unfold YY cd0;dsimp only;omega
def uK (low size total:Int):Prop:=0<=low/\1<=size/\low+size<=total/\total<=65536
theorem oQ (h:uK low size total) (hR:16777216<=R/\R<4294967296):
  256<=R/total/\R/total<=R/\0<=R/total*low/\R/total<=R/total*size/\R/total*low+R/total*size<=R:=by
 obtain⟨h0,h1,h2,h3⟩:=h;have hq:256<=R/total:=(Bc G).2 G;have hm:R/total*total<=R:=Int.ediv_mul_le R G;have a1:0<=R/total*low:=Ar G h0;have a2:R/total*1<=R/total*size:=Fw h1 G;have a3:R/total*(low+size)<=R/total*total:=Fw h2 G;rw[Kn] at a3;refine⟨hq,?_,a1,G,G⟩;exact Ez _ G
theorem bDo {s:CdS} (h:YY s) (hs:uK low size total):YY (sF s low size total)/\(sF s low size total).k<=s.k+2:=by
 obtain⟨r0,r1,n0,nr⟩:=h;obtain⟨f1,f2,f3,f4,f5⟩:=oQ hs ⟨r0,r1⟩;have hw:=aOa (R:=s.R/total*size) G G;have hj:=aOb (R:=s.R/total*size) G;unfold sF;generalize hq:s.R/total*size=R1 at*;generalize hl:s.R/total*low=x at*;generalize shN R1=j at*;refine⟨⟨hw.1,hw.2,Ar G (xc G),?_⟩,by dsimp only;omega⟩;show(s.N+x)*256^j+R1*256^j<=256^(s.k+j+4);rw[<-Km,show s.k+j+4=s.k+4+j by omega,Ad];exact qa G (xc G)
theorem aEc (m:Nat) (M:Int):beL (m+1) (M*256/4294967296)=beL m (M/4294967296)++[M%4294967296/16777216%256]:=by
 rw[beL,show M*256/4294967296/256=M/4294967296 by omega,show M*256/4294967296%256=M%4294967296/16777216%256 by omega]
theorem bGm (m:Nat) (M x:Int) (hx:x=M%4294967296):beL m (M/4294967296)++[x/16777216%256]++[x/65536%256]++[x/256%256]++[x/1%256]=beL (m+4) M:=by
 rw[bGl,show x/16777216%256=M%4294967296/16777216 by omega,show x/65536%256=M%16777216/65536 by omega,show x/256%256=M%65536/256 by omega,show x/1%256=M%256 by omega];simp
structure PpS where
 c0:AH
 c1:AH
 c2:AH
 cls:Int
 cd:CdS
def pp0:PpS:=⟨zX,zX,zX,0,cd0⟩
def jE (s:Int):Int:=if s<2 then 0 else if s<6 then 1 else 2
theorem bAl (s:Int):0<=jE s/\jE s<=2:=by unfold jE;split<;>(try split)<;>omega
def xI (o:Int) (s:PpS):AH:=if s.cls*o=0 then s.c0 else if s.cls*o=1 then s.c1 else s.c2
def aOc (o:Int) (s:PpS) (C:AH) (cls:Int) (cd:CdS):PpS:=if s.cls*o=0 then⟨C,s.c1,s.c2,cls,cd⟩ else if s.cls*o=1 then⟨s.c0,C,s.c2,cls,cd⟩ else⟨s.c0,s.c1,C,cls,cd⟩
def rX (c:CdS) (C:AH) (x:Int):CdS:=sF c (cK (C.take x.toNat)) (rd C x) (cK C)
def lY (o:Int) (s:PpS) (x:Int):PpS:=aOc o s (mJ (xI o s) x) (jE x) (rX s.cd (xI o s) x)
def encP (o:Int) (l:AH):PpS:=l.foldl (lY o) pp0
theorem aQy (o:Int) (l:AH) (x:Int):encP o (l++[x])=lY o (encP o l) x:=by unfold encP;rw[Il];rfl
def bQ (b:AH):AH:=dE 0 (dB bL b)++[257]
def bM (b:AH) (o:Int):AH:=beL ((encP o (bQ b)).cd.k+4) (encP o (bQ b)).cd.N
def SV (s:PpS):Prop:=(mE s.c0/\mE s.c1/\mE s.c2)/\(0<=s.cls/\s.cls<=2)/\YY s.cd
theorem bJt:SV pp0:=⟨⟨XL,XL,XL⟩,by unfold pp0;dsimp only;omega,bLi⟩
theorem LP {s:PpS} (h:SV s):mE (xI o s):=by
 unfold xI;split
 ·exact h.1.1
 ·split
  ·exact h.1.2.1
  ·exact h.1.2.2
theorem kT {C:AH} (h:mE C) (h0:0<=x) (hx:x<258):uK (cK (C.take x.toNat)) (rd C x) (cK C):=by
 obtain⟨hl,hp,ht⟩:=h;have:=uL (i:=x) hp h0 G;exact⟨G,G,G,G⟩
theorem NL {s:PpS} (h:SV s) (h0:0<=x) (hx:x<258):SV (lY o s x)/\(lY o s x).cd.k<=s.cd.k+2:=by
 have hm:=bCr (LP (o:=o) h) h0 hx;have hc:=bDo h.2.2 (kT (LP (o:=o) h) h0 hx);have hb:=bAl x;unfold lY aOc;split
 ·exact⟨⟨⟨hm,h.1.2.1,h.1.2.2⟩,hb,hc.1⟩,hc.2⟩
 ·split
  ·exact⟨⟨⟨h.1.1,hm,h.1.2.2⟩,hb,hc.1⟩,hc.2⟩
  ·exact⟨⟨⟨h.1.1,h.1.2.1,hm⟩,hb,hc.1⟩,hc.2⟩
def aJi (l:AH):Prop:= ∀x∈l,0<=x/\x<258
theorem rW (h:aO b):aJi (bQ b):=λx hx=>by
 unfold bQ at hx;rcases ek.1 hx with hx|hx
 ·have:=LD (dB bL b) 0 (pO h) x hx;omega
 ·rw[ig.1 hx];omega
theorem HZ (b:AH):(bQ b).length<=b.length+1:=by
 unfold bQ;have:=qE (dB bL b) 0;rw[iY] at this;rw[ah,ic];omega
theorem aLi {o:Int}: ∀(l:AH) (s:PpS),aJi l->SV s->SV (l.foldl (lY o) s)/\(l.foldl (lY o) s).cd.k<=s.cd.k+2*l.length
 |[],s,_,h=>⟨h,ed _⟩
 |x::l,s,hl,h=>by
  have hx:=hl x cD;have h1:=NL (o:=o) h hx.1 hx.2;have h2:=aLi (o:=o) l (lY o s x) (λy hy=>hl y (gm _ hy)) h1.1;rw[List.foldl_cons,dn];exact⟨h2.1,G⟩
theorem FO {l:AH} (h:aJi l):SV (encP o l)/\(encP o l).cd.k<=2*l.length:=by
 have:=aLi (o:=o) l pp0 h bJt;unfold encP;have e:pp0.cd.k=0:=rfl;rw[e] at this;exact⟨this.1,G⟩
theorem lU (h:aO b):(bM b o).length<=2*b.length+6:=by
 unfold bM;rw[kS];have:=(FO (o:=o) (rW h)).2;have:=HZ b;omega
theorem gQ (b:AH) (o:Int):aO (bM b o):=zV _ _
end
section
variable {v:Int}
def OM:Nat->Int->AH
 |0,v=>[v]
 |f+1,v=>if v<128 then [v] else(v%128+128)::OM f (v/128)
def aV (v:Int):AH:=OM v.toNat v
theorem LQ: ∀(f g:Nat) (v:Int),v.toNat<=f->v.toNat<=g->OM f v=OM g v
 |0,0,v,_,_=>rfl
 |0,g+1,v,h,_=>by rw[OM,OM,dm G]
 |f+1,0,v,_,h=>by rw[OM,OM,dm G]
 |f+1,g+1,v,h1,h2=>by
  simp only[OM];by_cases z:v<128
  ·rw[dm z,dm z]
  ·rw[df z,df z,LQ f g _ G G]
theorem kN (h:v<128):aV v=[v]:=by
 rw[aV,LQ v.toNat (v.toNat+1) v G G,OM,dm h]
theorem uO (h:128<=v):aV v=(v%128+128)::aV (v/128):=by
 rw[aV,LQ v.toNat (v.toNat+1) v G G,OM,df G,aV,LQ v.toNat (v/128).toNat _ G G]
theorem UI {v0:Int} {acc:AH} (h:aV v0=acc++aV v) (hv:128<=v) {d q:Int} (hd:d=v%128+128) (hq:q=v/128):aV v0=(acc++[d])++aV q:=by
 rw[h,uO hv,<-hd,<-hq,dx];rfl
theorem bU: ∀(k:Nat) (v:Int),v<128^(k+1)->(aV v).length<=k+1
 |0,v,h=>by rw[kN G];exact ed _
 | k+1,v,h=>by
  by_cases z:v<128
  ·rw[kN z];simp
  ·rw [uO G,dn]
   have:v/128<128^(k+1):=by
    rw[xe] at h;exact zy G h
   have:=bU k (v/128) this;omega
theorem OL: ∀(k:Nat) (v:Int),v.toNat<=k->0<=v->aO (aV v)
 |0,v,h,h0=>by
  rw[kN G];intro x hx;rw[ig.1 hx];omega
 | k+1,v,h,h0=>by
  by_cases z:v<128
  ·rw [kN z];intro x hx;rw[ig.1 hx];omega
  ·rw [uO G];intro x hx;rcases jd.1 hx with rfl|hx
   ·omega
   ·exact OL k (v/128) G G x hx
theorem dF (h:0<=v):aO (aV v):=OL _ v (ed _) h
def eG (v:Int):AH:=[v/1%256,v/256%256,v/65536%256,v/16777216%256]
theorem iX (v:Int):aO (eG v):=λx hx=>by
 simp only[eG,jd,vz,Ih] at hx;omega
end
section
variable {v:Int} {b:AH} {k:Nat}
def jI:AH->Int
 |[]=>0
 |d::l=>d%128+128*jI l
theorem xC: ∀l:AH,0<=jI l
 |[]=>ni _
 |d::l=>by have:=xC l;rw[jI];omega
def aEk:AH->Prop
 |[]=>False
 |d::l=>(l=[]/\0<=d/\d<128)\/(128<=d/\d<256/\aEk l/\0<jI l)
theorem WI: ∀(k:Nat) (v:Int),v.toNat<=k->0<=v->jI (aV v)=v/\aEk (aV v)
 |0,v,h,h0=>by
  rw[kN G];exact⟨by rw[jI,jI];omega, .inl ⟨rfl,G,G⟩⟩
 | k+1,v,h,h0=>by
  by_cases z:v<128
  ·rw [kN z];exact⟨by rw[jI,jI];omega, .inl ⟨rfl,G,G⟩⟩
  ·rw [uO G];obtain⟨h1,h2⟩:=WI k (v/128) G G;exact⟨by rw[jI,h1];omega, .inr ⟨G,G,h2,by rw[h1];omega⟩⟩
theorem MV (h:0<=v):jI (aV v)=v:=(WI _ v (ed _) h).1
theorem XE (h:0<=v):aEk (aV v):=(WI _ v (ed _) h).2
theorem aKn: ∀l:AH,aEk l->aV (jI l)=l
 |[],h=>h.elim
 | d::l,h=>by
  rcases h with⟨rfl,h0,h1⟩|⟨h0,h1,h2,h3⟩
  ·rw [jI,jI,kN G];congr 1;omega
  ·rw [jI,uO G];have e1:(d%128+128*jI l)%128+128=d:=G
   have e2:(d%128+128*jI l)/128=jI l:=G
   rw[e1,e2,aKn l h2]
theorem aLp: ∀l m s t:AH,aEk l->aEk m->l++s=m++t->l=m
 |[],_,_,_,h,_,_=>h.elim
 |_::_,[],_,_,_,h,_=>h.elim
 |d::l,e::m,s,t,h,g,q=>by
  rw[iy,iy] at q;obtain⟨rfl,q2⟩:=List.cons.inj q;rcases h with⟨rfl,h0,h1⟩|⟨h0,h1,h2,h3⟩<;>rcases g with⟨rfl,g0,g1⟩|⟨g0,g1,g2,g3⟩
  ·rfl
  ·omega
  ·omega
  ·rw[aLp l m s t h2 g2 q2]
def wT (b:AH) (v:Int) (k:Nat):Prop:=(0<=v/\v<18446744073709551616)/\k=(aV v).length/\ ∃t,b=aV v++t
theorem wT.one {w:Int} {m:Nat} (h:wT b v k) (g:wT b w m):v=w/\k=m:=by
 obtain⟨h1,rfl,s,hs⟩:=h;obtain⟨g1,rfl,t,ht⟩:=g;have e:=aLp _ _ s t (XE h1.1) (XE g1.1) (hs.symm.trans ht);have e2:=bq jI e;rw[MV h1.1,MV g1.1] at e2;subst e2;exact⟨rfl,rfl⟩
theorem wT.drop (h:wT b v k):b=aV v++b.drop k:=by
 obtain⟨_,rfl,t,rfl⟩:=h;rw[Hq]
theorem wT.of (h:0<=v/\v<18446744073709551616) (t:AH):wT (aV v++t) v (aV v).length:=⟨h,rfl,t,rfl⟩
def jN (b:AH):Int:=if b.findIdx (λx=>decide (x<128))<b.length then(b.findIdx (λx=>decide (x<128)):Nat) else -1
theorem bFk {i:Int} (i0:0<=i) (hi:i<b.length) (h:rd b i<128) (hn: ∀j:Int,0<=j->j<i-> ¬rd b j<128):jN b=i:=by
 have e:b.findIdx (λx=>decide (x<128))=i.toNat:=by
  rw[List.findIdx_eq G];refine⟨by rw[gB i0 hi] at h;simpa using h,λj hj=> ?_⟩;have:=hn j G G;rw[gB G G] at this;simpa using this
 unfold jN;rw[e,dm G];omega
theorem aQt (hn: ∀j:Int,0<=j->j<b.length-> ¬rd b j<128):jN b= -1:=by
 unfold jN;rw[df];intro h;have hp:=Fy (w:=h);have:=hn (b.findIdx λx=>decide (x<128):Nat) G G;rw[gB G G] at this;simp only[dh] at this;simp only[yh] at hp;exact this hp
end
section
variable {b:AH} {d V:Int} {e:Nat}
theorem aYt: ∀(e:Nat) (b:AH),aO b->e<b.length->(∀j:Nat,j<e->128<=rd b j)->rd b (e:Int)<128->(e=0\/rd b (e:Int)≠0)->aEk (b.take (e+1))/\(rd b (e:Int)≠0->0<jI (b.take (e+1)))
 |0,d::b,hb,h,_,h1,_=>by
  have hd:=hb d cD;have e0:rd (d::b) ((0:Nat):Int)=d:=rfl;rw[e0] at h1 ⊢;refine⟨.inl ⟨rfl,hd.1,h1⟩,λcg=> ?_⟩;show 0<d%128+128*jI [];rw[jI];omega
 | e+1,d::b,hb,h,hn,h1,h2=>by
  have hd:=hb d cD;have Ls:128<=d:=hn 0 G
  have er: ∀j:Nat,rd (d::b) ((j+1:Nat):Int)=rd b (j:Int):=λj=>by
   unfold rd;rw[show((j+1:Nat):Int).toNat=j+1 by omega,dh];rfl
  rw[er] at h1 h2 ⊢;have hz:rd b (e:Int)≠0:=h2.resolve_left G;have ih:=aYt e b (λx hx=>hb x (gm _ hx)) (by rw[dn] at h;omega) (λj hj=>by have:=hn (j+1) G;rwa[er] at this) h1 (.inr hz);refine⟨.inr ⟨Ls,hd.2,ih.1,ih.2 hz⟩,λ_=> ?_⟩;show 0<d%128+128*jI (b.take (e+1));have:=ih.2 hz;omega
 |0,[],_,h,_,_,_=>by simp at h
 |_+1,[],_,h,_,_,_=>by simp at h
theorem MU: ∀(e:Nat) (b:AH),aO b->e<b.length->rd b (e:Int)<128->rd b (e:Int)*128^e<=jI (b.take (e+1))/\jI (b.take (e+1))<(rd b (e:Int)+1)*128^e
 |0,d::b,hb,h,h1=>by
  have hd:=hb d cD;have e0:rd (d::b) ((0:Nat):Int)=d:=rfl;rw[e0] at h1 ⊢;show d*128^0<=d%128+128*jI []/\d%128+128*jI []<(d+1)*128^0;rw[jI,vv];omega
 | e+1,d::b,hb,h,h1=>by
  have er:rd (d::b) ((e+1:Nat):Int)=rd b (e:Int):=by
   unfold rd;rw[show((e+1:Nat):Int).toNat=e+1 by omega,dh];rfl
  rw[er] at h1 ⊢;have ih:=MU e b (λx hx=>hb x (gm _ hx)) (by rw[dn] at h;omega) h1;show rd b (e:Int)*128^(e+1)<=d%128+128*jI (b.take (e+1))/\d%128+128*jI (b.take (e+1))<(rd b (e:Int)+1)*128^(e+1);rw[xe,<-ui,<-ui];omega
 |0,[],_,h,_=>by simp at h
 |_+1,[],_,h,_=>by simp at h
theorem BS (h:0<=jN b):jN b<b.length/\rd b (jN b)<128/\ ∀j:Int,0<=j->j<jN b-> ¬rd b j<128:=by
 have br:b.findIdx (λx=>decide (x<128))<b.length:=by
  unfold jN at h;split at h
  ·assumption
  ·omega
 have e:jN b=(b.findIdx (λx=>decide (x<128)):Nat):=by unfold jN;rw[dm br]
 have hp:=Fy (w:=br);refine⟨G,?_,λj j0 hj=> ?_⟩
 ·rw [e,gB G G];simpa using hp
 ·have:=Ed (xs:=b) (p:=λx=>decide (x<128)) (i:=j.toNat) G;rw[gB j0 G];simpa using this
theorem aSh: ∀n:Fin 256,n.val<2^Lib.bitLen n.val/\(n.val≠0->2^(Lib.bitLen n.val-1)<=n.val/\1<=Lib.bitLen n.val)/\(n.val=0->Lib.bitLen n.val=0):=by decide+kernel
theorem aMn (h0:0<=d) (h1:d<256):d+1<=(2:Int)^Lib.bitLen d.toNat/\(d≠0->(2:Int)^(Lib.bitLen d.toNat-1)<=d/\1<=Lib.bitLen d.toNat)/\(d=0->Lib.bitLen d.toNat=0):=by
 obtain⟨a,b,c⟩:=aSh ⟨d.toNat,G⟩;have e: ∀k:Nat,(2:Int)^k=((2^k:Nat):Int):=λk=>by norm_cast
 refine⟨by rw[e];simp only at a;omega,λh=> ?_,λh=>c (by simp only;omega)⟩;have:=b (by simp only;omega);rw[e];simp only at this;omega
theorem bDu (e:Nat):(128:Int)^e=2^(7*e):=by
 rw[Int.pow_mul];rfl
theorem aYh (h0:0<=d) (h1:d<256) (hV:V<(d+1)*128^e) (h:7*e+Lib.bitLen d.toNat<=64):V<18446744073709551616:=by
 have hb:=(aMn h0 h1).1;have hp:(0:Int)<=128^e:=xc G;have h2:(d+1)*128^e<=2^Lib.bitLen d.toNat*128^e:=qa hb hp;rw[bDu,<-Ad] at h2
 have h3:(2:Int)^(Lib.bitLen d.toNat+7*e)<=2^64:=by
  have:(2:Nat)^(Lib.bitLen d.toNat+7*e)<=2^64:=Gg G G
  exact_mod_cast this
 rw[bDu] at hV;have:(2:Int)^64=18446744073709551616:=rfl;omega
theorem bFc (h0:0<=d) (h1:d<256) (he:e<=9) (hV:d*128^e<=V) (h:64<7*e+Lib.bitLen d.toNat):18446744073709551616<=V:=by
 obtain⟨_,hb,hz⟩:=aMn h0 h1;have hd:d≠0:=λc=>by have:=hz c;omega
 obtain⟨h2,h3⟩:=hb hd;have hp:(0:Int)<=128^e:=xc G;have h4:2^(Lib.bitLen d.toNat-1)*128^e<=d*128^e:=qa h2 hp;rw[bDu,<-Ad] at h4
 have h5:(2:Int)^64<=2^(Lib.bitLen d.toNat-1+7*e):=by
  have:(2:Nat)^64<=2^(Lib.bitLen d.toNat-1+7*e):=Gg G G
  exact_mod_cast this
 rw[bDu] at hV;have:(2:Int)^64=18446744073709551616:=rfl;omega
theorem bFb (hb:aO b) (he:jN b=(e:Int)) (h0:e=0\/rd b (e:Int)≠0) (h7:7*e+Lib.bitLen (rd b (e:Int)).toNat<=64):wT b (jI (b.take (e+1))) (e+1):=by
 obtain⟨f1,f2,f3⟩:=BS (b:=b) G;rw[he] at f1 f2 f3;have hd:=hb.rd (e:Int);have h1:=(aYt e b hb G (λj hj=>by have:=f3 j G G;omega) f2 h0).1;have h2:=MU e b hb G f2;have h3:=aKn _ h1;refine⟨⟨xC _,aYh hd.1 hd.2 h2.2 h7⟩,?_,b.drop (e+1),?_⟩
 ·rw[h3,ax];omega
 ·rw[h3,gz]
theorem aLq: ∀l t:AH,aEk l->(l++t).findIdx (λx=>decide (x<128))=l.length-1/\0<l.length/\(l.length=1\/rd (l++t) ((l.length-1:Nat):Int)≠0)
 |[],_,h=>h.elim
 | d ::l,t,h=>by
  rcases h with⟨rfl,h0,h1⟩|⟨h0,h1,h2,h3⟩
  ·refine ⟨?_,cD, .inl rfl⟩;rw[iy,List.findIdx_cons,show decide (d<128)=true from ky h1];rfl
  ·obtain ⟨i1,i2,i3⟩:=aLq l t h2;refine⟨?_,cD, .inr ?_⟩
   ·rw [iy,List.findIdx_cons,show decide (d<128)=false from nk G,i1];simp only[dn,cond_false];omega
   ·have er:rd (d::(l++t)) (((l.length-1)+1:Nat):Int)=rd (l++t) ((l.length-1:Nat):Int):=by
     unfold rd;rw[show(((l.length-1)+1:Nat):Int).toNat=(l.length-1)+1 by omega,dh];rfl
    rw[iy,dn,show l.length+1-1=(l.length-1)+1 by omega,er];rcases i3 with i3|i3
    ·intro hz
     match l,i3,h2,h3,hz with
     |[x],_,h2,h3,hz=>
      rw[jI,jI] at h3;have:x=0:=hz;omega
    ·exact i3
theorem aYg (hb:aO b) (h:jN b<0\/9<jN b\/(0<jN b/\rd b (jN b)=0)\/64<7*(jN b).toNat+Lib.bitLen (rd b (jN b)).toNat): ¬ ∃v k,wT b v k:=by
 rintro⟨v,k,⟨Xq,Xr⟩,rfl,t,ht⟩;have hE:=XE Xq;obtain⟨i1,i2,i3⟩:=aLq _ t hE;rw[<-ht] at i1 i3;have hlen:(aV v).length<=b.length:=by rw[ht,ah];omega
 have he:jN b=(((aV v).length-1:Nat):Int):=by
  unfold jN;rw[i1,dm G]
 have h10:=bU 9 v G;rw[he] at h;rcases h with h|h|⟨h,hz⟩|h
 ·omega
 ·omega
 ·rcases i3 with i3|i3
  ·omega
  ·exact i3 hz
 ·obtain ⟨f1,f2,_⟩:=BS (b:=b) G;rw[he] at f1 f2;have hd:=hb.rd (((aV v).length-1:Nat):Int);have h2:=MU ((aV v).length-1) b hb G f2
  have e1:b.take ((aV v).length-1+1)=aV v:=by
   rw[show(aV v).length-1+1=(aV v).length by omega]
   conv=>lhs;rw[ht]
   exact Ef
  rw[e1,MV Xq] at h2;rw[dh] at h;have:=bFc hd.1 hd.2 G h2.1 h;omega
theorem ZH: ∀(l:AH) (d:Int),jI (l++[d])=d%128*2^(7*l.length)+jI l
 |[],d=>by simp[jI]
 |x::l,d=>by
  rw[iy,jI,jI,ZH l d,dn,show 7*(l.length+1)=7*l.length+7 by omega,Ad,<-ui];rw[show(2:Int)^7=128 by rfl];omega
theorem CW {q:Nat} (h:q<b.length):jI (b.take (q+1))=rd b (q:Int)%128*2^(7*q)+jI (b.take q):=by
 have e:=dJ (j:=(q:Int)) (show(0:Int)<=q by omega) (show(q:Int)<b.length by omega);rw[show((q:Int)+1).toNat=q+1 by omega,dh] at e;rw[e,ZH,ax,Aa G]
theorem ZJ {b:AH}: ∀q:Nat,q<=b.length->jI (b.take q)<2^(7*q)
 |0,_=>by simp[jI]
 |q+1,h=>by
  have ih:=ZJ (b:=b) q G;rw[CW G,show 7*(q+1)=7*q+7 by omega,Ad];have hp:(0:Int)<2^(7*q):=Fx G;have h1:rd b (q:Int)%128*2^(7*q)<=127*2^(7*q):=qa G G;rw[show(2:Int)^7=128 by rfl];omega
theorem ZI {b:AH} {q:Nat}: ∀e:Nat,q<=e->e<=b.length->jI (b.take q)<=jI (b.take e)
 |0,h,_=>by rw[show q=0 by omega];exact ni _
 | e+1,h,hl=>by
  rcases gp e q with c|c
  ·rw[show q=e+1 by omega];exact ni _
  ·have ih:=ZI (b:=b) (q:=q) e c G;have hp:(0:Int)<2^(7*e):=Fx G;have h1:0<=rd b (e:Int)%128*2^(7*e):=Ar G G;rw[CW G];omega
end
theorem VO: ∀ {a b:AH},a.length=b.length->(cmpL a b<0↔ ∃d,d<a.length/\(∀e,e<d->lt a e=lt b e)/\lt a d<lt b d)
 |[],[],_=>by simp[cmpL]
 | x::a,y::b,h=>by
  have ih:=VO (a:=a) (b:=b) (by simpa using h);rw[cmpL];rcases jl x y with c|c|c
  ·rw [dm c];exact⟨λ_=>⟨0,cD,λe he=>G,c⟩,λ_=>G⟩
  ·subst c;rw[df G,df G,ih];constructor
   ·rintro ⟨d,h1,h2,h3⟩;refine⟨d+1,by simpa using h1,λe he=> ?_,h3⟩;cases e with
    |zero=>rfl
    |succ e=>exact h2 e G
   ·rintro ⟨d,h1,h2,h3⟩;cases d with
    |zero=>exact absurd h3 (by simp[lt])
    |succ d=>exact⟨d,by simpa using h1,λe he=>h2 (e+1) G,h3⟩
  ·rw [df G,dm c];refine⟨λh=>G,?_⟩;rintro⟨d,h1,h2,h3⟩;cases d with
   |zero=>have:x<y:=h3;omega
   |succ d=>have:x=y:=h2 0 G;omega
section
variable {s:AH}
def rot (s:AH) (r d:Nat):Int:=om s (r+d)
def lH (s:AH) (r:Int):AH:=s.drop r.toNat++s.take r.toNat
theorem oO (s:AH) (r:Int):(lH s r).length=s.length:=by unfold lH;rw[ah,bn,ax];omega
theorem nU {r d:Nat} (hr:r<=s.length) (hd:d<s.length):lt (lH s r) d=rot s r d:=by
 unfold lH lt rot om;rw[dh];rcases gp (r+d) s.length with g|g
 ·rw[ai,ji (by rw[bn];omega),sj,lv g,<-ai]
 ·rw[ai,jk (by rw[bn];omega),bn,qo G,show(r+d)%s.length=d-(s.length-r) by rw[zt g,lv G];omega,<-ai]
theorem WW (r:Nat):Per (rot s r) s.length:=λd=>by
 unfold rot;rw[<-nz];exact qO s _
theorem DU (r:Nat):rot s (r%s.length)=rot s r:=by
 funext d;unfold rot om;rw[Nat.mod_add_mod]
theorem aAl {r q:Nat} (hn:0<s.length) (h: ∀d,d<s.length->rot s r d=rot s q d):rot s r=rot s q:=by
 funext d;rw[<-(WW r).mod d,<-(WW q).mod d];exact h _ (yw _ hn)
theorem aUk {r q:Nat} (hr:r<=s.length) (hq:q<=s.length):cmpL (lH s r) (lH s q)<0↔Lt (rot s r) (rot s q):=by
 rw[VO (by rw[oO,oO]),oO];constructor
 ·rintro ⟨d,h1,h2,h3⟩;refine⟨d,λe he=> ?_,?_⟩
  ·rw[<-nU hr G,<-nU hq G];exact h2 e he
  ·rw[<-nU hr h1,<-nU hq h1];exact h3
 ·rintro ⟨d,h2,h3⟩;rcases gp d s.length with g|g
  ·refine ⟨d,g,λe he=> ?_,?_⟩
   ·rw[nU hr G,nU hq G];exact h2 e he
   ·rw[nU hr g,nU hq g];exact h3
  ·exfalso;rcases fo s.length with z|z
   ·have: ∀r d,rot s r d=0:=λr d=>by
     unfold rot om;rw[dw z];rfl
    rw[this,this] at h3;omega
   ·have:=aAl z λe he=>h2 e G;rw[this] at h3;omega
structure FL (s:AH) (b:Nat):Prop where
 lt:b<s.length
 le: ∀r,r<s.length-> ¬Lt (rot s r) (rot s b)
 first: ∀r,r<b->Lt (rot s b) (rot s r)
theorem FL.any {b:Nat} (h:FL s b) (r:Nat): ¬Lt (rot s r) (rot s b):=by
 rw[<-DU r];exact h.le _ (yw _ (by have:=h.lt;omega))
theorem FL.one {b c:Nat} (h:FL s b) (g:FL s c):b=c:=by
 rcases wu b c with a|a|a
 ·exact absurd (g.first b a) (h.any c)
 ·exact a
 ·exact absurd (h.first c a) (g.any b)
def jD (s:AH):Nat->Nat
 |0=>0
 |r+1=>if cmpL (lH s r) (lH s (jD s r))<0 then r else jD s r
theorem aBq: ∀n:Nat,0<n->n<=s.length->jD s n<n/\(∀r,r<n-> ¬Lt (rot s r) (rot s (jD s n)))/\ ∀r,r<jD s n->Lt (rot s (jD s n)) (rot s r)
 | 1,_,h=>by
  have e:jD s 1=0:=by
   rw[jD,jD];split<;>rfl
  rw[e];exact⟨G,λr hr=>by obtain rfl:r=0:=G;exact λh=>h.asymm h,λr hr=>G⟩
 | n +2,_,h=>by
  have ih:=aBq (n+1) G G;rw[jD];split
  ·rename_i c;rw[aUk G G] at c;refine⟨G,λr hr=> ?_,λr hr=> ?_⟩
   ·rcases gp r (n+1) with g|g
    ·exact λbr=>ih.2.1 r g (br.trans c)
    ·obtain rfl:r=n+1:=G
     exact λh=>h.asymm h
   ·rcases xZ (rot s (n+1)) (rot s r) with a|a|a
    ·exact a
    ·exact absurd (by rw[<-funext a];exact c) (ih.2.1 r hr)
    ·exact absurd (a.trans c) (ih.2.1 r hr)
  ·rename_i c;rw[aUk G G] at c;refine⟨G,λr hr=> ?_,ih.2.2⟩;rcases gp r (n+1) with g|g
   ·exact ih.2.1 r g
   ·obtain rfl:r=n+1:=G
    exact c
def oL (s:AH):Int:=jD s s.length
theorem zP (hn:0<s.length):FL s (jD s s.length):=by
 have h:=aBq (s:=s) s.length hn (ed _);exact⟨h.1,h.2.1,h.2.2⟩
theorem XM (s:AH):0<=oL s/\oL s<=s.length/\(0<s.length->oL s<s.length):=by
 unfold oL;rcases fo s.length with z|z
 ·rw[z];exact⟨G,by show((0:Nat):Int)<=_;omega,λh=>G⟩
 ·have:=(zP z).lt;omega
structure LA (s:AH) (b:Nat) (i j k:Int):Prop where
 i0:0<=i
 j0:0<=j
 k0:0<=k
 ne:i≠j
 agr: ∀e:Nat,(e:Int)<k->rot s i.toNat e=rot s j.toNat e
 hb:(b:Int)=i\/(b:Int)=j\/(i<b/\j<b)
theorem LA.init (b:Nat):LA s b 0 1 0:=⟨G,G,G,G,λe he=>G,G⟩
variable {b:Nat} {i j k:Int}
theorem LA.swap (h:LA s b i j k):LA s b j i k:=⟨h.j0,h.i0,h.k0,h.ne.symm,λe he=>(h.agr e he).symm,by have:=h.hb;omega⟩
theorem LA.eq (h:LA s b i j k) (he:rot s i.toNat k.toNat=rot s j.toNat k.toNat):LA s b i j (k+1):=
 ⟨h.i0,h.j0,by have:=h.k0;omega,h.ne,λe he'=>by
  rcases cz e k with g|g
  ·exact h.agr e g
  ·have:=h.k0;obtain rfl:e=k.toNat:=G
   exact he,h.hb⟩
theorem LA.out (h:LA s b i j k) (fl:FL s b) (yv:rot s j.toNat k.toNat<rot s i.toNat k.toNat): ¬(i<=b/\(b:Int)<=i+k):=λhc=>by
 have i0:=h.i0;have k0:=h.k0;obtain⟨t,ht⟩: ∃t:Nat,b=i.toNat+t:=⟨b-i.toNat,G⟩;refine fl.any (j.toNat+t) ⟨k.toNat-t,λe he=> ?_,?_⟩
 ·have:=h.agr (t+e) G;unfold rot at this ⊢;rw[ht,nz,nz];exact this.symm
 ·unfold rot at yv ⊢;rw[ht,nz,nz,show t+(k.toNat-t)=k.toNat by omega];exact yv
theorem LA.gt (h:LA s b i j k) (fl:FL s b) (yv:rot s j.toNat k.toNat<rot s i.toNat k.toNat):(i+(k+1)≠j->LA s b (i+(k+1)) j 0)/\(i+(k+1)=j->LA s b (i+(k+1)) (j+1) 0):=by
 have ho:=h.out fl yv;have hb:=h.hb;have i0:=h.i0;have j0:=h.j0;have k0:=h.k0;exact⟨λcg=>⟨G,j0,G,cg,λe he=>G,G⟩,λhe=>⟨G,G,G,G,λe he=>G,G⟩⟩
theorem LA.lt (h:LA s b i j k) (fl:FL s b) (br:rot s i.toNat k.toNat<rot s j.toNat k.toNat):(i≠j+(k+1)->LA s b i (j+(k+1)) 0)/\(i=j+(k+1)->LA s b i (j+(k+1)+1) 0):=by
 have ho:=h.swap.out fl br;have hb:=h.hb;have i0:=h.i0;have j0:=h.j0;have k0:=h.k0;exact⟨λcg=>⟨i0,G,G,cg,λe he=>G,G⟩,λhe=>⟨G,G,G,G,λe he=>G,G⟩⟩
theorem LA.same (h:LA s b i j k) (fl:FL s b) (hn:(s.length:Int)<=k):min i j=b:=by
 have i0:=h.i0;have j0:=h.j0;have br:=fl.lt;have he:rot s i.toNat=rot s j.toNat:=aAl G λd hd=>h.agr d G;have cg:=h.ne;have no: ∀x:Nat,x<b->rot s x≠rot s b:=λx hx e=>(fl.first x hx).not_eq λd=>by rw[e]
 rcases h.hb with e|e|⟨e1,e2⟩
 ·rcases cz j i with g|g
  ·exact absurd (by rw[show b=i.toNat by omega];exact he.symm) (no j.toNat G)
  ·omega
 ·rcases cz i j with g|g
  ·exact absurd (by rw[show b=j.toNat by omega];exact he) (no i.toNat G)
  ·omega
 ·exfalso
  have key: ∀lo hi:Nat,lo<hi->hi<b->rot s lo=rot s hi->False:=λlo hi h1 h2 e=>by
   refine no (lo+(b-hi)) G ?_;funext d;have:=congrFun e ((b-hi)+d);unfold rot at this ⊢;rw[nz,this];congr 1;omega
  rcases cz i j with g|g
  ·exact key i.toNat j.toNat G G he
  ·exact key j.toNat i.toNat G G he.symm
theorem LA.done (h:LA s b i j k) (fl:FL s b) (hc: ¬(i<s.length/\j<s.length/\k<s.length)):min i j=b:=by
 have hb:=h.hb;have br:=fl.lt;have cg:=h.ne;by_cases hk:(s.length:Int)<=k
 ·exact h.same fl hk
 ·omega
theorem aUj {i k:Int} (i0:0<=i) (k0:0<=k):rd s ((i+k)%s.length)=rot s i.toNat k.toNat:=by
 have:=PD s (i.toNat+k.toNat);rw[show((i.toNat+k.toNat:Nat):Int)=i+k by omega] at this;exact this
end
section
def Bd (u:AH) (n k:Nat):Prop:=k<n/\ ∀e,e<k->lt u e=lt u (n-k+e)
def MB (u:AH) (n:Nat) (k:Int):Prop:=0<=k/\Bd u n k.toNat/\ ∀q:Nat,Bd u n q->(q:Int)<=k
def KI (u:AH) (i:Nat) (n:Int):Prop:=0<=n/\Bd u i n.toNat/\ ∀q:Nat,Bd u i q->n<q->lt u q≠lt u i
variable {u:AH}
theorem MB.one:MB u 1 0:=⟨G,⟨G,λe he=>by simp at he⟩,λq h=>by have:=h.1;omega⟩
theorem MB.bd {n:Nat} {k:Int} (h:MB u n k):0<=k/\k<n:=⟨h.1,by have:=h.2.1.1;have:=h.1;omega⟩
theorem KI.bd {n:Nat} {k:Int} (h:KI u n k):0<=k/\k<n:=⟨h.1,by have:=h.2.1.1;have:=h.1;omega⟩
theorem KI.init {i:Nat} {n:Int} (h:MB u i n):KI u i n:=⟨h.1,h.2.1,λq hq hn=>by have:=h.2.2 q hq;omega⟩
theorem KI.step {i:Nat} {n m:Int} (h:KI u i n) (cg:lt u n.toNat≠lt u i) (hb:MB u n.toNat m):KI u i m:=by
 obtain⟨h0,⟨h1,h2⟩,h3⟩:=h;obtain⟨g0,⟨g1,g2⟩,g3⟩:=hb;refine⟨g0,⟨G,λe he=> ?_⟩,λq hq hmq=> ?_⟩
 ·rw [g2 e he,h2 (n.toNat-m.toNat+e) G];congr 1;omega
 ·rcases wu q n.toNat with a|a|a
  ·have:Bd u n.toNat q:=⟨a,λe he=>by
    rw[hq.2 e he,h2 (n.toNat-q+e) G];congr 1
    omega⟩
   have:=g3 q this;omega
  ·subst a;exact cg
  ·exact h3 q hq G
theorem KI.hit {i:Nat} {n:Int} (h:KI u i n) (he:lt u n.toNat=lt u i):MB u (i+1) (n+1):=by
 obtain⟨h0,⟨h1,h2⟩,h3⟩:=h;refine⟨G,⟨G,λe hE=> ?_⟩,λq hq=> ?_⟩
 ·rcases gp e n.toNat with a|a
  ·rw[h2 e a];congr 1;omega
  ·obtain rfl:e=n.toNat:=G
   rw[he];congr 1;omega
 ·rcases q with _|q
  ·omega
  ·have hb:Bd u i q:=⟨by have:=hq.1;omega,λe hE=>by rw[hq.2 e G];congr 1;omega⟩;have hl:=hq.2 q G;have:=hq.1;rw[show i+1-(q+1)+q=i by omega] at hl;rcases cz n q with a|a
   ·exact absurd hl (h3 q hb a)
   ·omega
theorem KI.miss {i:Nat} {n:Int} (h:KI u i n) (hn:n<=0) (he:lt u n.toNat≠lt u i):MB u (i+1) n:=by
 obtain⟨h0,⟨h1,h2⟩,h3⟩:=h;obtain rfl:n=0:=G
 refine⟨G,⟨G,λe hE=>by simp at hE⟩,λq hq=> ?_⟩;rcases q with _|q
 ·omega
 ·have hb:Bd u i q:=⟨by have:=hq.1;omega,λe hE=>by rw[hq.2 e G];congr 1;omega⟩;have hl:=hq.2 q G;have:=hq.1;rw[show i+1-(q+1)+q=i by omega] at hl;rcases fo q with a|a
  ·subst a;exact absurd hl he
  ·exact absurd hl (h3 q hb G)
theorem aMp {n k:Nat} (hn:n=u.length) (hk:k<n):Bd u n k↔RP u (n-k):=by
 subst hn;rw[OV];constructor
 ·intro h i hi;have:=h.2 i G;unfold lt at this;rw[this];congr 1;omega
 ·intro h;refine⟨hk,λe he=> ?_⟩;have:=h e G;unfold lt;rw[<-this];congr 1;omega
theorem MB.least {k:Int} (hn:0<u.length) (h:MB u u.length k):(u.length:Int)-k=lp u:=by
 obtain⟨r,e,r1,r2,hp,Sc⟩:=LX hn;obtain⟨k0,hb,wk⟩:=h;have xa:=hb.1;have h1:=wk (u.length-r) ((aMp rfl G).2 (by rw[show u.length-(u.length-r)=r by omega];exact hp));have h2:=(aMp rfl hb.1).1 hb;rcases gp (u.length-k.toNat) r with a|a
 ·exact absurd h2 (Sc _ G a)
 ·omega
theorem lW: ∀a b:AH,cmpL b a= -cmpL a b
 |[],[]=>rfl
 |[],_::_=>rfl
 |_::_,[]=>rfl
 |x::a,y::b=>by
  rw[cmpL,cmpL,lW a b];split<;>split<;>omega
theorem cmpL_eq: ∀a b:AH,cmpL a b=0↔a=b
 |[],[]=>by simp[cmpL]
 |[],_::_=>by simp[cmpL]
 |_::_,[]=>by simp[cmpL]
 | x::a,y::b=>by
  have ih:=cmpL_eq a b;rw[cmpL];split
  ·simp;omega
  ·split
   ·simp;omega
   ·rw[ih];simp;omega
theorem MF: ∀a b c:AH,cmpL a b<=0->cmpL b c<=0->cmpL a c<=0
 |[],[],_,_,h=>h
 |[],_::_,[],_,h=>by simp[cmpL] at h
 |[],_::_,_::_,_,_=>by simp[cmpL]
 |_::_,[],_,h,_=>by simp[cmpL] at h
 |_::_,_::_,[],_,h=>by simp[cmpL] at h
 | x ::a,y::b,z::c,h1,h2=>by
  have ih:=MF a b c;rw[cmpL] at h1 h2 ⊢;split at h1
  ·split at h2
   ·rw[dm G];omega
   ·split at h2
    ·omega
    ·rw[dm G];omega
  ·split at h1
   ·omega
   ·split at h2
    ·rw[dm G];omega
    ·split at h2
     ·omega
     ·rw[df G,df G];exact ih h1 h2
abbrev RT:=AH × Int
def kU (a b:RT):Int:=if cmpL a.1 b.1≠0 then cmpL a.1 b.1 else iW a.2 b.2
theorem rM (a b:RT):kU b a= -kU a b:=by
 unfold kU;rw[lW a.1 b.1,aRr a.2 b.2];split<;>split<;>omega
theorem XQ (a b:RT):kU a b=0↔a=b:=by
 unfold kU;have h1:=cmpL_eq a.1 b.1;have h2:= @kX a.2 b.2;rw[Prod.ext_iff];split
 ·rename_i c;constructor
  ·intro h;exact absurd h c
  ·intro h;exact absurd (h1.2 h.1) c
 ·rename_i c;rw[h2];constructor
  ·intro h;exact⟨h1.1 G,h⟩
  ·intro h;exact h.2
theorem bFz {a b:Int}:iW a b<=0↔a<=b:=by unfold iW;split<;>(try split)<;>omega
theorem yC {a b:RT}:kU a b<=0↔cmpL a.1 b.1<0\/a.1=b.1/\a.2<=b.2:=by
 unfold kU;have h1:=cmpL_eq a.1 b.1;have h2:= @bFz a.2 b.2;split
 ·rename_i c;constructor
  ·intro h;left;omega
  ·rintro (h|h)
   ·omega
   ·exact absurd (h1.2 h.1) c
 ·rename_i c;rw[h2];constructor
  ·intro h;exact .inr ⟨h1.1 G,h⟩
  ·rintro (h|h)
   ·omega
   ·exact h.2
theorem LY (a b c:RT) (h1:kU a b<=0) (h2:kU b c<=0):kU a c<=0:=by
 rw[yC] at h1 h2 ⊢;have h:=MF a.1 b.1 c.1;have e1:=cmpL_eq a.1 b.1;have e2:=cmpL_eq b.1 c.1;have e3:=cmpL_eq a.1 c.1;rcases h1 with h1|h1
 ·rcases h2 with h2|h2
  ·have a1:=h G G;rcases Be a1 with g|g
   ·exact .inl g
   ·have e:=e3.1 g;rw[e,lW b.1 c.1] at h1;omega
  ·exact .inl (by rw[<-h2.1];exact h1)
 ·rcases h2 with h2|h2
  ·exact .inl (by rw[h1.1];exact h2)
  ·exact .inr ⟨h1.1.trans h2.1,G⟩
theorem KU {l m:List RT} (hp:l.Perm m) (hl:l.Pairwise λa b=>kU a b<=0) (hm:m.Pairwise λa b=>kU a b<=0):l=m:=
 hp.eq_of_pairwise (λa b _ _ h1 h2=>(XQ a b).1 (by rw[rM a b] at h2;omega)) hl hm
def lw (u:AH):AH:=lH u (oL u)
def jX (c:AH):AH:=c.take (rl c).toNat
def gM (c:AH):Int:=(c.length:Int)/rl c
def mG (u:AH):RT:=(jX (lw u),gM (lw u))
def dL (ws:AD):List RT:=(ws.filter λw=>decide (0<w.length)).map mG
def fV (ws:AD):List RT:=(dL ws).mergeSort λa b=>decide (kU a b<=0)
def GX (r:RT):AH:=rep r.1 r.2
def canon (ws:AD):AD:=(fV ws).map GX
theorem jB (ws:AD):(fV ws).Perm (dL ws):=List.mergeSort_perm _ _
theorem qX (ws:AD):(fV ws).Pairwise λa b=>kU a b<=0:=by
 have:=List.pairwise_mergeSort (le:=λa b:RT=>decide (kU a b<=0)) (λa b c h1 h2=>ky (LY a b c (zh h1) (zh h2))) (λa b=>by
  rw[Bh,yh,yh,rM a b];omega) (dL ws)
 exact this.imp λh=>zh h
theorem IE {ws:AD} {l:List RT} (hp:l.Perm (dL ws)) (hs:l.Pairwise λa b=>kU a b<=0):l=fV ws:=KU (hp.trans (jB ws).symm) hs (qX ws)
theorem aAp {ws xs:AD} (hp:(dL ws).Perm (dL xs)):fV ws=fV xs:=IE ((jB ws).trans hp) (qX ws)
theorem kQ (u:AH):(lw u).length=u.length:=oO u _
theorem bKj:lw []=[]:=rfl
theorem aUi {r:Nat} (hr:r<=u.length) (hn:0<u.length):om (lH u r)=rot u r:=by
 have h1:=qO (lH u r);rw[oO] at h1;funext d;rw[<-h1.mod d,<-(WW (s:=u) r).mod d];have hd:=yw d hn;have:=nU hr hd;rw[qH (by rw[oO];exact hd)];rw[show((r:Nat):Int)=(r:Int) from rfl] at*;exact this
theorem WV {r q:Nat} (hr:r<=u.length) (hn:0<u.length):rot (lH u r) q=rot u (r+q):=by
 funext d;show om (lH u r) (q+d)=om u (r+q+d);rw[aUi hr hn];show om u (r+(q+d))=_;rw[nz]
theorem bEt (u:AH):oL (lw u)=0:=by
 rcases fo u.length with z|z
 ·rw[dw z];rfl
 ·have hl:=kQ u;have fl:=zP z;have hb:jD u u.length<=u.length:=by have:=fl.lt;omega
  have e:lw u=lH u (jD u u.length:Nat):=rfl
  have f2:FL (lw u) 0:=⟨G,λr hr=>by
   rw[e,WV hb z,WV hb z]
   exact fl.any _,λr hr=>G⟩
  have f3:=zP (s:=lw u) G;have:=f3.one f2;unfold oL;omega
theorem bKb {a b:AH} (hl:a.length=b.length) (h:om a=om b):a=b:=by
 refine bI hl λj h0 h1=> ?_;have:=congrFun h j.toNat;rw[qH G,qH G] at this;exact this
theorem bJj {c:AH} (h:0<c.length):(c.length:Int)%rl c=0:=by
 obtain⟨r,e,r1,r2,_,_⟩:=LX h;unfold rl;split
 ·exact Int.emod_self
 ·omega
theorem DV {c:AH} (h:0<c.length):((jX c).length:Int)=rl c:=by
 have:=nZ h;unfold jX;rw[ax];omega
theorem TL {c:AH} (h:0<c.length):gM c*rl c=c.length:=Int.ediv_mul_cancel (Int.dvd_of_emod_eq_zero (bJj h))
theorem rE {c:AH} (h:0<c.length):0<gM c:=by
 have h1:=TL h;have h2:=nZ h;rcases cz 0 (gM c) with a|a
 ·exact a
 ·have:=Int.mul_nonneg_of_nonpos_of_nonpos a (show -(rl c)<=0 by omega);rw[Int.mul_neg] at this;omega
theorem bDb {c:AH} (h:0<c.length):om (jX c)=om c:=by
 obtain⟨r,e,r1,r2,ho,_⟩:=WY h;funext i;rw[ho i];unfold jX;rw[e];rfl
theorem tJ {c:AH} (h:0<c.length):rep (jX c) (gM c)=c:=by
 have hr:=DV h;have hp:=nZ h;have ht:=rE h
 have hl:(rep (jX c) (gM c)).length=c.length:=by
  rw[oV];have h1:=TL h
  have:((gM c).toNat*(jX c).length:Int)=c.length:=by
   rw[mg G,hr,h1]
  exact_mod_cast this
 refine bKb hl ?_;rw[show gM c=((gM c).toNat:Int) by omega];funext i;rw[aWn G G,bDb h]
theorem GV {w:AH} (h:0<w.length):GX (mG w)=lw w:=tJ (by rw[kQ];exact h)
theorem aPd {ws:AD} {r:RT} (h:r∈dL ws): ∃w∈ws,0<w.length/\r=mG w:=by
 unfold dL at h;obtain⟨w,hw,e⟩:=ii.1 h;obtain⟨h1,h2⟩:=ow.1 hw;exact⟨w,h1,zh h2,e.symm⟩
theorem rH {ws:AD} {r:RT} (h:r∈fV ws): ∃w∈ws,0<w.length/\r=mG w:=aPd ((jB ws).subset h)
theorem UO {ws:AD} {c:AH} (h:c∈canon ws): ∃w∈ws,0<w.length/\c=lw w:=by
 obtain⟨r,hr,rfl⟩:=ii.1 h;obtain⟨w,h1,h2,rfl⟩:=rH hr;exact⟨w,h1,h2,GV h2⟩
theorem lI (a b:AD):dL (a++b)=dL a++dL b:=by unfold dL;rw[uk,jc]
theorem VQ (ws:AD):(canon ws).length=(dL ws).length:=by
 unfold canon;rw[bu,(jB ws).length_eq]
end
section
variable {p:AH}
def iN (p:AH):Nat->List Bool->Int->AH × List Bool
 |0,E,_=>([],E)
 |f+1,E,k=>if rdb E k=true then([],E) else(k::(iN p f (qW E k true) (rd p k)).1,(iN p f (qW E k true) (rd p k)).2)
def cntF (E:List Bool):Nat:=E.countP λb=> !b
theorem bAg (n:Nat):cntF (List.replicate n false)=n:=by unfold cntF;rw[List.countP_replicate];simp
theorem FV {E:List Bool} {k:Int} (k0:0<=k) (hk:k<E.length) (h:rdb E k≠true):cntF (qW E k true)+1=cntF E:=by
 have br:k.toNat<E.length:=G
 have e:E[k.toNat]=false:=by
  have h2:rdb E k=E[k.toNat]:=by unfold rdb;rw[ai,av br];rfl
  rw[h2] at h;simpa using h
 unfold cntF qW;rw[List.countP_set br,e];simp only[Ff,Bool.not_false,xh,yj,Kh,rq];have:0<E.countP λb=> !b:=List.countP_pos_iff.2 ⟨E[k.toNat],lu br,by rw[e];rfl⟩;omega
theorem vJ {f:Nat} {E:List Bool} {k:Int} (h:rdb E k=true):iN p f E k=([],E):=by
 cases f with
 |zero=>rfl
 |succ f=>rw[iN,dm h]
theorem QO {E:List Bool} {k:Int} (k0:0<=k) (hk:k<E.length) (h:rdb E k≠true):0<cntF E:=by have:=FV k0 hk h;omega
theorem MR {f:Nat} {E:List Bool} {k:Int} (k0:0<=k) (hk:k<E.length) (hf:cntF E<=f) (h:rdb E k≠true):iN p f E k=(k::(iN p (f-1) (qW E k true) (rd p k)).1,(iN p (f-1) (qW E k true) (rd p k)).2):=by
 have:=QO k0 hk h;obtain⟨g,rfl⟩: ∃g,f=g+1:=⟨f-1,G⟩;rw[iN,df h];rfl
def jW (p:AH):Nat->List Bool × AD
 |0=>(List.replicate p.length false,[])
 |i+1=>((iN p p.length (jW p i).1 i).2,if (iN p p.length (jW p i).1 i).1=[] then(jW p i).2 else(jW p i).2++[(iN p p.length (jW p i).1 i).1])
def dA (p:AH):AD:=(jW p p.length).2
theorem tF (hp:p.Perm (iota p.length)): ∀(f:Nat) (E:List Bool) (k:Int),E.length=p.length->0<=k->k<p.length->(iN p f E k).2.length=p.length/\(∀x∈(iN p f E k).1,0<=x/\x<p.length)/\(iN p f E k).1.length+cntF (iN p f E k).2=cntF E
 |0,E,k,hl,_,_=>And.intro hl (And.intro (λx hx=>absurd hx (vz (a:=x))) (ny _))
 | f+1,E,k,hl,k0,hk=>by
  rw[iN];split
  ·exact And.intro hl (And.intro (λx hx=>absurd hx (vz (a:=x))) (ny _))
  ·rename_i h;have hn:=aZ.1 (hp.subset (bG (L:=p) k0 hk));have ih:=tF hp f (qW E k true) (rd p k) (by rw[mI];exact hl) hn.1 hn.2;have hc:=FV k0 G h;refine⟨ih.1,λx hx=> ?_,?_⟩
   ·rcases jd.1 hx with rfl|hx
    ·exact⟨k0,hk⟩
    ·exact ih.2.1 x hx
   ·have:=ih.2.2;simp only[dn];omega
theorem mZ (hp:p.Perm (iota p.length)): ∀i:Nat,i<=p.length->(jW p i).1.length=p.length/\(∀c∈(jW p i).2,∀x∈c,0<=x/\x<p.length)/\(jW p i).2.flatten.length+cntF (jW p i).1=p.length
 |0,_=>⟨by simp[jW],λc hc=>(by cases hc),by simp[jW,bAg]⟩
 | i +1,hi=>by
  have ih:=mZ hp i G;have hw:=tF hp p.length (jW p i).1 i ih.1 G G;rw[jW];refine⟨hw.1,?_,?_⟩
  ·intro c hc x hx;split at hc
   ·exact ih.2.1 c hc x hx
   ·rcases ek.1 hc with hc|hc
    ·exact ih.2.1 c hc x hx
    ·obtain rfl:=ig.1 hc;exact hw.2.1 x hx
  ·split
   ·rename_i h;have h2:=hw.2.2;rw[h] at h2;have:=ih.2.2;simp only[il] at h2;show(jW p i).2.flatten.length+cntF (iN p p.length (jW p i).1 i).2=p.length;omega
   ·rw [mh,ah];have h2:=hw.2.2;have:=ih.2.2;simp only[oq,Js,iw];omega
theorem YD (hp:p.Perm (iota p.length)): ∀c∈dA p,∀x∈c,0<=x/\x<p.length:=(mZ hp p.length (ed _)).2.1
theorem QJ (hp:p.Perm (iota p.length)):(dA p).flatten.length<=p.length:=by have:=(mZ hp p.length (ed _)).2.2;unfold dA;omega
theorem QK (p:AH): ∀i:Nat,(jW p i).2.length<=i
 |0=>by simp[jW]
 |i+1=>by
  have:=QK p i;rw[jW];split
  ·exact Nat.le_succ_of_le this
  ·rw[ah];simp only[ic];omega
theorem bFu {i:Int} {E E2:List Bool} {ls:AD} {acc:AH} (i0:0<=i) (Fd:jW p i.toNat=(E,ls)) (Ts:iN p p.length E i=(acc,E2)) (cg:acc≠[]):jW p (i+1).toNat=(E2,ls++[acc]):=by
 rw[show(i+1).toNat=i.toNat+1 by omega,jW,Fd];simp only[show((i.toNat:Nat):Int)=i by omega,Ts,df cg]
theorem bLf {i:Int} {E E2:List Bool} {ls:AD} {acc:AH} (i0:0<=i) (Fd:jW p i.toNat=(E,ls)) (Ts:iN p p.length E i=(acc,E2)) (cg:acc=[]):jW p (i+1).toNat=(E2,ls):=by
 rw[show(i+1).toNat=i.toNat+1 by omega,jW,Fd];simp only[show((i.toNat:Nat):Int)=i by omega,Ts,dm cg]
theorem aEs (hp:p.Perm (iota p.length)) {f:Nat} {E E2:List Bool} {acc:AH} {i k:Int} (hl:E.length=p.length) (i0:0<=i) (hi:i<p.length) (hw:(acc++(iN p f E2 k).1,(iN p f E2 k).2)=iN p p.length E i):acc.length<=p.length:=by
 have h:=(tF hp p.length E i hl i0 hi).2.2;rw[<-hw] at h;simp only[ah] at h;have:cntF E<=E.length:=List.countP_le_length;omega
def eB (l c:AH):AH:=c.reverse.map (rd l)
def backL (l:AH) (cs:AD):AH:=(cs.reverse.map (eB l)).flatten
theorem aJb {l:AH} {cs:AD} {k:Nat} (hk:k<cs.length):(((cs.reverse).take (k+1)).map (eB l)).flatten=(((cs.reverse).take k).map (eB l)).flatten++eB l (rdl cs (cs.length-1-k)):=by
 have br:k<cs.reverse.length:=by rw[mo];exact hk
 rw[qy,av br,jc,mh];congr 1;simp only[Bf,jm,rz,oq,Js,iw];congr 1;rw[Fz];unfold rdl;rw[ai,av G];simp only[qd];congr 1;omega
theorem aEq {l c:AH} {k:Nat} (hk:k<c.length):((c.reverse).take (k+1)).map (rd l)=((c.reverse).take k).map (rd l)++[rd l (rd c (c.length-1-k))]:=by
 have br:k<c.reverse.length:=by rw[mo];exact hk
 rw[qy,av br,jc];congr 1;simp only[Bf,jm,rz];congr 2;rw[Fz,gB G G];congr 1;omega
theorem lQ (l c:AH):(eB l c).length=c.length:=by simp[eB]
theorem aCg {cs:AD}: ∀ {k:Nat} {l:AH},(((cs.reverse).take k).map (eB l)).flatten.length<=cs.flatten.length:=by
 intro k l
 have h1:(((cs.reverse).take k).map (eB l)).flatten.length=(((cs.reverse).take k).map List.length).sum:=by
  rw[qj,ql];congr 2;funext c;exact lQ l c
 have h2:cs.flatten.length=((cs.reverse).map List.length).sum:=by rw[qj,Fa,List.sum_reverse]
 rw[h1,h2]
 conv=>rhs;rw[<-gz k cs.reverse]
 rw[jc,Db];omega
end
section
variable {u m V:AH} {i:Int}
end
theorem aKj {l:AE} {f:Int × Int->Int} {i:Int} (h0:0<=i) (h:i<l.length):rd (l.map f) i=f (rdp l i):=by
 unfold rd rdp;rw[ai,ai,lq,av G];rfl
section
variable {p:AH}
theorem xB {j:Int} (j0:0<=j): ∀(f:Nat) (E:List Bool) (k:Int),(hp:p.Perm (iota p.length))->E.length=p.length->0<=k->k<p.length->rdb E j=true->rdb (iN p f E k).2 j=true
 |0,E,k,_,_,_,_,h=>h
 | f+1,E,k,hp,hl,k0,hk,h=>by
  rw[iN];split
  ·exact h
  ·have hn:=aZ.1 (hp.subset (bG (L:=p) k0 hk));refine xB j0 f _ _ hp (by rw[mI];exact hl) hn.1 hn.2 ?_;rw[zH k0 G j0];split
   ·rfl
   ·exact h
theorem ZG (hp:p.Perm (iota p.length)) {f:Nat} {E:List Bool} {k:Int} (hl:E.length=p.length) (k0:0<=k) (hk:k<p.length) (hf:cntF E<=f):rdb (iN p f E k).2 k=true:=by
 by_cases h:rdb E k=true
 ·rw[vJ h];exact h
 ·rw [MR k0 G hf h];have hn:=aZ.1 (hp.subset (bG (L:=p) k0 hk));exact xB k0 _ _ _ hp (by rw[mI];exact hl) hn.1 hn.2 (by rw[zH k0 G k0,dm rfl])
theorem JF (hp:p.Perm (iota p.length)): ∀i:Nat,i<=p.length-> ∀j:Nat,j<i->rdb (jW p i).1 j=true
 |0,_,j,hj=>G
 | i+1,hi,j,hj=>by
  have hf:=mZ hp i G;have hc:cntF (jW p i).1<=p.length:=by have:=hf.2.2;omega
  rw[jW];rcases gp j i with g|g
  ·exact xB G _ _ _ hp hf.1 G G (JF hp i G j g)
  ·obtain rfl:j=i:=G
   exact ZG hp hf.1 G G hc
theorem aRq {E:List Bool} (h: ∀j:Nat,j<E.length->rdb E j=true):cntF E=0:=by
 unfold cntF;rw[Cm];intro b hb;obtain⟨j,hj,rfl⟩:=ib.1 hb;have:=h j hj;have e:rdb E (j:Int)=E[j]:=by unfold rdb;rw[dh,ai,av hj];rfl
 rw[e] at this;rw[this];simp
theorem aDc (hp:p.Perm (iota p.length)):(dA p).flatten.length=p.length:=by
 have hf:=mZ hp p.length (ed _);have:=aRq (E:=(jW p p.length).1) λj hj=>JF hp p.length (ed _) j (by rw[hf.1] at hj;exact hj);unfold dA;omega
theorem aSk (l:AH) (cs:AD):(backL l cs).length=cs.flatten.length:=by
 unfold backL;rw[qj,ql,qj,Fa,List.sum_reverse];congr 2;funext c;exact lQ l c
theorem aPe {l:AH} {cs:AD} {x:Int} (h:x∈backL l cs): ∃y,y∈cs.flatten/\x=rd l y:=by
 unfold backL at h;obtain⟨w,hw,hx⟩:=uf.1 h;obtain⟨c,hc,rfl⟩:=ii.1 hw;unfold eB at hx;obtain⟨y,hy,rfl⟩:=ii.1 hx;exact⟨y,uf.2 ⟨c,yu.1 hc,yu.1 hy⟩,rfl⟩
theorem aSl {l:AH} (hl:aO l) (cs:AD):aO (backL l cs):=λx hx=>by
 obtain⟨y,_,rfl⟩:=aPe hx;exact hl.rd _
theorem aMb {cs:AD} {k:Int} (k0:0<=k) (hk:k<cs.length):rdl cs k∈cs:=by
 unfold rdl;rw[ai,av G];exact lu _
theorem aJa {l acc rp:AH} {cs:AD} {m kr:Nat} (hm:m=cs.length) (Mb:kr<m) (bb:acc=(((cs.reverse).take kr).map (eB l)).flatten) (h2:rp=acc++(((rdl cs ((m-1-kr:Nat):Int)).reverse).take (rdl cs ((m-1-kr:Nat):Int)).length).map (rd l)):rp=(((cs.reverse).take (kr+1)).map (eB l)).flatten:=by
 rw[aJb G,h2,bb,bg (l:=(rdl cs ((m-1-kr:Nat):Int)).reverse) (by rw[mo];exact ed _),show((m-1-kr:Nat):Int)=(cs.length:Int)-1-kr by omega];rfl
theorem MN {l acc rp c:AH} {kq:Nat} (hk:kq<c.length) (h:rp=acc++((c.reverse).take kq).map (rd l)):rp++[rd l (rd c ((c.length-1-kq:Nat):Int))]=acc++((c.reverse).take (kq+1)).map (rd l):=by
 rw[aEq hk,<-dx,<-h,show((c.length-1-kq:Nat):Int)=(c.length:Int)-1-kq by omega]
theorem JE {p:AH}:(dA p).length<=p.length:=QK p p.length
end
section
variable {k i b d s r x:Int} {t l:AH} {B:Nat} {w0:World} {R:List Row} {vals:AG} {ls:AD}
def VJ (x:BitVec 32):BitVec 32:=if x &&& 1#32=1#32 then(x>>>1)^^^3988292384#32 else x>>>1
def JG:Nat->BitVec 32->BitVec 32
 |0,x=>x
 |k+1,x=>JG k (VJ x)
def SQ (x:BitVec 32):BitVec 32:=JG 8 x
theorem zS {x:BitVec 32} (h:k<8):JG (8-k).toNat x=JG (8-(k+1)).toNat (VJ x):=by
 have e:(8-k).toNat=(8-(k+1)).toNat+1:=G
 rw[e];rfl
def aDv (x:BitVec 32) (b:Int):BitVec 32:=(x &&& 255#32)^^^BitVec.ofInt 32 b
def bQn (x:BitVec 32) (b:Int):BitVec 32:=(x>>>8)^^^SQ (aDv x b)
def FZ (x:BitVec 32) (l:AH):BitVec 32:=l.foldl bQn x
def fT (l:AH):BitVec 32:=FZ 4294967295#32 l^^^4294967295#32
def uH:AH:=(List.range 256).map λi=>bv (SQ (BitVec.ofNat 32 i))
theorem yP:uH.length=256:=by unfold uH;rw[bu,yc]
theorem aMc {i:Nat} (h:i<256):uH[i]? =some (bv (SQ (BitVec.ofNat 32 i))):=by
 unfold uH;rw[lq,zi h];rfl
theorem UL (i:Nat):BitVec.ofInt 32 (i:Int)=BitVec.ofNat 32 i:=rfl
theorem aDu {x:BitVec 32} (hb:0<=b/\b<256):(aDv x b).toNat=(x.toNat%256)^^^b.toNat:=by
 obtain⟨b,rfl⟩: ∃m:Nat,b=m:=⟨b.toNat,G⟩;unfold aDv;have e1:(255#32).toNat=2^8-1:=rfl;have e2:(BitVec.ofInt 32 (b:Int)).toNat=b:=by rw[UL,BitVec.toNat_ofNat];omega
 rw[BitVec.toNat_xor,BitVec.toNat_and,e1,e2,Fb,dh]
theorem MG {x:BitVec 32} (hb:0<=b/\b<256):0<=bv (aDv x b)/\bv (aDv x b)<256:=by
 have h:(aDv x b).toNat<2^8:=by
  rw[aDu hb];exact Nat.xor_lt_two_pow (by have:=yw x.toNat (show 0<256 by omega);omega) G
 unfold bv;omega
theorem bIm {x:BitVec 32} (hb:0<=b/\b<256):((BitVec.ofInt 8 (IntKind.u8.wrap (bv x))^^^BitVec.ofInt 8 b).toNat:Int)=bv (aDv x b):=by
 have h:=aDu (x:=x) hb;unfold bv;rw[h,BitVec.toNat_xor,zq,zq,Cz];have e1:(((x.toNat:Int)%256)%((2^8:Nat):Int)).toNat=x.toNat%256:=G
 have e2:(b%((2^8:Nat):Int)).toNat=b.toNat:=G
 rw[e1,e2]
def wI (d s r:Int) (t:AH):AG:=[.int .u32 d, .int .i32 s, .int .u32 0, .int .i32 r]++ints .u32 t
def dR (T g:Nat) (d s r:Int) (t:AH):Row:=⟨T,260,some ⟨g,0,none⟩,1,1,wI d s r t,false⟩
theorem JH (d s r:Int) (t:AH):(wI d s r t).length=4+t.length:=by
 unfold wI;rw[ah,bY];rfl
theorem bAd {i:Nat} (h:t[i]? =some x):(wI d s r t)[4+i]? =some (.int .u32 x):=by
 unfold wI;rw[jk cD];simp[ints,h]
theorem aRn {i:Nat}:(wI d s r t).set (4+i) (.int .u32 x)=wI d s r (t.set i x):=by
 unfold wI ints;rw[Ex _ _ cD,List.map_set];simp
theorem aRm (ht:t.length=256) (h0:0<=k) (h1:k<256):(uH.take k.toNat++t.drop k.toNat).set k.toNat (bv (SQ (BitVec.ofInt 32 k)))=uH.take (k+1).toNat++t.drop (k+1).toNat:=by
 obtain⟨k,rfl⟩: ∃m:Nat,k=m:=⟨k.toNat,G⟩;have e:((k:Int)+1).toNat=k+1:=G
 rw[e,dh,UL];have hk:k<uH.length:=by rw[yP];omega
 have hl:(uH.take k).length=k:=by rw[ax];omega
 rw[Ex _ _ G,hl,Eh,mf (by omega:k<t.length),Ht,qy,aMc G];simp
theorem bFv {x:BitVec 32} (h:bv x<256):uH[(bv x).toNat]? =some (bv (SQ x)):=by
 have e:(bv x).toNat=x.toNat:=by unfold bv;rw[dh]
 rw[e,aMc (by unfold bv at h;omega),BitVec.ofNat_toNat,BitVec.setWidth_eq]
def yU (B:Nat) (w0:World) (R:List Row) (vals:AG) (ls:AD):Prop:=vals.length=ls.length/\ ∀(j:Nat) (v:Value),vals[j]? =some v-> ∃(A:AF) (c:Nat) (l:AH),v=Value.slice A l.length c/\ls[j]? =some l/\RdC B w0 R A l.length c 1 (ints .u8 l)/\aO l
theorem yU.at (h:yU B w0 R vals ls) (h0:0<=i) (h1:i<vals.length): ∃(A:AF) (c:Nat) (l:AH),vals[i.toNat]? =some (Value.slice A l.length c)/\ls[i.toNat]? =some l/\RdC B w0 R A l.length c 1 (ints .u8 l)/\aO l:=by
 have br:i.toNat<vals.length:=G
 obtain⟨A,c,l,e,h2,h3,h4⟩:=h.2 i.toNat _ (av br);exact⟨A,c,l,by rw[av br,e],h2,h3,h4⟩
theorem yU.one {A:AF} {c n:Nat} (h:RdC B w0 R A n c 1 (ints .u8 l)) (hb:aO l) (hn:n=l.length):yU B w0 R [.slice A n c] [l]:=by
 subst hn
 exact⟨rfl,λj v hv=>by
  cases j with
  |zero=>exact⟨A,c,l,by simpa using hv.symm,rfl,h,hb⟩
  |succ j=>simp at hv⟩
theorem yU.of {w:World} (h:SlW .u8 w vals ls):yU w.heap.size w R vals ls:=
 ⟨h.1,λj v hv=>by
  have br:j<ls.length:=by rw[<-h.1];exact(fw.1 hv).1
  obtain⟨A,c,h1,h2,h3,_⟩:=h.2 j br;rw[h1] at hv;have e:ls.getD j []=ls[j]:=by simp[ai,av br]
  rw[e] at hv h2 h3
  exact⟨A,c,ls[j],(jg hv).symm,av br,h2.c R,byteL_wf h3⟩⟩
def Big (ls:AD):Prop:=ls.length<=1000000/\ ∀(j:Nat) (l:AH),ls[j]? =some l->l.length<=1000000
theorem Big.one (h:l.length<=1000000):Big [l]:=⟨cD,λj q hq=>by
 cases j with
 |zero=>simp at hq;subst hq;exact h
 |succ j=>simp at hq⟩
theorem Big.nil:Big []:=⟨cD,λj q hq=>by simp at hq⟩
theorem Big.snoc {q:AH} (h:Big ls) (h1:ls.length<1000000) (h2:q.length<=1000000):Big (ls++[q]):=⟨cH,λj r hr=>by
 rw[List.getElem?_append] at hr;split at hr
 ·exact h.2 j r hr
 ·rename_i hj
  have hz:j-ls.length=0:=by
   rcases fo (j-ls.length) with e|e
   ·exact e
   ·rw[ng cH] at hr;cases hr
  rw[hz] at hr;simp at hr
  rw[<-hr];exact h2⟩
theorem yU.nil:yU B w0 R [] []:=⟨rfl,λj v hv=>by simp at hv⟩
theorem drop_flat (h0:0<=i) (h:ls[i.toNat]? =some l):(ls.drop i.toNat).flatten=l++(ls.drop (i+1).toNat).flatten:=by
 have br:i.toNat<ls.length:=(fw.1 h).1;have e:(i+1).toNat=i.toNat+1:=G
 rw[mf br,(fw.1 h).2,e];rfl
theorem RA {x:BitVec 32} {m:AH} (h0:0<=i) (h:i<l.length):FZ x (l.drop i.toNat++m)=FZ (bQn x (rd l i)) (l.drop (i+1).toNat++m):=by
 rw[gD h0 h];rfl
theorem QI {α:Type} {l:List α} (h:(l.length:Int)<=i):l.drop i.toNat=[]:=ol G
end
section
variable {t:Int} {u b:AH}
def GL (t:Int) (u:AH) (p:AH × AH):Prop:=
 (t=1/\ ∃b:AH,b.Perm (iota u.length)/\b.Pairwise (bV u)/\p=(aV (zat b),ofL u b))\/
 (t=2/\ ∃T:AE,T.Perm (gG (bws u) (bws u).length)/\T.Pairwise (jR (bws u))/\p=([],T.map (lastB (bws u))))\/
 (t≠1/\t≠2/\p=([],u))
theorem GL.uniq {p q:AH × AH} (h1:GL t u p) (h2:GL t u q):p=q:=by
 rcases h1 with⟨e1,b,hb,sb,rfl⟩|⟨e1,T,hT,sT,rfl⟩|⟨e1,e2,rfl⟩<;>rcases h2 with⟨f1,c,hc,sc,rfl⟩|⟨f1,U,hU,sU,rfl⟩|⟨f1,f2,rfl⟩
 ·rw[vT hb hc sb sc]
 ·omega
 ·omega
 ·omega
 ·rw[IP aGo (hT.trans hU.symm) sT sU]
 ·omega
 ·omega
 ·omega
 ·rfl
open Classical in
noncomputable def nD (t:Int) (u:AH):AH × AH:=if h: ∃p,GL t u p then Classical.choose h else([],[])
theorem CZ {p:AH × AH} (h:GL t u p):nD t u=p:=by
 have he: ∃p,GL t u p:=⟨p,h⟩;unfold nD;rw[dif_pos he];exact(Classical.choose_spec he).uniq h
theorem NA (h1:t≠1) (h2:t≠2):nD t u=([],u):=CZ (.inr (.inr ⟨h1,h2,rfl⟩))
theorem NB (hp:b.Perm (iota u.length)) (hs:b.Pairwise (bV u)):nD 1 u=(aV (zat b),ofL u b):=CZ (.inl ⟨rfl,b,hp,hs,rfl⟩)
theorem NC {T:AE} (hp:T.Perm (gG (bws u) (bws u).length)) (hs:T.Pairwise (jR (bws u))):nD 2 u=([],T.map (lastB (bws u))):=CZ (.inr (.inl ⟨rfl,T,hp,hs,rfl⟩))
noncomputable def cB (t o:Int) (b:AH):AH:=
 aV b.length++((nD t b).1++(aV (bM (nD t b).2 o).length++(eG (bv (fT b))++bM (nD t b).2 o)))
theorem GL.facts {p:AH × AH} (h:GL t u p) (hu:aO u) (hN:u.length<=100000):(p.1.length<=3/\aO p.1)/\aO p.2/\p.2.length=u.length:=by
 rcases h with⟨_,b,hb,sb,rfl⟩|⟨_,T,hT,sT,rfl⟩|⟨_,_,rfl⟩
 ·have e1:=nN hb sb;have e2:=BI (s:=u) (k:=0) G;exact⟨⟨bU 2 _ G,dF G⟩,zN hu hb,(EK hb sb).length_eq⟩
 ·exact⟨⟨cD,λ_ h=>nomatch h⟩,lL hT (by rw[oJ];exact hu),by rw[bu,GC hT]⟩
 ·exact⟨⟨cD,λ_ h=>nomatch h⟩,hu,rfl⟩
theorem ZO (hu:aO u) (hN:u.length<=100000):((nD t u).1.length<=3/\aO (nD t u).1)/\aO (nD t u).2/\(nD t u).2.length<=u.length:=by
 by_cases h: ∃p,GL t u p
 ·obtain ⟨p,hp⟩:=h;rw[CZ hp];have:=hp.facts hu hN;exact⟨this.1,this.2.1,G⟩
 ·unfold nD;rw[dif_neg h];exact⟨⟨cD,λ_ h=>nomatch h⟩,(λ_ h=>nomatch h),cD⟩
theorem BV {o:Int} (hb:aO b) (hN:b.length<=100000):(cB t o b).length<=2*b.length+22/\aO (cB t o b):=by
 obtain⟨⟨h1,h0⟩,h2,h3⟩:=ZO (t:=t) hb hN;have h4:=lU (o:=o) h2;have h5:=bU 2 (b.length:Int) G;have h6:=bU 2 ((bM (nD t b).2 o).length:Int) G;have h7:(eG (bv (fT b))).length=4:=rfl;unfold cB;refine⟨by simp only[ah];omega,?_⟩;intro x hx;simp only[ek] at hx;rcases hx with hx|hx|hx|hx|hx
 ·exact dF G x hx
 ·exact h0 x hx
 ·exact dF G x hx
 ·exact iX _ x hx
 ·exact gQ _ _ x hx
def chK (m n:Nat):Nat:=(m+n-1)/n
noncomputable def lX (t o:Int) (n:Nat) (u:AH) (k:Nat):AH:=((List.range k).map λj=>cB t o ((u.drop (j*n)).take n)).flatten
theorem wF (t o:Int) (n:Nat) (u:AH):lX t o n u 0=[]:=rfl
theorem wH (t o:Int) (n:Nat) (u:AH) (k:Nat):lX t o n u (k+1)=lX t o n u k++cB t o ((u.drop (k*n)).take n):=by
 unfold lX;rw[zz,jc,mh];simp
theorem nK {t o:Int} {n:Nat} {u:AH} (hu:aO u) (hN:u.length<=100000): ∀k:Nat,(lX t o n u k).length<=(2*u.length+22)*k/\aO (lX t o n u k)
 |0=>by rw[wF];exact⟨cD,λ_ h=>nomatch h⟩
 |k+1=>by
  have h1:=nK (t:=t) (o:=o) (n:=n) hu hN k;have h2:=BV (t:=t) (o:=o) (b:=(u.drop (k*n)).take n) ((hu.drop _).take _) (by rw[ax,bn];omega);have h3:((u.drop (k*n)).take n).length<=u.length:=by rw[ax,bn];omega
  rw[wH,ah,Nat.mul_add];refine⟨G,λx hx=> ?_⟩;rcases ek.1 hx with hx|hx
  ·exact h1.2 x hx
  ·exact h2.2 x hx
theorem aIn {m n:Nat} (hn:1<=n):chK m n<=m:=by
 unfold chK;rcases fo m with h|h
 ·subst h;rw[Fe G];exact ed _
 ·refine Nat.le_of_lt_succ ((Nat.div_lt_iff_lt_mul G).2 ?_);have:(m+1)*1<=(m+1)*n:=Nat.mul_le_mul_left _ hn;have e:(m+1)*n=m*n+n:=by rw[yl,Ah]
  have e2:m*1<=m*n:=Nat.mul_le_mul_left _ hn;show m+n-1<(m+1)*n;omega
noncomputable def sO (t so o size:Int) (u:AH):AH:=
 (([87,72,82,76]++[1,t,so,o])++aV size++lX t o size.toNat u (chK u.length size.toNat))++(aV 0++aV u.length)
end
section
variable {x b l C:AH} {m:Nat} {low size total o y i:Int}
def uT (l:AH):Int:=l.foldl (λa d=>a*256+d) 0
theorem IQ (l:AH) (d:Int):uT (l++[d])=uT l*256+d:=by unfold uT;rw[Il];rfl
theorem aPa (h:m<x.length):uT (x.take (m+1))=uT (x.take m)*256+rd x (m:Int):=by
 have e:=dJ (j:=(m:Int)) (show(0:Int)<=m by omega) (show(m:Int)<x.length by omega);rw[show((m:Int)+1).toNat=m+1 by omega,dh] at e;rw[e,IQ]
theorem aBk: ∀(k:Nat) (N:Int),0<=N->N<256^k->uT (beL k N)=N
 |0,N,h0,h1=>by rw[vv] at h1;show(0:Int)=N;omega
 |k+1,N,h0,h1=>by
  rw[xe] at h1;rw[beL,IQ,aBk k (N/256) G (zy G h1)];omega
theorem aZt (N:Int) (m:Nat):N/256/256^m=N/256^(m+1):=by
 rw[xe,Ea,Int.ediv_ediv_of_nonneg G]
theorem aEb (a:Nat): ∀(m:Nat) (N:Int),(beL (a+m) N).take a=beL a (N/256^m)
 |0,N=>by rw[vv,Int.ediv_one,rq];exact bg (by rw[kS];exact ed _)
 |m+1,N=>by
  rw[show a+(m+1)=(a+m)+1 by omega,beL,Gf (by rw[kS];omega),aEb a m (N/256),aZt]
theorem EN: ∀(k:Nat) (l:AH),l.length=k->aO l->0<=uT l/\uT l<256^k
 |0,l,h,_=>by rw[dw h,vv];show(0:Int)<=0/\(0:Int)<1;omega
 | k+1,l,h,hb=>by
  have hl:(k:Int)<l.length:=G
  have e:l=l.take k++[rd l (k:Int)]:=by
   have e:=dJ (j:=(k:Int)) (show(0:Int)<=k by omega) hl;rw[show((k:Int)+1).toNat=k+1 by omega,dh,bg G] at e;exact e
  have ih:=EN k (l.take k) (by rw[ax];omega) (hb.take _);have hd:=hb.rd (k:Int);rw[e,IQ,xe];omega
structure InC (s f:CdS):Prop where
 k:s.k<=f.k
 lo:s.N*256^(f.k-s.k)<=f.N
 hi:f.N+f.R<=(s.N+s.R)*256^(f.k-s.k)
theorem InC.refl (s:CdS):InC s s:=⟨ed _,by rw[Eh,vv,Ab];exact ni _,by rw[Eh,vv,Ab];exact ni _⟩
theorem InC.trans {a b c:CdS} (h:InC a b) (g:InC b c):InC a c:=by
 have hk:=h.k;have gk:=g.k;have e:c.k-a.k=(b.k-a.k)+(c.k-b.k):=G
 have hp:(0:Int)<=256^(c.k-b.k):=xc G;refine⟨G,?_,?_⟩
 ·rw [e,Ad,<-ui];exact Jt (qa h.lo hp) g.lo
 ·rw [e,Ad,<-ui];exact Jt g.hi (qa h.hi hp)
theorem aKo {s:CdS} (h:YY s) (hs:uK low size total):InC s (sF s low size total):=by
 obtain⟨r0,r1,n0,nr⟩:=h;obtain⟨f1,f2,f3,f4,f5⟩:=oQ hs ⟨r0,r1⟩;unfold sF;generalize hq:s.R/total*size=R1 at*;generalize hl:s.R/total*low=x at*;generalize shN R1=j at*;have hp:(0:Int)<=256^j:=xc G;refine⟨by dsimp only;omega,?_,?_⟩
 ·show s.N*256^(s.k+j-s.k)<=(s.N+x)*256^j;rw[show s.k+j-s.k=j by omega];exact qa G hp
 ·show (s.N+x)*256^j+R1*256^j<=(s.N+s.R)*256^(s.k+j-s.k);rw[show s.k+j-s.k=j by omega,<-Km];exact qa G hp
theorem ZX (o:Int) (s:PpS) (x:Int):(lY o s x).cd=rX s.cd (xI o s) x:=by unfold lY aOc;split<;>(try split)<;>rfl
theorem aLj {o:Int}: ∀(l:AH) (s:PpS),aJi l->SV s->InC s.cd (l.foldl (lY o) s).cd
 |[],s,_,_=>InC.refl _
 |x::l,s,hl,h=>by
  have hx:=hl x cD;have h1:=NL (o:=o) h hx.1 hx.2;have h2:=aLj (o:=o) l (lY o s x) (λy hy=>hl y (gm _ hy)) h1.1;rw[List.foldl_cons];refine InC.trans ?_ h2;rw[ZX];exact aKo h.2.2 (kT (LP (o:=o) h) hx.1 hx.2)
theorem bCm {s f:CdS} (h:YY s) (hs:uK low size total) (hf:InC (sF s low size total) f) (hr:0<f.R):
  s.R/total*low<=f.N/256^(f.k-s.k)-s.N/\f.N/256^(f.k-s.k)-s.N<s.R/total*(low+size):=by
 obtain⟨hk,Iv,Vy⟩:=hf;unfold sF at hk Iv Vy;dsimp only at hk Iv Vy;rw[Kn];generalize s.R/total*size=R1 at*;generalize s.R/total*low=x at*;generalize shN R1=j at*;have e:f.k-s.k=j+(f.k-(s.k+j)):=G
 have hp:(0:Int)<256^(f.k-s.k):=Fx G;rw[ui,<-Ad,<-e] at Iv;rw[<-Km,ui,<-Ad,<-e] at Vy;have h1:=(Bc (a:=s.N+x) (b:=f.N) hp).2 Iv;have h2:=zy (a:=f.N) (b:=s.N+x+R1) hp G;omega
theorem aYy (o:Int) (l m:AH):encP o (l++m)=m.foldl (lY o) (encP o l):=by unfold encP;rw[Il]
theorem aWb (h:aO b) {k:Nat} (hk:k<=(encP o (bQ b)).cd.k):uT ((bM b o).take (k+4))=(encP o (bQ b)).cd.N/256^((encP o (bQ b)).cd.k-k):=by
 have hc:=(FO (o:=o) (rW h)).1.2.2;unfold bM;generalize (encP o (bQ b)).cd=f at*;obtain⟨r0,r1,n0,nr⟩:=hc;rw[show f.k+4=(k+4)+(f.k-k) by omega,aEb];refine aBk _ _ (Gj n0 (xc G)) ?_;refine zy (Fx G) ?_;rw[<-Ad,show k+4+(f.k-k)=f.k+4 by omega];omega
def cuC (x:AH) (s:CdS):Int:=uT (x.take (s.k+4))-s.N
theorem aZx {C q:Int} (hq:0<q) (h1:q*low<=C) (h2:C<q*(low+size)):low<=C/q/\C/q<low+size:=
 ⟨(Bc hq).2 (by rw[Ea];exact h1),zy hq (by rw[Ea];exact h2)⟩
structure vF (x:AH) (cd:CdS) (C:AH) (y:Int):Prop where
 lo:cd.R/cK C*cK (C.take y.toNat)<=cuC x cd
 hi:cuC x cd<cd.R/cK C*(cK (C.take y.toNat)+rd C y)
 c0:0<=cuC x cd
 c1:cuC x cd<4294967296
 v0:cK (C.take y.toNat)<=cuC x cd/(cd.R/cK C)
 v1:cuC x cd/(cd.R/cK C)<cK (C.take y.toNat)+rd C y
 len:(rX cd C y).k+4<=x.length
theorem aZy {r:AH} (hb:aO b) (hl:bQ b=l++y::r):vF (bM b o) (encP o l).cd (xI o (encP o l)) y:=by
 have w8:=rW hb;have hy:=w8 y (by rw[hl];simp);have kb:aJi l:=λz hz=>w8 z (by rw[hl];exact Ga _ hz);have hsr:aJi r:=λz hz=>w8 z (by rw[hl];exact List.mem_append_right _ (gm _ hz));have dq:=(FO (o:=o) kb).1;have j4:=kT (LP (o:=o) dq) hy.1 hy.2;have h1:=NL (o:=o) dq hy.1 hy.2;have de:=aLj (o:=o) r _ hsr h1.1;have hf:(encP o (bQ b)).cd=(r.foldl (lY o) (lY o (encP o l) y)).cd:=by rw[hl,aYy];rfl
 have hfo:=(FO (o:=o) w8).1.2.2;rw[<-hf,ZX] at de;have hc:=dq.2.2;have hs:=bCm hc j4 de (by have:=hfo.1;omega);have hk:(encP o l).cd.k<=(encP o (bQ b)).cd.k:=((aKo hc j4).trans de).k;have hnum:=aWb (o:=o) hb hk;have hcu:cuC (bM b o) (encP o l).cd=(encP o (bQ b)).cd.N/256^((encP o (bQ b)).cd.k-(encP o l).cd.k)-(encP o l).cd.N:=by unfold cuC;rw[hnum]
 rw[<-hcu] at hs;have hfa:=oQ j4 ⟨hc.1,hc.2.1⟩;have hc0:0<=cuC (bM b o) (encP o l).cd:=G
 have hq:0<(encP o l).cd.R/cK (xI o (encP o l)):=G
 have hd:=aZx hq hs.1 hs.2;have Mq:=hs.2;rw[Kn] at Mq;exact⟨hs.1,hs.2,hc0,by have:=hc.2.1;omega,hd.1,hd.2,by unfold bM;rw[kS];have:=de.k;omega⟩
theorem TP {C:AH} (h: ∀c∈C,1<=c) {i:Int} (i0:0<=i): ∀k:Nat,i+k<=C.length->cK (C.take i.toNat)<=cK (C.take (i+k).toNat)
 |0,_=>by rw[show i+((0:Nat):Int)=i by omega];exact ni _
 |k+1,hk=>by
  have ih:=TP h i0 k G;have e:=oP (l:=C) (i:=i+k) G G;have:=h _ (bG (L:=C) (k:=i+k) G G);rw[show i+((k+1:Nat):Int)=i+k+1 by omega];omega
theorem bCl {C:AH} (h: ∀c∈C,1<=c) {v:Int} (i0:0<=i) (hi:i<=y) (hy:y<C.length) (g1:cK (C.take y.toNat)<=v) (hv:v<cK (C.take i.toNat)+rd C i):i=y:=by
 have e1:=oP (l:=C) i0 G;rcases Be hi with c|c
 ·have:=TP h (i:=i+1) G (y-i-1).toNat G;rw[show i+1+((y-i-1).toNat:Int)=y by omega] at this;omega
 ·exact c
theorem bCg (hb:aO b) (i0:0<=i) (hi:i<(bQ b).length):rd (bQ b) i=257↔i=(bQ b).length-1:=by
 have hlen:((bQ b).length:Int)=(dE 0 (dB bL b)).length+1:=by unfold bQ;rw[ah,ic];omega
 constructor
 ·intro h;rcases cz i (dE 0 (dB bL b)).length with c|c
  ·exfalso;unfold bQ at h;rw[kJ i0 c] at h;have:=LD (dB bL b) 0 (pO hb) _ (bG i0 c);omega
  ·omega
 ·intro h;unfold bQ;rw[iG G,show i-(dE 0 (dB bL b)).length=0 by omega];rfl
theorem HY (b:AH):(bQ b).take ((bQ b).length-1)=dE 0 (dB bL b):=by
 unfold bQ;rw[ah,ic,Hu,Ef]
theorem aFf (i0:0<=i) (hi:i<(bQ b).length):bQ b=(bQ b).take i.toNat++rd (bQ b) i::(bQ b).drop (i+1).toNat:=by
 conv=>lhs;rw[<-gz i.toNat (bQ b),iO i0 hi]
theorem bEh {s:PpS} (hb:aO b) (hx:x=bM b o) (hS:s=encP o ((bQ b).take i.toNat)) (i0:0<=i) (hi:i<(bQ b).length):vF x s.cd (xI o s) (rd (bQ b) i):=by
 subst hx;subst hS;exact aZy hb (aFf i0 hi)
theorem vF.w0 {s:PpS} (h:vF x s.cd (xI o s) y) (hk:s.cls*o=0):vF x s.cd s.c0 y:=by
 unfold xI at h;rwa[dm hk] at h
theorem vF.w1 {s:PpS} (h:vF x s.cd (xI o s) y) (hk:s.cls*o=1):vF x s.cd s.c1 y:=by
 unfold xI at h;rwa[df G,dm hk] at h
theorem vF.w2 {s:PpS} (h:vF x s.cd (xI o s) y) (hk:s.cls*o=2):vF x s.cd s.c2 y:=by
 unfold xI at h;rwa[df G,df G] at h
theorem vF.tot {cd:CdS} (h:vF x cd C y) (dq:mE C) (h0:0<=y) (hy:y<258):cuC x cd/(cd.R/cK C)<cK C/\1<=cK C/\cK C<=65536:=by
 have h1:=h.v1;have h2:=uL (i:=y) dq.2.1 h0 (by rw[dq.1];omega);have h3:=dq.2.2;omega
theorem bLn {ew p:Int} {acc q:AH} (h:bkL ew (l.drop i.toNat) acc p=some q) (i0:0<=i) (hi:i<l.length):(0<=rd l i/\rd l i<257)/\
    ((2<=rd l i/\(acc.length:Int)+1<=ew/\bkL ew (l.drop (i+1).toNat) (acc++[rd l i-1]) 1=some q)\/
     (rd l i<2/\p<=ew/\(rd l i+1)*p<=ew-acc.length/\bkL ew (l.drop (i+1).toNat) (acc++List.replicate ((rd l i+1)*p).toNat 0) (p*2)=some q)):=by
  rw[iO i0 hi,bkL] at h;split at h
  · cases h
  · split at h
    · split at h
      · cases h
      · exact⟨G, .inl ⟨G,G,h⟩⟩
    · split at h
      · cases h
      · exact⟨G, .inr ⟨G,G,G,h⟩⟩
theorem aDf {c M:Int} (hm:m<x.length) (h:c=uT (x.take m)-M):c*256+rd x (m:Int)=uT (x.take (m+1))-M*256:=by
 rw[aPa hm,h];omega
end
section
variable {p:AH}
def pit (p:AH):Nat->Int->Int
 |0,i=>i
 |b+1,i=>rd p (pit p b i)
theorem vQ (hp:p.Perm (iota p.length)) {i:Int} (i0:0<=i) (hi:i<p.length): ∀b:Nat,0<=pit p b i/\pit p b i<p.length
 |0=>⟨i0,hi⟩
 |b+1=>by
  have ih:=vQ hp i0 hi b;exact aZ.1 (hp.subset (bG (L:=p) ih.1 ih.2))
theorem aKq (p:AH) (a:Nat) (i:Int): ∀b:Nat,pit p (a+b) i=pit p b (pit p a i)
 |0=>rfl
 |b+1=>by rw[<-nz,pit,aKq p a i b,pit]
theorem bHk (hp:p.Perm (iota p.length)) {x y:Int} (x0:0<=x) (hx:x<p.length) (y0:0<=y) (hy:y<p.length) (h:rd p x=rd p y):x=y:=kM (hp.symm.nodup (fB _)) x0 hx y0 hy h
structure Ring (p:AH) (i:Int) (c:AH):Prop where
 pos:0<c.length
 at_: ∀b:Nat,b<c.length->rd c b=pit p b i
 close:pit p c.length i=i
 nodup:c.Nodup
 least: ∀x∈c,i<=x
structure ClE (p:AH) (E:List Bool):Prop where
 len:E.length=p.length
 back: ∀j:Int,0<=j->j<p.length->rdb E (rd p j)=true->rdb E j=true
theorem bCn {l:AH} {x:Int} {b:Nat} (h:b<(l++[x]).length):rd (l++[x]) b=if b<l.length then rd l b else x:=by
 split
 ·rename_i g;rw[kJ G G]
 ·rename_i g;have:b=l.length:=by simp at h;omega
  subst this;rw[iG G,Gt];rfl
theorem TC (hp:p.Perm (iota p.length)) {E0:List Bool} {i:Int} (hE0:ClE p E0) (i0:0<=i) (hi:i<p.length) (Mx:rdb E0 i≠true) (gl: ∀j:Int,0<=j->j<i->rdb E0 j=true):
  ∀(f:Nat) (E:List Bool) (acc:AH),E.length=p.length->cntF E<=f->(∀b:Nat,b<acc.length->rd acc b=pit p b i)->acc.Nodup->(∀x∈acc,rdb E0 x≠true)->(∀j:Int,0<=j->j<p.length->(rdb E j=true↔rdb E0 j=true\/j∈acc))->
  Ring p i (acc++(iN p f E (pit p acc.length i)).1)/\(∀x∈acc++(iN p f E (pit p acc.length i)).1,rdb E0 x≠true)/\ ∀j:Int,0<=j->j<p.length->(rdb (iN p f E (pit p acc.length i)).2 j=true↔rdb E0 j=true\/j∈acc++(iN p f E (pit p acc.length i)).1)
 | f, E,acc,hl,hf,rh,hnd,Lw,hset=>by
  have hk:=vQ hp i0 hi acc.length;have ft: ∀b:Nat,b<acc.length->pit p b i∈acc:=λb hb=>by rw[<-rh b hb];exact bG G G
  by_cases ua:rdb E (pit p acc.length i)=true
  ·rw [vJ ua];simp only[iw]
   have cg:0<acc.length:=by
    rcases fo acc.length with z|z
    ·exfalso;have hz:acc=[]:=dw z;subst hz;rcases(hset i i0 hi).1 ua with a|a
     ·exact Mx a
     ·cases a
    ·exact z
   have Rm:pit p acc.length i=i:=by
    have hz:=vQ hp i0 hi (acc.length-1)
    have Qm:pit p acc.length i=rd p (pit p (acc.length-1) i):=by
     obtain⟨m,hm⟩: ∃m,acc.length=m+1:=⟨acc.length-1,G⟩;rw[hm,pit];rfl
    rcases(hset _ hk.1 hk.2).1 ua with a|a
    ·rw [Qm] at a;exact absurd (hE0.back _ hz.1 hz.2 a) (Lw _ (ft _ G))
    ·obtain ⟨b,hb,e⟩:=ib.1 a;have e2:pit p acc.length i=pit p b i:=by rw[<-rh b hb,jK hb];exact e.symm
     rcases fo b with z|z
     ·rw[e2,z];rfl
     ·exfalso;have xa:=vQ hp i0 hi (b-1)
      have Sn:pit p b i=rd p (pit p (b-1) i):=by
       obtain⟨m,rfl⟩: ∃m,b=m+1:=⟨b-1,G⟩;rw[pit];rfl
      have:=bHk hp hz.1 hz.2 xa.1 xa.2 (by rw[<-Qm,<-Sn,e2]);rw[<-rh _ G,<-rh _ G] at this;have:=kM hnd G G G G this;omega
   refine⟨⟨cg,rh,Rm,hnd,λx hx=> ?_⟩,Lw,hset⟩;obtain⟨b,hb,rfl⟩:=ib.1 hx;have hr:=vQ hp i0 hi b;rw[<-rh b hb,jK hb] at hr;rcases cz acc[b] i with g|g
   ·exact absurd (gl _ hr.1 g) (Lw _ hx)
   ·exact g
  ·have fb:=QO hk.1 G ua;have k9:=FV hk.1 G ua;obtain⟨g,rfl⟩: ∃g,f=g+1:=⟨f-1,G⟩;rw[MR hk.1 G hf ua];have vi: ¬(rdb E0 (pit p acc.length i)=true\/pit p acc.length i∈acc):=λh=>ua ((hset _ hk.1 hk.2).2 h);have hlen:(acc++[pit p acc.length i]).length=acc.length+1:=cD
   have ih:=TC hp hE0 i0 hi Mx gl g (qW E (pit p acc.length i) true) (acc++[pit p acc.length i]) (by rw[mI];exact hl) G (λb hb=>by
    rw[bCn hb];split
    ·rename_i q;exact rh b q
    ·rename_i q;rw[show b=acc.length by rw[hlen] at hb;omega]) (yf.2 ⟨hnd,cD,λx hx y hy e=>by obtain rfl:=ig.1 hy;subst e;exact vi (.inr hx)⟩) (λx hx=>by
    rcases ek.1 hx with h|h
    ·exact Lw x h
    ·obtain rfl:=ig.1 h
     exact λe=>vi (.inl e)) (λj j0 hj=>by
    rw[zH hk.1 G j0,ek,ig];split
    ·rename_i e;exact⟨λ_=> .inr (.inr e),λ_=>rfl⟩
    ·rename_i e;rw[hset j j0 hj];exact⟨λh=>h.elim .inl λh=> .inr (.inl h),λh=>h.elim .inl λh=>h.elim .inr λh=>absurd h e⟩)
   rw[hlen,pit,dx] at ih;exact ih
structure bQt (p:AH) (i:Nat) (E:List Bool) (ls:AD):Prop where
 cl:ClE p E
 seen: ∀j:Int,0<=j->j<p.length->(rdb E j=true↔j∈ls.flatten)
 nodup:ls.flatten.Nodup
 ring: ∀c∈ls,∃i0:Int,(0<=i0/\i0<i)/\Ring p i0 c
 heads:ls.Pairwise λc d=>rd c 0<rd d 0
theorem bQm (hp:p.Perm (iota p.length)): ∀i:Nat,i<=p.length->bQt p i (jW p i).1 (jW p i).2
 |0,_=>⟨⟨by simp[jW],λj j0 hj h=>by rw[jW,EC] at h;cases h⟩,λj j0 hj=>by rw[jW,EC];simp,by simp[jW],λc hc=>(by cases hc), .nil⟩
 | i +1,hi=>by
  have ih:=bQm hp i G;have ua:=JF hp i G;have hf:=mZ hp i G;have hcnt:cntF (jW p i).1<=p.length:=by have:=hf.2.2;omega
  rw[jW];by_cases Mx:rdb (jW p i).1 i=true
  ·rw [vJ Mx];simp only[Kh];exact⟨ih.cl,ih.seen,ih.nodup,λc hc=>by obtain⟨i0,h,r⟩:=ih.ring c hc;exact⟨i0,G,r⟩,ih.heads⟩
  ·obtain ⟨w1,w2,w3⟩:=TC hp ih.cl (i:=i) G G Mx (λj j0 hj=>by have:=ua j.toNat G;rwa[show((j.toNat:Nat):Int)=j by omega] at this) p.length (jW p i).1 [] hf.1 hcnt (λb hb=>by simp at hb) .nil (λx hx=>by cases hx) (λj j0 hj=>cD);simp only[iv,il,pit] at w1 w2 w3;have b9:=(tF hp p.length (jW p i).1 i hf.1 G G);generalize iN p p.length (jW p i).1 i=r at w1 w2 w3 b9;obtain⟨c,E'⟩:=r;simp only at w1 w2 w3 b9 ⊢;rw[df (λe=>by have:=w1.pos;rw[e] at this;simp at this)];have h0:rd c 0=i:=w1.at_ 0 w1.pos;refine⟨⟨b9.1,λj j0 hj h=> ?_⟩,λj j0 hj=> ?_,?_,λd hd=> ?_,?_⟩
   ·have b6:=aZ.1 (hp.subset (bG (L:=p) j0 hj));rcases(w3 _ b6.1 b6.2).1 h with a|a
    ·exact(w3 j j0 hj).2 (.inl (ih.cl.back j j0 hj a))
    ·refine (w3 j j0 hj).2 (.inr ?_);obtain⟨b,hb,e⟩:=ib.1 a;have e2:rd p j=pit p b i:=by rw[<-w1.at_ b hb,jK hb];exact e.symm
     have key: ∀m:Nat,m<c.length->rd p j=rd p (pit p m i)->j∈c:=λm hm e=>by
      have No:=vQ hp (i:=i) G G m;have:=bHk hp j0 hj No.1 No.2 e;rw[this,<-w1.at_ m hm];exact bG G G
     rcases fo b with z|z
     ·refine key (c.length-1) (by have:=w1.pos;omega) ?_;have hc:=w1.close;obtain⟨m,hm⟩: ∃m,c.length=m+1:=⟨c.length-1,by have:=w1.pos;omega⟩;rw[hm,pit] at hc;rw[e2,z,hm];exact hc.symm
     ·obtain ⟨m,rfl⟩: ∃m,b=m+1:=⟨b-1,G⟩;exact key m G (by rw[e2,pit])
   ·rw [w3 j j0 hj,mh,ek,ih.seen j j0 hj];simp
   ·rw [mh];refine yf.2 ⟨ih.nodup,by simpa using w1.nodup,λx hx y hy e=> ?_⟩;subst e;have hy:x∈c:=by simpa using hy
    have j5:=b9.2.1 x hy;exact w2 x hy ((ih.seen x j5.1 j5.2).2 hx)
   ·rcases ek.1 hd with h|h
    ·obtain ⟨i0,h,r⟩:=ih.ring d h;exact⟨i0,G,r⟩
    ·obtain rfl:=ig.1 h;exact⟨i,G,w1⟩
   ·refine ku.2 ⟨ih.heads,qi _ _,λd hd e he=> ?_⟩;obtain rfl:=ig.1 he;obtain⟨i0,h,r⟩:=ih.ring d hd;rw[h0,show rd d 0=i0 from r.at_ 0 r.pos];omega
theorem aIb (hp:p.Perm (iota p.length)):bQt p p.length (jW p p.length).1 (dA p):=bQm hp p.length (ed _)
theorem uV (hp:p.Perm (iota p.length)):(dA p).flatten.Perm (iota p.length):=sG (aIb hp).nodup (λx hx=>by
 obtain⟨c,hc,hx⟩:=uf.1 hx
 exact aZ.2 (YD hp c hc x hx)) (by rw[bA,aDc hp];exact ed _)
end
end Go.Pure
namespace Go.Pure
open Go Go.Eng
section
variable {l:AH}
def phi (l:AH) (q:Int):Int:=rd (dD (iota l.length) l 256) q
theorem OT (hl:aO l) {q:Int} (q0:0<=q) (hq:q<l.length):0<=phi l q/\phi l q<l.length:=by
 have h:=lJ (l:=l) hl;have hlen:=h.1.length_eq;rw[bA] at hlen;exact aZ.1 (h.1.subset (bG q0 G))
theorem bJu (hl:aO l) {i:Int} (i0:0<=i) (hi:i<l.length):phi l (lfC l i)=i:=by
 obtain⟨q,q0,q1,e,f⟩:=aBs (l:=l) hl i0 hi;rw[f];exact e
theorem aGk (hl:aO l) {i k:Int} (i0:0<=i) (h:i<k) (hk:k<l.length):tl l (phi l i) (phi l k):=by
 have hlen:=(lJ (l:=l) hl).1.length_eq;rw[bA] at hlen;exact fP (lJ (l:=l) hl).2 i0 h G
def uw (l:AH):Nat->Int->Int
 |0,i=>rd l (phi l i)
 |d+1,i=>uw l d (phi l i)
def U (l:AH) (i:Int) (d:Nat):Int:=uw l d i
theorem yS (i:Int):U l i 0=rd l (phi l i):=by unfold U;rw[uw]
theorem CB (i:Int) (d:Nat):U l i (d+1)=U l (phi l i) d:=by unfold U;rw[uw]
theorem bBp (hl:aO l): ∀(d:Nat) (i k:Int),0<=i->i<k->k<l.length->(∀e,e<d->U l i e=U l k e)->U l i d<=U l k d
 |0,i,k,i0,h,hk,_=>by
  have:=aGk hl i0 h hk;rw[yS,yS];unfold tl at this;omega
 |d+1,i,k,i0,h,hk,he=>by
  have h0:=he 0 G;rw[yS,yS] at h0;have ht:=aGk hl i0 h hk;unfold tl at ht;have Tc:=OT hl (q:=i) i0 G;have po:=OT hl (q:=k) G hk;rw[CB,CB];refine bBp hl d _ _ Tc.1 G po.2 λe he'=> ?_;have:=he (e+1) G;rwa[CB,CB] at this
theorem aSq (hl:aO l) {i k:Int} (i0:0<=i) (h:i<=k) (hk:k<l.length): ¬Lt (U l k) (U l i):=by
 rintro⟨d,h1,h2⟩;rcases cz i k with a|a
 ·have:=bBp hl d i k i0 a hk λe he=>(h1 e he).symm;omega
 ·obtain rfl:i=k:=G
  omega
theorem phi_mono (hl:aO l) {i k:Int} (i0:0<=i) (h:i<k) (hk:k<l.length) (he: ∀d,U l i d=U l k d):phi l i<phi l k/\ ∀d,U l (phi l i) d=U l (phi l k) d:=by
 have ht:=aGk hl i0 h hk;have h0:=he 0;rw[yS,yS] at h0;unfold tl at ht;refine⟨G,λd=> ?_⟩;have:=he (d+1);rwa[CB,CB] at this
def kD (l:AH):Nat->Int->Int
 |0,i=>i
 |b+1,i=>kD l b (phi l i)
theorem vR (hl:aO l): ∀(b:Nat) {i:Int},0<=i->i<l.length->0<=kD l b i/\kD l b i<l.length
 |0,i,i0,hi=>⟨i0,hi⟩
 |b+1,i,i0,hi=>by
  have h:=OT hl i0 hi;exact vR hl b h.1 h.2
theorem IL (hl:aO l): ∀(b:Nat) {i k:Int},0<=i->i<k->k<l.length->(∀d,U l i d=U l k d)->kD l b i<kD l b k/\ ∀d,U l (kD l b i) d=U l (kD l b k) d
 |0,i,k,_,h,_,he=>⟨h,he⟩
 |b+1,i,k,i0,h,hk,he=>by
  have h1:=phi_mono hl i0 h hk he;have Tc:=OT hl (q:=i) i0 G;have po:=OT hl (q:=k) G hk;exact IL hl b Tc.1 h1.1 po.2 h1.2
theorem yT (i:Int): ∀(b d:Nat),U l (kD l b i) d=U l i (b+d)
 |0,d=>by rw[ny];rfl
 |b+1,d=>by
  rw[kD,yT (phi l i) b d,<-CB,show b+d+1=b+1+d by omega]
theorem qG (i:Int): ∀(a b:Nat),kD l (a+b) i=kD l b (kD l a i)
 |0,b=>by rw[ny];rfl
 |a+1,b=>by rw[show a+1+b=(a+b)+1 by omega,kD,qG (phi l i) a b];rfl
theorem aLd (hl:aO l) {i:Int} (i0:0<=i) (hi:i<l.length) {b:Nat} (h:i<kD l b i) (he: ∀d,U l i d=U l (kD l b i) d): ∀t:Nat,i+t<=kD l (t*b) i
 |0=>by rw[Ce];show i+0<=i;omega
 |t+1=>by
  have ih:=aLd hl i0 hi h he t;have hk:=vR hl b i0 hi;have h1:=(IL hl (t*b) i0 h hk.2 he).1;rw[<-qG i b (t*b),show b+t*b=(t+1)*b by rw[Cc];omega] at h1;omega
theorem aLe (hl:aO l) {i:Int} (i0:0<=i) (hi:i<l.length) {b:Nat} (h:kD l b i<i) (he: ∀d,U l i d=U l (kD l b i) d): ∀t:Nat,kD l (t*b) i+t<=i
 |0=>by rw[Ce];show i+0<=i;omega
 |t+1=>by
  have ih:=aLe hl i0 hi h he t;have hk:=vR hl b i0 hi;have h1:=(IL hl (t*b) hk.1 h hi λd=>(he d).symm).1;rw[<-qG i b (t*b),show b+t*b=(t+1)*b by rw[Cc];omega] at h1;omega
theorem aUg (hl:aO l) {i:Int} (i0:0<=i) (hi:i<l.length) {b:Nat} (cg:kD l b i≠i): ¬ ∀d,U l i d=U l (kD l b i) d:=λhe=>by
 rcases cz i (kD l b i) with h|h
 ·have:=aLd hl i0 hi h he (l.length+1);have:=vR hl ((l.length+1)*b) i0 hi;omega
 ·have:=aLe hl i0 hi G he (l.length+1);have:=vR hl ((l.length+1)*b) i0 hi;omega
theorem bFf (hl:aO l):(((iota l.length).map (lfC l))).Perm (iota ((iota l.length).map (lfC l)).length):=by
 rw[bu,bA];exact GD (λx h0 h1=>aBt (l:=l) hl h0 h1) λx y x0 x1 y0 y1 e=>aXf (l:=l) hl x0 x1 y0 y1 e
def lfL (l:AH):AH:=(iota l.length).map (lfC l)
theorem mV (l:AH):(lfL l).length=l.length:=by unfold lfL;rw[bu,bA]
theorem bJp {i:Int} (i0:0<=i) (hi:i<l.length):rd (lfL l) i=lfC l i:=by
 unfold lfL;rw[xO i0 (by rw[bA];exact hi),vP i0 hi]
theorem lK (hl:aO l):(lfL l).Perm (iota (lfL l).length):=bFf hl
theorem aAy (hl:aO l) {i:Int} (i0:0<=i) (hi:i<l.length): ∀b:Nat,kD l b (pit (lfL l) b i)=i
 |0=>rfl
 |b+1=>by
  have h:=vQ (lK hl) i0 (by rw[mV];exact hi) b;rw[mV] at h;rw[kD,pit,bJp h.1 h.2,bJu hl h.1 h.2];exact aAy hl i0 hi b
section
variable {i:Int} {c:AH} (hl:aO l) (i0:0<=i) (hi:i<l.length) (hc:Ring (lfL l) i c)
include hl i0 hi hc
theorem zF {b:Nat} (hb:b<=c.length):kD l b i=pit (lfL l) (c.length-b) i:=by
 have h:=aAy hl (vQ (lK hl) i0 (by rw[mV];exact hi) (c.length-b)).1 (by have:=(vQ (lK hl) i0 (by rw[mV];exact hi) (c.length-b)).2;rw[mV] at this;exact this) b;rw[<-aKq,show c.length-b+b=c.length by omega,hc.close] at h;exact h
theorem NW:kD l c.length i=i:=by
 rw[zF hl i0 hi hc (ed _),Eh];rfl
theorem aAo:Per (U l i) c.length:=λd=>by
 rw[ve,<-yT,NW hl i0 hi hc]
theorem ZF {d:Nat} (hd:d<c.length):rd (eB l c) d=U l i d:=by
 have h1:rd (eB l c) d=rd l (rd c ((c.length-1-d:Nat):Int)):=by
  unfold eB;rw[xO G (by rw[mo];omega)];congr 1;rw[jK (by rw[mo];exact hd),Fz,jK G]
 have h2:U l i d=rd l (kD l (d+1) i):=by
  have:=yT (l:=l) i d 0;rw[rq,yS] at this;rw[<-this,qG i d 1];rfl
 rw[h1,h2,hc.at_ _ G,zF hl i0 hi hc G,show c.length-(d+1)=c.length-1-d by omega]
theorem MO:om (eB l c)=U l i:=by
 funext d;have hp:=hc.pos
 have h1:om (eB l c) d=rd (eB l c) ((d%c.length:Nat):Int):=by
  unfold om rd;rw[lQ,dh]
 rw[h1,ZF hl i0 hi hc (yw _ hp)];exact(aAo hl i0 hi hc).mod d
theorem NY {r:Nat} (r0:0<r) (hr:r<c.length):i<kD l r i:=by
 rw[zF hl i0 hi hc G];have h1:=hc.least _ (bG (L:=c) (k:=((c.length-r:Nat):Int)) G G);rw[hc.at_ _ G] at h1;rcases cz i (pit (lfL l) (c.length-r) i) with g|g
 ·exact g
 ·exfalso
  have e:rd c ((c.length-r:Nat):Int)=rd c ((0:Nat):Int):=by
   rw[hc.at_ _ G,hc.at_ 0 hc.pos];show _=i;omega
  have:=kM hc.nodup G G G (by have:=hc.pos;omega) e;omega
theorem aUv:pW (eB l c)=true:=by
 rw[kV,lQ];refine⟨hc.pos,λr r0 hr=> ?_⟩;have hot:=NY hl i0 hi hc r0 hr;have de:=vR hl r i0 hi;have hnl:=aSq hl i0 (Bw hot) de.2;have cg:=aUg hl i0 hi (b:=r) G
 have br:Lt (U l i) (U l (kD l r i)):=by
  rcases xZ (U l i) (U l (kD l r i)) with a|a|a
  ·exact a
  ·exact absurd a cg
  ·exact absurd a hnl
 obtain⟨d,h1,h2⟩:=br;have Xn: ∀e,U l (kD l r i) e=U l i (r+e):=λe=>yT i r e;rw[Xn] at h2
 have hdm:d<c.length-r:=by
  rcases gp d (c.length-r) with g|g
  ·exact g
  ·exfalso;have nj:=aAo hl i0 hi hc;have Si:=NY hl i0 hi hc (r:=c.length-r) G G;have hin2:=vR hl (c.length-r) i0 hi;refine aSq hl i0 (Bw Si) hin2.2 ⟨d-(c.length-r),λe he=> ?_,?_⟩
   ·rw [yT];have:=h1 (c.length-r+e) G;rw[this,Xn,show r+(c.length-r+e)=e+c.length by omega,nj]
   ·rw [yT,show c.length-r+(d-(c.length-r))=d by omega];rw[show r+d=(d-(c.length-r))+c.length by omega,nj] at h2;exact h2
 rw[oH _ _ (by rw[bn,lQ];omega),bn,lQ]
 have br: ∀e,e<c.length->lt (eB l c) e=U l i e:=λe he=>by
  rw[<-ZF hl i0 hi hc he];unfold lt rd;rw[dh]
 refine⟨d,hdm,λe he=> ?_,?_⟩
 ·rw[jS,br e G,br (r+e) G,h1 e he,Xn]
 ·rw [jS,br d G,br (r+d) G];exact h2
end
end
end Go.Pure
namespace Go.Pure
open Go Go.Eng
theorem PE {w:AH} {e:Nat} (h:e<w.length):om w e=lt w e:=qH h
theorem aMu {v:AH} (h:pW v=true) {r:Nat} (r0:0<r) (hr:r<v.length): ∃d,d<v.length-r/\(∀e,e<d->lt v e=lt v (r+e))/\lt v d<lt v (r+d):=by
 have:=((kV v).1 h).2 r r0 hr;rw[oH _ _ (by rw[bn];omega),bn] at this;obtain⟨d,h1,h2,h3⟩:=this;refine⟨d,h1,λe he=> ?_,?_⟩
 ·rw[h2 e he,jS]
 ·rwa[jS] at h3
theorem longer {w v:AH} (hw:0<w.length) (hv:pW v=true) (hlen:w.length<v.length) (Mk: ∀e,e<w.length->lt v e=lt w e):Lt (om w) (om v):=by
 obtain⟨d,h1,h2,h3⟩:=aMu hv hw hlen;have nj:=qO w
 have agr: ∀e,e<w.length+d->lt v e=om w e:=by
  intro e
  induction e using Nat.strongRecOn with
  | ind e ih=>
   intro he;rcases gp e w.length with g|g
   ·rw[Mk e g,PE g]
   ·have e1:=h2 (e-w.length) G;rw[show w.length+(e-w.length)=e by omega] at e1;have e2:=nj (e-w.length);rw[show e-w.length+w.length=e by omega] at e2;rw[<-e1,e2];exact ih (e-w.length) G G
 refine⟨w.length+d,λf hf=> ?_,?_⟩
 ·rw[PE (w:=v) G,agr f hf]
 ·rw [PE (w:=v) G];have e1:=nj d;rw[ve d w.length] at e1;rw[e1,<-agr d G];exact h3
theorem aLh: ∀(ws:AD) (m:Nat),0<m->m<=ws.flatten.length-> ∃v∈ws,∃r,r<m/\m<=r+v.length/\ ∀e,e<v.length->lt ws.flatten (r+e)=lt v e
 |[],m,h0,h=>by simp at h;omega
 | w::ws,m,h0,h=>by
  rw[oq,ah] at h;rcases gp w.length m with g|g
  ·obtain ⟨v,hv,r,h1,h2,h3⟩:=aLh ws (m-w.length) G G;refine⟨v,gm _ hv,w.length+r,G,G,λe he=> ?_⟩;rw[oq,<-h3 e he];unfold lt;rw[ai,ai,jk G,show w.length+r+e-w.length=r+e by omega]
  ·refine ⟨w,cD,0,h0,G,λe he=> ?_⟩;rw[oq,ny];unfold lt;rw[ai,ai,ji he]
theorem aQn {w:AH} {ws:AD} (hw:pW w=true) (hws: ∀v∈ws,pW v=true) (nw: ∀v∈ws,¬Lt (om w) (om v)):jL (w++ws.flatten) (w++ws.flatten).length=w.length:=by
 have fb:=((kV w).1 hw).1;refine IR (by rw[Gq];exact hw;rfl) _ cD λm h1 h2=> ?_;cases hb:pW ((w++ws.flatten).take m) with
 |false=>rfl
 | true=>
  exfalso;rw[ah] at h2;obtain⟨v,hv,r,r1,r2,r3⟩:=aLh ws (m-w.length) G G;have Zi:((w++ws.flatten).take m).length=m:=by rw[ax,ah];omega
  obtain⟨d,d1,d2,d3⟩:=aMu hb (r:=w.length+r) G G;rw[Zi] at d1;have hs: ∀e,e<m->lt ((w++ws.flatten).take m) e=lt (w++ws.flatten) e:=λe he=>lt_take he
  have w7: ∀e,e<w.length->lt (w++ws.flatten) e=lt w e:=λe he=>by
   unfold lt;rw[ai,ai,ji he]
  have hsv: ∀e,e<v.length->lt (w++ws.flatten) (w.length+r+e)=lt v e:=λe he=>by
   rw[<-r3 e he];unfold lt;rw[ai,ai,jk G,show w.length+r+e-w.length=r+e by omega]
  have hlv:=hws v hv
  have q2: ∀e,e<d->lt (w++ws.flatten) e=lt v e:=λe he=>by
   have:=d2 e he;rwa[hs _ G,hs _ G,hsv e G] at this
  have q3:lt (w++ws.flatten) d<lt v d:=by rwa[hs _ G,hs _ G,hsv d G] at d3
  rcases gp d w.length with g|g
  ·refine nw v hv ⟨d,λe he=> ?_,?_⟩
   ·rw[PE (w:=w) G,PE (w:=v) G,<-q2 e he,w7 e G]
   ·rw [PE (w:=w) g,PE (w:=v) G,<-w7 d g];exact q3
  ·exact nw v hv (longer fb hlv G λe he=>by rw[<-q2 e G,w7 e he])
theorem aLl: ∀ {ws:AD},(∀v∈ws,pW v=true)->ws.Pairwise (λa b=> ¬Lt (om a) (om b))->dS ws.flatten=ws.map λw=>(w.length:Int)
 |[],_,_=>QF rfl
 |w::ws,hl,hp=>by
  obtain⟨h1,h2⟩:=ja.1 hp;have hw:=hl w cD;have fb:=((kV w).1 hw).1;have hf:=aQn hw (λv hv=>hl v (gm _ hv)) h1;rw[oq,IY (by rw[ah];omega),hf,Gn,jm,aLl (λv hv=>hl v (gm _ hv)) h2];rfl
theorem aGi (ws:AD) (k:Nat):ps (ws.map λw=>(w.length:Int)) k=((ws.take k).flatten.length:Int):=by
 unfold ps;rw[dh,<-Cu]
 induction ws.take k with
 |nil=>rfl
 |cons w l ih=>rw[jm,uo,ih,oq,ah];omega
theorem aRl (ws:AD):iQ ws.flatten (ws.map λw=>(w.length:Int)) ws.length=ws:=by
 refine ul (by rw[vI];omega) λk h1 h2=> ?_;simp only[iQ,yt,xk];rw[aGi,dh,jK (by rw[bu];exact h2),yt,dh]
 have e:ws.flatten=(ws.take k).flatten++(ws[k]++(ws.drop (k+1)).flatten):=by
  conv=>lhs;rw[<-gz k ws,mf h2]
  rw[mh,oq]
 rw[e,Gn rfl,Gq rfl]
theorem VS {ws:AD} (hl: ∀v∈ws,pW v=true) (hp:ws.Pairwise (λa b=> ¬Lt (om a) (om b))):bws ws.flatten=ws:=by
 unfold bws;rw[aLl hl hp,bu];exact aRl ws
end Go.Pure
namespace Go.Pure
open Go Go.Eng
section
variable {l:AH}
def gU (l:AH):AD:=((dA (lfL l)).reverse).map (eB l)
theorem aJc (l:AH):backL l (dA (lfL l))=(gU l).flatten:=rfl
theorem EA (hl:aO l) {c:AH} (hc:c∈dA (lfL l)): ∃i:Int,(0<=i/\i<l.length)/\Ring (lfL l) i c/\rd c 0=i:=by
 obtain⟨i,h,r⟩:=(aIb (lK hl)).ring c hc;rw[mV] at h;exact⟨i,h,r,r.at_ 0 r.pos⟩
theorem zG (hl:aO l): ∀v∈gU l,pW v=true:=λv hv=>by
 obtain⟨c,hc,rfl⟩:=ii.1 hv;obtain⟨i,h,r,_⟩:=EA hl (yu.1 hc);exact aUv hl h.1 h.2 r
theorem NZ (hl:aO l):(gU l).Pairwise (λa b=> ¬Lt (om a) (om b)):=by
 unfold gU;rw[Fa];refine Ew.2 (ik.2 ?_);refine lm (λ{c d} hc hd h=> ?_) (aIb (lK hl)).heads;obtain⟨i,hi,r,e⟩:=EA hl hc;obtain⟨k,hk,q,f⟩:=EA hl hd;rw[MO hl hi.1 hi.2 r,MO hl hk.1 hk.2 q];exact aSq hl hi.1 G hk.2
theorem GA (hl:aO l):bws (backL l (dA (lfL l)))=gU l:=by
 rw[aJc];exact VS (zG hl) (NZ hl)
theorem bHe {ws:AD} {w:Int} {j:Nat}:tw ws (w,(j:Int))=λd=>om (rdl ws w) (j+d):=by
 funext d;unfold tw om;simp only[dh]
theorem UE (hl:aO l) {i:Int} {c:AH} (i0:0<=i) (hi:i<l.length) (hc:Ring (lfL l) i c):((List.range c.length).map λj=>kD l j i).Perm c:=by
 have fb:=hc.pos
 have m5: ∀j,j<c.length->kD l j i=rd c (((c.length-j)%c.length:Nat):Int):=λj hj=>by
  rw[zF hl i0 hi hc G];rcases fo j with z|z
  ·subst z;rw[yg,hc.close,Nat.mod_self,hc.at_ 0 fb];rfl
  ·rw[lv G,hc.at_ _ G]
 refine sG ?_ (λx hx=> ?_) cD
 ·refine ik.2 (lm (λ{a b} ha hb yr e=> ?_) xu);have ha:=jy.1 ha;have hb:=jy.1 hb;rw[m5 a ha,m5 b hb] at e;have h1:=yw (c.length-a) fb;have h2:=yw (c.length-b) fb;have:=kM hc.nodup G G G G e;have e3:(c.length-a)%c.length=(c.length-b)%c.length:=G
  refine yr ?_;rcases fo a with z|z
  ·rcases fo b with y|y
   ·omega
   ·rw[z,yg,Nat.mod_self,lv G] at e3;omega
  ·rcases fo b with y|y
   ·rw[y,yg,Nat.mod_self,lv G] at e3;omega
   ·rw[lv G,lv G] at e3;omega
 ·obtain ⟨j,hj,rfl⟩:=ii.1 hx;have hj:=jy.1 hj;have h1:=yw (c.length-j) fb;rw[m5 j hj];exact bG G G
theorem vM (hl:aO l): ∀k:Nat,k<=(dA (lfL l)).length->((gG (gU l) k).map (tw (gU l))).Perm (((((dA (lfL l)).reverse).take k).flatten).map (U l))
 |0,_=> .refl _
 | k+1,hk=>by
  have ih:=vM hl k G;have br:k<(dA (lfL l)).reverse.length:=by rw[mo];omega
  rw[gG,jc,qy,av br,mh,jc];refine ih.append ?_;simp only[Bf,oq,Js,iw];have ft:(dA (lfL l)).reverse[k]∈dA (lfL l):=yu.1 (lu br)
  have Kd:rdl (gU l) (k:Int)=eB l (dA (lfL l)).reverse[k]:=by
   unfold rdl gU;rw[dh,ai,lq,av br];rfl
  generalize (dA (lfL l)).reverse[k]=c at ft Kd;obtain⟨i,hi,r,_⟩:=EA hl ft;have h1:=(UE hl hi.1 hi.2 r).map (U l);refine List.Perm.trans (.of_eq ?_) h1;rw[Kd,lQ];unfold turnsOf;rw[ql,ql];refine uu λj _=> ?_;show tw (gU l) ((k:Int),(j:Int))=U l (kD l j i);rw[bHe,Kd,MO hl hi.1 hi.2 r];funext d;rw[yT]
theorem zC (hl:aO l) {q:Int} (q0:0<=q) (hq:q<l.length): ∃m:Nat,0<m/\kD l m q=q:=by
 have hp:=uV (lK hl);obtain⟨c,hc,hqc⟩:=uf.1 (hp.symm.subset (aZ.2 ⟨q0,by rw[mV];exact hq⟩));obtain⟨i,hi,r,_⟩:=EA hl hc;obtain⟨j,hj,e⟩:=ii.1 ((UE hl hi.1 hi.2 r).symm.subset hqc);refine⟨c.length,r.pos,?_⟩;rw[<-e,<-qG,ve,qG,NW hl hi.1 hi.2 r]
theorem aAz {q:Int} {m:Nat} (h:kD l m q=q): ∀t:Nat,kD l (t*m) q=q
 |0=>by rw[Ce];rfl
 |t+1=>by rw[Cc,qG,aAz h t,h]
theorem YW {q:Int} {m t:Nat} (hm:kD l m q=q) (m0:0<m) (t0:0<t):U l q (m*t-1)=rd l q:=by
 have h:=aAz hm t;rw[Ag] at h;have fb:0<m*t:=Iq m0 t0;have h2:=yT (l:=l) q (m*t-1) 0;rw[rq,yS] at h2;rw[<-h2];have h3:=qG (l:=l) q (m*t-1) 1;rw[show m*t-1+1=m*t by omega,h] at h3;rw[show phi l (kD l (m*t-1) q)=kD l 1 (kD l (m*t-1) q) from rfl,<-h3]
theorem aNi (hl:aO l) {T:AE} (hp:T.Perm (gG (bws (backL l (dA (lfL l)))) (bws (backL l (dA (lfL l)))).length)) (ho:T.Pairwise (jR (bws (backL l (dA (lfL l)))))):T.map (lastB (bws (backL l (dA (lfL l)))))=l:=by
 rw[GA hl] at hp ho ⊢;have hlen:(gU l).length=(dA (lfL l)).length:=by unfold gU;rw[bu,mo]
 have h1:(T.map (tw (gU l))).Perm ((iota l.length).map (U l)):=by
  refine(hp.map _).trans ?_;rw[hlen];refine(vM hl _ (ed _)).trans ?_;rw[bg (by rw[mo];exact ed _)];have hc:=uV (lK hl);rw[mV] at hc;exact(((Ee _).flatten).trans hc).map _
 have s1:(T.map (tw (gU l))).Pairwise λa b=> ¬Lt b a:=ik.2 (ho.imp λ{t u} h br=>by
  rcases h with h|h
  ·exact h.asymm br
  ·exact br.not_eq λi=>(h.1 i).symm)
 have s2:((iota l.length).map (U l)).Pairwise λa b=> ¬Lt b a:=ik.2 (lm (λ{i k} hi hk h=>by
  have hi:=aZ.1 hi;have hk:=aZ.1 hk
  exact aSq hl hi.1 (Bw h) hk.2) (yD l.length))
 have same:T.map (tw (gU l))=(iota l.length).map (U l):=h1.eq_of_pairwise (λa b _ _ x y=>by
  rcases xZ a b with z|z|z
  ·exact absurd z y
  ·exact funext z
  ·exact absurd z x) s1 s2
 have Vd:T.length=l.length:=by
  have:=bq List.length same;rwa[bu,bu,bA] at this
 refine bI (by rw[bu];exact Vd) λq q0 q1=> ?_;rw[bu] at q1;rw[aKj q0 q1];have hv:=tO.1 (hp.subset (kL (l:=T) q0 q1))
 have hU:tw (gU l) (rdp T q)=U l q:=by
  have e1:(T.map (tw (gU l)))[q.toNat]? =some (tw (gU l) (rdp T q)):=by
   rw[lq,av G];unfold rdp;rw[ai,av G];rfl
  have e2:((iota l.length).map (U l))[q.toNat]? =some (U l q):=by
   rw[lq,av (by rw[bA];omega)];have:=vP (n:=l.length) q0 G;rw[gB q0 (by rw[bA];omega)] at this;rw[this];rfl
  rw[same,e2] at e1;exact(jg e1).symm
 obtain⟨m,m0,hm⟩:=zC hl q0 (by omega:q<l.length);obtain⟨a1,a2,a3,a4⟩:=hv;have wv:0<(rdl (gU l) (rdp T q).1).length:=G
 generalize b9:(rdl (gU l) (rdp T q).1).length=wl at wv a4;have ot:U l q (m*wl-1)=rd l q:=YW hm m0 wv;rw[<-ot,<-hU];have fb:0<m*wl:=Iq m0 wv;unfold lastB tw rd;rw[b9];congr 1;obtain⟨j,hj⟩: ∃j:Nat,(rdp T q).2=j:=⟨(rdp T q).2.toNat,G⟩;rw[hj,dh,show(j:Int)+(wl:Int)-1=((j+wl-1:Nat):Int) by omega,<-zo,dh]
 have e:j+(m*wl-1)=(j+wl-1)+wl*(m-1):=by
  obtain⟨m',rfl⟩: ∃m',m=m'+1:=⟨m-1,G⟩;rw[Cc,Hu,Ag wl m'];omega
 rw[e,Nat.add_mul_mod_self_left]
end
def aMi:AH:=(List.range 256).map λc:Nat=>(c:Int)
theorem UQ {x:Int}:x∈aMi↔0<=x/\x<256:=by
 unfold aMi;rw[ii];constructor
 ·rintro ⟨c,hc,rfl⟩;have:=jy.1 hc;omega
 ·intro h;exact⟨x.toNat,jy.2 G,G⟩
theorem aDy:aMi.Nodup:=ik.2 (List.Pairwise.imp (λh e=>h G) xu)
def YP:Nat->AD
 |0=>[[]]
 |n+1=>aMi.flatMap λc=>(YP n).map λw=>c::w
theorem qI: ∀ {n:Nat} {w:AH},w∈YP n↔w.length=n/\aO w
 |0,w=>by
  rw[YP,ig];exact⟨λh=>by subst h;exact⟨rfl,λx hx=>by cases hx⟩,λh=>dw h.1⟩
 | n+1,w=>by
  rw[YP,Az];constructor
  ·rintro ⟨c,hc,hw⟩;obtain⟨v,hv,rfl⟩:=ii.1 hw;have hv:=qI.1 hv;refine⟨by simp[hv.1],λx hx=> ?_⟩;rcases jd.1 hx with rfl|hx
   ·exact UQ.1 hc
   ·exact hv.2 x hx
  ·rintro ⟨hl,hb⟩;cases w with
   |nil=>simp at hl
   |cons c v=>exact⟨c,UQ.2 (hb c cD),ii.2 ⟨v,qI.2 ⟨by simpa using hl,λx hx=>hb x (gm _ hx)⟩,rfl⟩⟩
theorem RI: ∀n:Nat,(YP n).Nodup
 |0=>by rw[YP];exact qi _ _
 |n+1=>by
  rw[YP];refine List.pairwise_flatMap.2 ⟨λc _=>ik.2 ((RI n).imp λh e=>h (List.cons.inj e).2),aDy.imp λ{c d} h x hx y hy e=> ?_⟩;obtain⟨v,_,rfl⟩:=ii.1 hx;obtain⟨w,_,rfl⟩:=ii.1 hy;exact h (List.cons.inj e).1
theorem bBb {l k:AH} (hl:aO l) (hk:aO k) (hlen:l.length=k.length) (h:backL l (dA (lfL l))=backL k (dA (lfL k))):l=k:=by
 have hw:gU l=gU k:=by rw[<-GA hl,<-GA hk,h]
 have all: ∀ {x:AH},aO x->((gG (gU x) (gU x).length).map (tw (gU x))).Perm ((iota x.length).map (U x)):=λ{x} hx=>by
  have Zh:(gU x).length=(dA (lfL x)).length:=by unfold gU;rw[bu,mo]
  rw[Zh];refine(vM hx _ (ed _)).trans ?_;rw[bg (by rw[mo];exact ed _)];have hc:=uV (lK hx);rw[mV] at hc;exact(((Ee _).flatten).trans hc).map _
 have srt: ∀ {x:AH},aO x->((iota x.length).map (U x)).Pairwise λa b=> ¬Lt b a:=λ{x} hx=>ik.2 (lm (λ{i k} hi hk h=>by
  have hi:=aZ.1 hi;have hk:=aZ.1 hk
  exact aSq hx hi.1 (Bw h) hk.2) (yD x.length))
 have h1:=all hl;rw[hw] at h1
 have same:(iota l.length).map (U l)=(iota k.length).map (U k):=(h1.symm.trans (all hk)).eq_of_pairwise (λa b _ _ x y=>by
  rcases xZ a b with z|z|z
  ·exact absurd z y
  ·exact funext z
  ·exact absurd z x) (srt hl) (srt hk)
 refine bI hlen λq q0 q1=> ?_
 have at_: ∀ {x:AH},q<x.length->((iota x.length).map (U x))[q.toNat]? =some (U x q):=λ{x} hx=>by
  rw[lq,av (by rw[bA];omega)];have:=vP (n:=x.length) q0 hx;rw[gB q0 (by rw[bA];omega)] at this;rw[this];rfl
 have e:=at_ q1;rw[same,at_ G] at e;have eU:U k q=U l q:=jg e;obtain⟨m,m0,hm⟩:=zC hl q0 q1;obtain⟨m',m0',No⟩:=zC hk q0 (by omega:q<k.length);have a:=YW hm m0 m0';have b:=YW No m0' m0;rw[Ag,eU,a] at b;exact b
theorem VV {s:AH} (hs:aO s): ∃l:AH,aO l/\l.length=s.length/\backL l (dA (lfL l))=s:=by
 have hp:((YP s.length).map λl=>backL l (dA (lfL l))).Perm (YP s.length):=by
  refine sG ?_ (λx hx=> ?_) cD
  ·refine ik.2 (lm (λ{a b} ha hb yr e=> ?_) (RI _));have ha:=qI.1 ha;have hb:=qI.1 hb;exact yr (bBb ha.2 hb.2 G e)
  ·obtain ⟨l,hl,rfl⟩:=ii.1 hx;have hl:=qI.1 hl;exact qI.2 ⟨by rw[aSk,aDc (lK hl.2),mV,hl.1],aSl hl.2 _⟩
 obtain⟨l,hl,e⟩:=ii.1 (hp.symm.subset (qI.2 ⟨rfl,hs⟩));have hl:=qI.1 hl;exact⟨l,hl.2,hl.1,e⟩
theorem aSj {s:AH} (hs:aO s) {T:AE} (hp:T.Perm (gG (bws s) (bws s).length)) (ho:T.Pairwise (jR (bws s))):backL (T.map (lastB (bws s))) (dA (lfL (T.map (lastB (bws s)))))=s:=by
 obtain⟨l,hl,_,e⟩:=VV hs;subst e;rw[aNi hl hp ho]
end Go.Pure
namespace Go.Pure
open Go Go.Eng
section
variable {t o:Int} {n k:Nat} {u w:AH}
noncomputable def lZ (t o:Int) (n:Nat) (u:AH) (k:Nat):AH:=
 (((List.range (chK u.length n)).drop k).map λj=>cB t o ((u.drop (j*n)).take n)).flatten++(aV 0++aV u.length)
theorem aOq (h:chK u.length n<=k):lZ t o n u k=aV 0++aV u.length:=by
 unfold lZ;rw[xx (by rw[yc];exact h)];rfl
theorem aGa (h:k<chK u.length n):lZ t o n u k=cB t o ((u.drop (k*n)).take n)++lZ t o n u (k+1):=by
 unfold lZ;rw[mf (by rw[yc];exact h),jm,oq,xk,dx]
theorem aQz (t so o sz:Int) (u:AH):sO t so o sz u=[87,72,82,76,1]++([t,so,o]++(aV sz++lZ t o sz.toNat u 0)):=by
 unfold sO lZ lX;rw[Hr];simp
theorem bLh {m:Nat} (hn:1<=n):k<chK m n↔k*n<m:=by
 unfold chK;rw[Nat.lt_iff_add_one_le,Nat.le_div_iff_mul_le hn,yl,Ah];omega
theorem aO.back {x y:AH} (h:aO (x++y)):aO y:=λz hz=>h z (List.mem_append_right _ hz)
theorem sN {so sz:Int} (hu:aO u) (hS:u.length<=400) (ht:0<=t/\t<256) (hs:0<=so/\so<256) (ho:0<=o/\o<256) (hz:1<=sz/\sz<=16777216):aO (sO t so o sz u)/\(sO t so o sz u).length<=400000:=by
 have e1:=nK (t:=t) (o:=o) (n:=sz.toNat) hu G (chK u.length sz.toNat);have e2:chK u.length sz.toNat<=u.length:=aIn G;have e3:(2*u.length+22)*chK u.length sz.toNat<=822*400:=Bu G G;have e4:=bU 4 sz G;have e5:=bU 4 (u.length:Int) G;have e6:(aV 0).length=1:=rfl;unfold sO;refine⟨λx hx=> ?_,by simp only[ah,dn,il];omega⟩;rcases ek.1 hx with hx|hx
 ·rcases ek.1 hx with hx|hx
  ·rcases ek.1 hx with hx|hx
   ·simp only[iy,iv,jd,vz,Ih] at hx;omega
   ·exact dF G x hx
  ·exact e1.2 x hx
 ·rcases ek.1 hx with hx|hx
  ·exact dF G x hx
  ·exact dF G x hx
def sZ (w:AH) (n k:Nat):AH:=(w.drop (k*n)).take n
theorem bAp (w:AH) (n k:Nat):(sZ w n k).length=min n (w.length-k*n):=by unfold sZ;rw[ax,bn]
theorem aRu (w:AH) (n k:Nat):w.take ((k+1)*n)=w.take (k*n)++sZ w n k:=by
 unfold sZ;rw[yl,Ah,Jg]
theorem aIm (h:aO w) (n k:Nat):aO (sZ w n k):=(h.drop _).take _
noncomputable def oK (t o:Int) (b r:AH):AH:=(nD t b).1++(aV (bM (nD t b).2 o).length++(eG (bv (fT b))++(bM (nD t b).2 o++r)))
theorem aGb (h:k<chK w.length n):lZ t o n w k=aV (sZ w n k).length++oK t o (sZ w n k) (lZ t o n w (k+1)):=by
 rw[aGa h];unfold cB oK sZ;simp only[dx]
theorem aAb {α:Type} {r:α->α->Prop} (tr: ∀a b c,r a b->r b c->r a c) (a:α): ∀m:List α,m.Pairwise r->(∀b∈m,r a b\/r b a)-> ∃m':List α,m'.Perm (a::m)/\m'.Pairwise r
 |[],_,_=>⟨[a], .refl _,qi _ _⟩
 | b::m,hm,hr=>by
  obtain⟨h1,h2⟩:=ja.1 hm;rcases hr b cD with h|h
  ·exact⟨a::b::m, .refl _,ja.2 ⟨λc hc=>by
    rcases jd.1 hc with rfl|hc
    ·exact h
    ·exact tr _ _ _ h (h1 c hc),hm⟩⟩
  ·obtain ⟨m',hp,hs⟩:=aAb tr a m h2 λc hc=>hr c (gm _ hc);refine⟨b::m',(hp.cons b).trans (.swap a b m),ja.2 ⟨λc hc=> ?_,hs⟩⟩;rcases jd.1 (hp.subset hc) with rfl|hc
   ·exact h
   ·exact h1 c hc
theorem aAc {α:Type} {r:α->α->Prop} (tr: ∀a b c,r a b->r b c->r a c): ∀l:List α,(l.Pairwise λa b=>r a b\/r b a)-> ∃m:List α,m.Perm l/\m.Pairwise r
 |[],_=>⟨[], .refl _, .nil⟩
 |a::l,h=>by
  obtain⟨h1,h2⟩:=ja.1 h;obtain⟨m,hp,hs⟩:=aAc tr l h2;obtain⟨m',cr,en⟩:=aAb tr a m hs λb hb=>h1 b (hp.subset hb);exact⟨m',cr.trans (hp.cons a),en⟩
theorem aWg {ws:AD} {t u:Int × Int} (h:t≠u):jR ws t u\/jR ws u t:=by
 rcases xZ (tw ws t) (tw ws u) with a|a|a
 ·exact .inl (.inl a)
 ·have hd:t.1≠u.1\/t.2≠u.2:=by
   rcases Int.decEq t.1 u.1 with c|c
   ·exact .inl c
   ·exact .inr λe=>h (Prod.ext c e)
  have:ltI t u\/ltI u t:=by unfold ltI;omega
  rcases this with g|g
  ·exact .inl (.inr ⟨a,g⟩)
  ·exact .inr (.inr ⟨λi=>(a i).symm,g⟩)
 ·exact .inr (.inl a)
theorem AJ (ws:AD): ∃T:AE,T.Perm (gG ws ws.length)/\T.Pairwise (jR ws):=
 aAc (r:=jR ws) (λ_ _ _ h g=>PC h g) _ ((xE ws _).imp λh=>aWg h)
end
section
variable {w r a b l:AH} {k:Nat} {ws:AD} {T:AE}
def ER (w:AH):List (Nat->Int):=(List.range w.length).map λj=>rot w j
def EW (ws:AD):List (Nat->Int):=ws.flatMap ER
theorem NE (ws:AD): ∀k:Nat,k<=ws.length->(gG ws k).map (tw ws)=EW (ws.take k)
 |0,_=>rfl
 | k+1,hk=>by
  have ih:=NE ws k G;rw[gG,jc,ih,qy,av G];unfold EW;rw[Co];congr 1;simp only[Bf,Ae,List.flatMap_nil,iw]
  have e:rdl ws (k:Int)=ws[k]:=by
   unfold rdl;rw[dh,ai,av G];rfl
  unfold turnsOf ER;rw[ql,e];refine uu λj _=> ?_;show tw ws ((k:Int),(j:Int))=rot ws[k] j;rw[bHe,e];rfl
theorem aJk (a b:AD):EW (a++b)=EW a++EW b:=Co
theorem aMv {a b:AD} (h:a.Perm b):(EW a).Perm (EW b):=h.flatMap_right _
theorem bDa (u:AH) (q:Nat):rot u (q+u.length)=rot u q:=by
 rw[<-DU (q+u.length),Io,DU]
theorem aUl (u:AH) (q k:Nat):rot u (k*u.length+q)=rot u q:=by
 rw[<-DU (k*u.length+q),ve,Nat.add_mul_mod_self_right,DU]
theorem bGw {r:Nat} (hr:r<=w.length) (hn:0<w.length):(ER (lH w r)).Perm (ER w):=by
 have hl:=oO w r
 have e:ER (lH w r)=(ER w).drop r++(ER w).take r:=by
  refine ul (by unfold ER;simp[hl];omega) λj h1 h2=> ?_;unfold ER at h1 h2 ⊢;rw[bu,yc,hl] at h1;rw[yt,xk,WV hr hn];rcases gp j (w.length-r) with g|g
  ·rw[List.getElem_append_left (by simp;exact g),Af,yt,xk]
  ·rw [List.getElem_append_right cH,wo,yt,xk];simp only[bn,bu,yc];rw[<-bDa w (j-(w.length-r))];congr 1;omega
 rw[e];refine rf.trans ?_;rw[gz]
theorem bCz (hr:0<r.length) (hk:0<k) (q:Nat):rot (rep r k) q=rot r q:=by
 funext d;show om (rep r k) (q+d)=om r (q+d);exact aWn hr hk _
theorem bLw (hr:0<r.length) (hk:0<k):ER (rep r k)=EW (List.replicate k r):=by
 have h1: ∀m:Nat,(List.range (m*r.length)).map (λj=>rot r j)=EW (List.replicate m r):=λm=>by
  induction m with
  |zero=>simp[EW]
  |succ m ih=>
   rw[Bt,aJk,Cc,List.range_add,jc,ih,ql];congr 1;unfold EW ER;simp only[Ae,List.flatMap_nil,iw];exact uu λj _=>aUl r j m
 rw[<-h1 k];unfold ER;rw[oV,dh];exact uu λj _=>bCz hr hk j
def KV (rs:List RT):AD:=rs.flatMap λr=>List.replicate r.2.toNat r.1
def exs (ws:AD):AD:=KV (fV ws)
theorem bGx (hw:0<w.length):(ER w).Perm (EW (List.replicate (mG w).2.toNat (mG w).1)):=by
 have hb:=XM w;have hl:=kQ w
 have h1:(ER (lw w)).Perm (ER w):=by
  have:=bGw (w:=w) (r:=(oL w).toNat) G hw;rwa[mg hb.1] at this
 have h2:=tJ (c:=lw w) G;have ht:=rE (c:=lw w) G;have hr:=DV (c:=lw w) G;have hp:=nZ (u:=lw w) G;have h3:=bLw (r:=jX (lw w)) (k:=(gM (lw w)).toNat) G G;rw[mg G,h2] at h3;rw[h3] at h1;exact h1.symm
theorem aEl: ∀ws:AD,(EW ws).Perm (EW (KV (dL ws)))
 |[]=> .refl _
 | w::ws=>by
  have ih:=aEl ws;rw[show w::ws=[w]++ws from rfl,aJk,lI];unfold KV;rw[Co,aJk];refine List.Perm.append ?_ ih;by_cases h:0<w.length
  ·have e:dL [w]=[mG w]:=by unfold dL;simp[h]
   rw[e];have:=bGx h;unfold EW at this ⊢;simpa using this
  ·have e:dL [w]=[]:=by unfold dL;simp[h]
   have e2:w=[]:=dw G;rw[e,e2];unfold EW ER;simp
theorem bLv (ws:AD):(EW ws).Perm (EW (exs ws)):=by
 refine(aEl ws).trans (aMv ?_);unfold exs KV;exact(jB ws).symm.flatMap_right _
theorem aUm (hw:0<w.length):pW (mG w).1=true:=by
 have hc:0<(lw w).length:=by rw[kQ];exact hw
 generalize Eq:lw w=c at hc;have hz:oL c=0:=by rw[<-Eq];exact bEt w
 have nw: ∀q,¬Lt (rot c q) (om c):=λq=>by
  have fl:=zP hc;have:=fl.any q
  have e0:jD c c.length=0:=by
   have:(jD c c.length:Int)=0:=hz;omega
  rw[e0] at this;have e1:rot c 0=om c:=by funext d;show om c (0+d)=_;rw[ny]
  rwa[e1] at this
 obtain⟨p,hp,p1,p2,ho,Sc⟩:=WY hc
 have Xf:(mG w).1=c.take p:=by
  show jX (lw w)=_;rw[Eq];unfold jX;rw[hp];rfl
 rw[Xf];have Wo:om c=om (c.take p):=funext ho;generalize hr:c.take p=r at Wo;have Jx:r.length=p:=by rw[<-hr,ax];omega
 have Xg: ∀q,rot c q=rot r q:=λq=>by
  funext d;show om c (q+d)=om r (q+d);rw[Wo]
 have br: ∀j,0<j->j<p->Lt (om r) (rot r j):=λj j0 hj=>by
  rcases xZ (om r) (rot r j) with a|a|a
  ·exact a
  ·exfalso
   have:Per (om c) j:=λi=>by
    have:=a i;rw[Wo,this];show om r (i+j)=om r (j+i);rw[ve]
   have:=Sc j j0 this;omega
  ·have:=nw j;rw[Xg,Wo] at this;exact absurd a this
 rw[kV];refine⟨G,λj j0 hj=> ?_⟩;rw[oH _ _ (by rw[bn];omega)];obtain⟨d,h1,h2⟩:=br j j0 G
 have Pz: ∀e,lt (r.drop j) e=lt r (j+e):=λe=>by
  unfold lt;rw[ai,ai,sj]
 have ns: ∀e,rot r j e=om r (j+e):=λe=>rfl;rcases gp d (p-j) with g|g
 ·refine ⟨d,by rw[bn];omega,λe he=> ?_,?_⟩
  ·have:=h1 e he;rw[ns,qH G,qH G] at this;rw[Pz];exact this
  ·rw [ns,qH G,qH G] at h2;rw[Pz];exact h2
 ·exfalso;have:=nw (p-j);rw[Xg,Wo] at this;have nj:=qO r;rw[Jx] at nj;refine this ⟨d-(p-j),λi hi=> ?_,?_⟩
  ·have h3:=h1 (p-j+i) G;rw[ns,show j+(p-j+i)=i+p by omega,nj] at h3;exact h3
  ·have h3:=h2;rw[ns,show j+d=(d-(p-j))+p by omega,nj] at h3;show om r (p-j+(d-(p-j)))<om r (d-(p-j));rw[show p-j+(d-(p-j))=d by omega];exact h3
theorem QS: ∀a b:AH,cmpL a b<0->(∃d,d<a.length/\d<b.length/\(∀e,e<d->lt a e=lt b e)/\lt a d<lt b d)\/a.length<b.length/\ ∀e,e<a.length->lt a e=lt b e
 |[],[],h=>by simp[cmpL] at h
 |[],y::b,_=> .inr ⟨cD,λe he=>by simp at he⟩
 |_::_,[],h=>by simp[cmpL] at h
 | x ::a,y::b,h=>by
  rw[cmpL] at h;split at h
  ·rename_i c;exact .inl ⟨0,cD,cD,λe he=>G,c⟩
  ·split at h
   ·omega
   ·have Pl:x=y:=G
    rcases QS a b h with⟨d,h1,h2,h3,h4⟩|⟨h1,h2⟩
    ·refine .inl ⟨d+1,cH,cH,λe he=> ?_,?_⟩
     ·rcases e with _|e
      ·exact Pl
      ·exact h3 e G
     ·exact h4
    ·refine .inr ⟨cH,λe he=> ?_⟩;rcases e with _|e
     ·exact Pl
     ·exact h2 e (by simp at he;omega)
theorem aWy (ha:0<a.length) (hb:pW b=true) (h:cmpL a b<0):Lt (om a) (om b):=by
 rcases QS a b h with⟨d,h1,h2,h3,h4⟩|⟨h1,h2⟩
 ·exact⟨d,λe he=>by rw[qH G,qH G];exact h3 e he,by rw[qH h1,qH h2];exact h4⟩
 ·exact longer ha hb h1 λe he=>(h2 e he).symm
theorem aWz (ha:pW a=true) (hb:pW b=true):cmpL a b<=0↔ ¬Lt (om b) (om a):=by
 have mw:=((kV a).1 ha).1;have j9:=((kV b).1 hb).1;constructor
 ·intro h;rcases Be h with g|g
  ·exact(aWy mw hb g).asymm
  ·rw[(cmpL_eq a b).1 g];exact λh=>h.asymm h
 ·intro h;rcases cz 0 (cmpL a b) with g|g
  ·exact absurd (aWy j9 ha (by rw[lW a b];omega)) h
  ·exact g
theorem aFs (l:AH):(dA (lfL l)).map (eB l)=(gU l).reverse:=by
 unfold gU;rw[Fa,Gc]
theorem bGv (hl:aO l):(EW (gU l)).Perm ((iota l.length).map (U l)):=by
 have hlen:(gU l).length=(dA (lfL l)).length:=by unfold gU;rw[bu,mo]
 have h0:=NE (gU l) (gU l).length (ed _);rw[qc] at h0;rw[<-h0,hlen];refine(vM hl _ (ed _)).trans ?_;rw[bg (by rw[mo];exact ed _)];have hc:=uV (lK hl);rw[mV] at hc;exact(((Ee _).flatten).trans hc).map _
theorem ZN (hl:aO l) (hp:T.Perm (gG ws ws.length)) (ho:T.Pairwise (jR ws)) (hE:(EW ws).Perm (EW (gU l))):T.map (lastB ws)=l:=by
 have h1:(T.map (tw ws)).Perm ((iota l.length).map (U l)):=by
  refine(hp.map _).trans ?_;have h0:=NE ws ws.length (ed _);rw[qc] at h0;rw[h0];exact hE.trans (bGv hl)
 have s1:(T.map (tw ws)).Pairwise λa b=> ¬Lt b a:=ik.2 (ho.imp λ{t u} h br=>by
  rcases h with h|h
  ·exact h.asymm br
  ·exact br.not_eq λi=>(h.1 i).symm)
 have s2:((iota l.length).map (U l)).Pairwise λa b=> ¬Lt b a:=ik.2 (lm (λ{i k} hi hk h=>by
  have hi:=aZ.1 hi;have hk:=aZ.1 hk
  exact aSq hl hi.1 (Bw h) hk.2) (yD l.length))
 have same:T.map (tw ws)=(iota l.length).map (U l):=h1.eq_of_pairwise (λa b _ _ x y=>by
  rcases xZ a b with z|z|z
  ·exact absurd z y
  ·exact funext z
  ·exact absurd z x) s1 s2
 have Vd:T.length=l.length:=by
  have:=bq List.length same;rwa[bu,bu,bA] at this
 refine bI (by rw[bu];exact Vd) λq q0 q1=> ?_;rw[bu] at q1;rw[aKj q0 q1];have hv:=tO.1 (hp.subset (kL (l:=T) q0 q1))
 have hU:tw ws (rdp T q)=U l q:=by
  have e1:(T.map (tw ws))[q.toNat]? =some (tw ws (rdp T q)):=by
   rw[lq,av G];unfold rdp;rw[ai,av G];rfl
  have e2:((iota l.length).map (U l))[q.toNat]? =some (U l q):=by
   rw[lq,av (by rw[bA];omega)];have:=vP (n:=l.length) q0 G;rw[gB q0 (by rw[bA];omega)] at this;rw[this];rfl
  rw[same,e2] at e1;exact(jg e1).symm
 obtain⟨m,m0,hm⟩:=zC hl q0 (by omega:q<l.length);obtain⟨a1,a2,a3,a4⟩:=hv;have wv:0<(rdl ws (rdp T q).1).length:=G
 generalize b9:(rdl ws (rdp T q).1).length=wl at wv a4;have ot:U l q (m*wl-1)=rd l q:=YW hm m0 wv;rw[<-ot,<-hU];have fb:0<m*wl:=Iq m0 wv;unfold lastB tw rd;rw[b9];congr 1;obtain⟨j,hj⟩: ∃j:Nat,(rdp T q).2=j:=⟨(rdp T q).2.toNat,G⟩;rw[hj,dh,show(j:Int)+(wl:Int)-1=((j+wl-1:Nat):Int) by omega,<-zo,dh]
 have e:j+(m*wl-1)=(j+wl-1)+wl*(m-1):=by
  obtain⟨m',rfl⟩: ∃m',m=m'+1:=⟨m-1,G⟩;rw[Cc,Hu,Ag wl m'];omega
 rw[e,Nat.add_mul_mod_self_left]
theorem YB {ws:AD}: ∀v∈exs ws,pW v=true:=λv hv=>by
 obtain⟨r,hr,h⟩:=Az.1 hv;obtain⟨_,rfl⟩:=Dj.1 h;obtain⟨w,_,hw,rfl⟩:=rH hr;exact aUm hw
theorem KD: ∀ {rs:List RT},rs.Pairwise (λa b=>kU a b<=0)->(KV rs).Pairwise λa b=>cmpL a b<=0
 |[],_=> .nil
 |r::rs,h=>by
  obtain⟨h1,h2⟩:=ja.1 h;have ih:=KD h2;show(List.replicate r.2.toNat r.1++KV rs).Pairwise _;rw[ku];refine⟨List.pairwise_replicate.2 (.inr (by rw[(cmpL_eq r.1 r.1).2 rfl];omega)),ih,λa ha b hb=> ?_⟩;obtain⟨_,rfl⟩:=Dj.1 ha;obtain⟨q,hq,hqb⟩:=Az.1 hb;obtain⟨_,rfl⟩:=Dj.1 hqb;have:=yC.1 (h1 q hq);rcases this with g|g
  ·omega
  ·rw[(cmpL_eq _ _).2 g.1];omega
theorem aQp {ws:AD} (hb: ∀w∈ws,aO w): ∀v∈exs ws,aO v:=λv hv=>by
 obtain⟨r,hr,h⟩:=Az.1 hv;obtain⟨_,rfl⟩:=Dj.1 h;obtain⟨w,h1,hw,rfl⟩:=rH hr;have h2:=hb w h1;exact(aO.append (h2.drop _) (h2.take _)).take _
theorem MZ {ws:AD} (hb: ∀w∈ws,aO w) (hp:T.Perm (gG ws ws.length)) (ho:T.Pairwise (jR ws)):(dA (lfL (T.map (lastB ws)))).map (eB (T.map (lastB ws)))=exs ws/\ ∀(xs:AD) (T':AE),exs xs=exs ws->T'.Perm (gG xs xs.length)->T'.Pairwise (jR xs)->T'.map (lastB xs)=T.map (lastB ws):=by
 have hlyn: ∀v∈(exs ws).reverse,pW v=true:=λv hv=>YB v (yu.1 hv);have Vw:(exs ws).reverse.Pairwise λa b=> ¬Lt (om a) (om b):=Ew.2 (lm (λ{a b} ha hb h=>(aWz (YB a ha) (YB b hb)).1 h) (KD (qX ws)))
 have k6:aO (exs ws).reverse.flatten:=λx hx=>by
  obtain⟨v,hv,hxv⟩:=uf.1 hx;exact aQp hb v (yu.1 hv) x hxv
 have va:=VS hlyn Vw;obtain⟨l,hl,_,m5⟩:=VV k6;have Kd:gU l=(exs ws).reverse:=by rw[<-GA hl,m5,va]
 have hE: ∀xs:AD,exs xs=exs ws->(EW xs).Perm (EW (gU l)):=λxs e=>by
  refine(bLv xs).trans ?_;rw[Kd,e];exact aMv (Ee _).symm
 have hT:=ZN hl hp ho (hE ws rfl);rw[hT];exact⟨by rw[aFs,Kd,Gc],λxs T' e cr ho'=>ZN hl cr ho' (hE xs e)⟩
end
section
variable {ws:AD} {L L' TS Yo l:AH} {e e':Int}
def lN:AD->AH->Int->AH->Option (AD)
 |all,_,_,[]=>if 0<all.length then none else some []
 |all,last,mc,n::ts=>if n<1\/(all.length:Int)<n then none else if rdl all (n-1)≠rdl all 0\/last=rdl all 0/\n<mc then none else(lN (all.drop n.toNat) (rdl all 0) n ts).map λp=>rep (rdl all 0) n::p
theorem JV {n:Nat} {r:AH} {e:AD} {i:Int} (h0:0<=i) (h1:i<n):rdl (List.replicate n r++e) i=r:=by
 unfold rdl;rw[ai,ji (by rw[bz];omega),zf,dm G];rfl
theorem aQq (r:RT) (rs:List RT):KV (r::rs)=List.replicate r.2.toNat r.1++KV rs:=rfl
theorem aCo: ∀ {rs:List RT} {last:AH} {mc:Int},rs.Pairwise (λa b=>kU a b<=0)->(∀r∈rs,1<=r.2)->(∀r∈rs,last=r.1->mc<=r.2)->lN (KV rs) last mc (rs.map Prod.snd)=some (rs.map GX)
 |[],_,_,_,_,_=>rfl
 | r::rs,last,mc,hs,h1,hl=>by
  obtain⟨s1,s2⟩:=ja.1 hs;have hr:=h1 r (.head _);rw[aQq,jm,lN];have hlen:(List.replicate r.2.toNat r.1++KV rs).length=r.2.toNat+(KV rs).length:=cD
  rw[df G,JV G G,JV G G]
  rw[df (by
   rintro(h|⟨h,h2⟩)
   ·exact h rfl
   ·have:=hl r (.head _) h;omega)]
  rw[Gn cD,aCo s2 (λq hq=>h1 q (.tail _ hq)) (λq hq e=>by
   have:=yC.1 (s1 q hq);rcases this with g|g
   ·rw[(cmpL_eq r.1 q.1).2 e] at g;omega
   ·exact g.2)]
  rfl
def ExtR (ws:AD) (L TS:AH) (e:Int):Prop:=
 (e=2/\(1000<ws.length\/100000<ws.flatten.length)/\L=[]/\TS=[])\/
 (¬(1000<ws.length\/100000<ws.flatten.length)/\e=1/\(∃w∈ws,w.length=0)/\L=[]/\TS=[])\/
 (¬(1000<ws.length\/100000<ws.flatten.length)/\e=0/\(∀w∈ws,0<w.length)/\(∃T:AE,T.Perm (gG ws ws.length)/\T.Pairwise (jR ws)/\L=T.map (lastB ws))/\TS=(fV ws).map Prod.snd)
theorem ExtR.same {ws xs:AD} (h:ExtR ws L TS e) (h':ExtR xs L' Yo e') (hb: ∀w∈ws,aO w) (hl:xs.length=ws.length) (hf:xs.flatten.length=ws.flatten.length) (hz:(∃w∈xs,w.length=0)↔ ∃w∈ws,w.length=0) (hr:(dL xs).Perm (dL ws)):e'=e/\L'=L/\Yo=TS:=by
 have hS:=aAp hr;unfold ExtR at h';rw[hl,hf,hz,hS] at h';rcases h with⟨rfl,c,rfl,rfl⟩|⟨c,rfl,d,rfl,rfl⟩|⟨c,rfl,d,⟨T,hp,ho,rfl⟩,rfl⟩
 ·rcases h' with⟨rfl,_,rfl,rfl⟩|⟨c',_⟩|⟨c',_⟩
  ·exact⟨rfl,rfl,rfl⟩
  ·exact absurd c c'
  ·exact absurd c c'
 ·rcases h' with⟨_,c',_⟩|⟨_,rfl,_,rfl,rfl⟩|⟨_,_,d',_⟩
  ·exact absurd c' c
  ·exact⟨rfl,rfl,rfl⟩
  ·have d2:=hz.2 d;obtain⟨w,hw,e⟩:=d2;have:=d' w hw;omega
 ·rcases h' with⟨_,c',_⟩|⟨_,_,d',_⟩|⟨_,rfl,_,⟨T',cr,ho',rfl⟩,rfl⟩
  ·exact absurd c' c
  ·obtain ⟨w,hw,e⟩:=d';have:=d w hw;omega
  ·refine⟨rfl,(MZ hb hp ho).2 xs T' (by unfold exs;rw[hS]) (by rw[hl] at*;exact cr) ho',rfl⟩
theorem ExtR.one {ws:AD} (h:ExtR ws L TS e) (h':ExtR ws L' Yo e') (hb: ∀w∈ws,aO w):e'=e/\L'=L/\Yo=TS:=h.same h' hb rfl rfl Iff.rfl (.refl _)
theorem aNc {l:AH} (hl:aO l): ∀v∈(dA (lfL l)).map (eB l),pW v=true:=λv hv=>by
 rw[aFs] at hv;exact zG hl v (yu.1 hv)
theorem ZE (hl:aO l):((dA (lfL l)).map (eB l)).Pairwise λa b=>cmpL a b<=0:=by
 rw[aFs];refine Ew.2 (lm (λ{a b} ha hb h=> ?_) (NZ hl));exact(aWz (zG hl b hb) (zG hl a ha)).2 h
theorem VI (hl:aO l):((dA (lfL l)).map (eB l)).flatten.length=l.length:=by
 have hc:=uV (lK hl);rw[mV] at hc;have h1:=hc.length_eq;rw[bA] at h1
 have h2: ∀cs:AD,(cs.map (eB l)).flatten.length=cs.flatten.length:=λcs=>by
  induction cs with
  |nil=>rfl
  |cons c cs ih=>rw[jm,oq,oq,ah,ah,ih,lQ]
 rw[h2,h1]
end
section
variable {ws:AD} {L TS:AH}
open Classical in
noncomputable def aYr (ws:AD):AH × AH:=if h: ∃p:AH × AH,ExtR ws p.1 p.2 0 then Classical.choose h else([],[])
theorem MC {ws:AD} (h:ExtR ws L TS 0) (hb: ∀w∈ws,aO w):aYr ws=(L,TS):=by
 have he: ∃p:AH × AH,ExtR ws p.1 p.2 0:=⟨(L,TS),h⟩;unfold aYr;rw[dif_pos he];obtain⟨_,h1,h2⟩:=h.one (Classical.choose_spec he) hb;exact Prod.ext h1 h2
noncomputable def nW (TS:AH):AH:=aV TS.length++(TS.map aV).flatten
theorem NH {i:Int} (h0:0<=i) (h1:i<TS.length):((TS.take (i+1).toNat).map aV).flatten=((TS.take i.toNat).map aV).flatten++aV (rd TS i):=by
 rw[dJ h0 h1,jc,mh];simp
noncomputable def eP (o:Int) (ws:AD):AH:=
 aV (canon ws).flatten.length++(nW (aYr ws).2++(aV (bM (aYr ws).1 o).length++(eG (bv (fT (canon ws).flatten))++bM (aYr ws).1 o)))
noncomputable def kR (so o size:Int) (ws:AD):AH:=
 (([87,72,82,76]++[1,3,so,o])++aV size++(if ws=[] then [] else eP o ws))++(aV 0++aV (canon ws).flatten.length)
theorem dX (ws:AD):(canon ws).flatten.length=ws.flatten.length:=by
 have h1:((canon ws).map List.length).sum=((dL ws).map λr=>(GX r).length).sum:=by
  unfold canon;rw[ql];exact((jB ws).map _).sum_nat
 rw[qj,qj,h1];unfold dL;rw[ql];clear h1
 induction ws with
 |nil=>rfl
 | cons w ws ih=>
  by_cases h:0<w.length
  ·rw [pg (by simpa using h),jm,uo,jm,uo,ih];congr 1;show(GX (mG w)).length=w.length;rw[GV h,kQ]
  ·rw [lh (by simpa using h),jm,uo,ih];omega
theorem aHr {ws:AD} (hp: ∀w∈ws,0<w.length) (h1:ws.length<=1000) (h2:ws.flatten.length<=100000): ∃L TS,ExtR ws L TS 0:=by
 obtain⟨T,h3,h4⟩:=AJ ws;exact⟨T.map (lastB ws),_, .inr (.inr ⟨G,rfl,hp,⟨T,h3,h4,rfl⟩,rfl⟩)⟩
theorem rP {TS:AH} (h:ExtR ws L TS 0): ∀t∈TS,0<t/\t<=ws.flatten.length:=by
 rcases h with⟨h,_⟩|⟨_,h,_⟩|⟨_,_,_,_,rfl⟩
 ·omega
 ·omega
 intro t ht;obtain⟨r,hr,rfl⟩:=ii.1 ht;have h2:=(jB ws).mem_iff.1 hr;unfold dL at h2;obtain⟨w,hw,rfl⟩:=ii.1 h2;obtain⟨hw,hp⟩:=ow.1 hw;have hp:0<w.length:=by simpa using hp
 have hl:0<(lw w).length:=by rw[kQ];exact hp
 have h3:=rE hl;have h4:=oh (lc hw);refine⟨h3,?_⟩;show gM (lw w)<=_
 have h5:gM (lw w)<=(lw w).length:=by
  unfold gM;exact Ez _ G
 rw[kQ] at h5;omega
theorem yI (h:ExtR ws L TS 0):L.length=ws.flatten.length:=by
 rcases h with⟨h,_⟩|⟨_,h,_⟩|⟨_,_,_,⟨T,hT,_,rfl⟩,_⟩
 ·omega
 ·omega
 ·rw[bu,GI hT]
end
end Go.Pure
namespace Go.Eng
open Go Go.RowKit Go.Pure
section
variable {P:Program} {n:Nd} {B:Nat} {w0:World} {L:Env} {R:List Row} {ty:TypeId}
theorem YU {f:FuncId} {Lc:List Operand} {ts:Array TypeId} {vs:AG} {Post:Value->List Row->Prop} (ha:evs L Lc=some vs)
  (hx: ∀w,Hp B w0 w R-> ∃v w' R',(callFunc f vs.toArray).run P w= .ok (.value v) w'/\Hp B w0 w' R'/\Post v R'):
  Ac P n B w0 (.call {callee:= .value (.func f),args:=Lc.toArray,argTypes:=ts}) ty L R Post:=by
 intro a w o K Q ho _ hs hp hk;have e1:=hs.evs ha;obtain⟨v,w',R',hr,cr,hv⟩:=hx w hp;have hf:a.eval (.func f)= .func (.func f) #[] #[]:=hs.ev rfl;unfold Oper.wp;simp only[execOp,ho,resolve,hf,Deferred.ofValue,invoke,jw,pu,kg,um,e1,uq,iv,iw,hr,Oper.upon];exact hk v w' R' cr hv
theorem aDx (u:AH):(Lib.bytesOf u).length=u.length:=by simp[Lib.bytesOf]
theorem VL: ∀ {u t:AH},aO u->aO t->Lib.compareBytes (Lib.bytesOf u) (Lib.bytesOf t)=cmpL u t
 |[],[],_,_=>rfl
 |[],_::_,_,_=>rfl
 |_::_,[],_,_=>rfl
 | x::u,y::t,hu,ht=>by
  have ih:=VL (u:=u) (t:=t) (λz hz=>hu z (gm _ hz)) λz hz=>ht z (gm _ hz);have hx:=hu x cD;have hy:=ht y cD
  have e: ∀z:Int,0<=z/\z<256->((z.toNat.toUInt8).toNat:Int)=z:=λz hz=>by
   rw[Nat.toUInt8,Cw (by simp[UInt8.size];omega)];omega
  have br: ∀ {a b:Int},0<=a/\a<256->0<=b/\b<256->(a.toNat.toUInt8<b.toNat.toUInt8↔a<b):=λ{a b} ha hb=>by
   rw[UInt8.lt_iff_toNat_lt];have h1:=e a ha;have h2:=e b hb;omega
  show(if x.toNat.toUInt8<y.toNat.toUInt8 then -1 else if y.toNat.toUInt8<x.toNat.toUInt8 then 1 else Lib.compareBytes (Lib.bytesOf u) (Lib.bytesOf t))=cmpL (x::u) (y::t);rw[cmpL,ih];by_cases c:x<y
  ·rw[dm c,dm ((br hx hy).2 c)]
  ·rw [df c,df (λh=>c ((br hx hy).1 h))];by_cases d:y<x
   ·rw[dm d,dm ((br hy hx).2 d)]
   ·rw[df d,df (λh=>d ((br hy hx).1 h))]
theorem xJ {w:World} {A:AF} {m c:Nat} {u:AH} (h:Rd w A m c 1 (ints .u8 u)):(Extern.Bytes.bytesOf (.slice A m c)).run P w= .ok ⟨(Lib.bytesOf u).toArray⟩ w:=by
 have hl:=h.lenI;rcases A with _|a
 ·have h0:u=[]:=by
   cases u with
   |nil=>rfl
   |cons y l'=>obtain⟨_,g,_⟩:=h.at_ 0 (.int .u8 y) (by simp[ints]);cases g
  subst h0;rfl
 ·have:=Lib.run_loadBytesX (P:=P) w u a .empty λj x hj=>by
   obtain⟨b,e,hc⟩:=h.at_ j (.int .u8 x) (by simp[ints,hj]);obtain rfl:=jg e;exact hc
  rw[<-hl] at this;show(Extern.Bytes.loadBytes a m .empty).run P w=_;rw[this];simp
theorem bCw {w:World} {A A2:AF} {m c m2 c2:Nat} {u t:AH} (h:Rd w A m c 1 (ints .u8 u)) (h2:Rd w A2 m2 c2 1 (ints .u8 t)) (hu:aO u) (ht:aO t):
  (Extern.BytealgCompare.compare #[.slice A m c, .slice A2 m2 c2]).run P w= .ok (.int .i64 (cmpL u t)) w:=by
 change Sem.run P (do pure (goInt (Extern.BytealgCompare.cmp (<-Extern.Bytes.bytesOf (.slice A m c)) (<-Extern.Bytes.bytesOf (.slice A2 m2 c2))))) w=_;simp only[jw,xJ h,xJ h2,kg,pu];rw[Lib.cmp_eq,VL hu ht];rfl
theorem bQr {f:FuncId} {fn:Func} {x y:Operand} {ts:Array TypeId} {A A2:AF} {m c m2 c2:Nat} {u t:AH} (hf:P.funcs[f]? =some fn) (n5:(fn.name== "runtime.NumGoroutine")=false) (hb:fn.body.isNone=true) (hn:Extern.findNext fn=none) (he:Extern.find fn=some Extern.BytealgCompare.compare)
  (hx:ev L x=some (.slice A m c)) (hy:ev L y=some (.slice A2 m2 c2)) (h:RdC B w0 R A m c 1 (ints .u8 u)) (h2:RdC B w0 R A2 m2 c2 1 (ints .u8 t)) (hu:aO u) (ht:aO t):
  Ac P n B w0 (.call {callee:= .value (.func f),args:=[x,y].toArray,argTypes:=ts}) ty L R (λv R'=>v= .int .i64 (cmpL u t)/\R'=R):=
 YU (vs:=[.slice A m c, .slice A2 m2 c2]) (by simp[evs,hx,hy]) λw hw=>⟨_,w,R,by
  rw[Gs hf n5 hb hn he];rw[show [Value.slice A m c,Value.slice A2 m2 c2].toArray= #[.slice A m c, .slice A2 m2 c2] from rfl,bCw (h w hw) (h2 w hw) hu ht]
  rfl,hw,rfl,rfl⟩
theorem bHd {x:Operand} {t e:TypeId} {A:AF} {m c:Nat} (ht:P.underlying t=some (.slice e)) (hx:ev L x=some (.slice A m c)):Yl P n B w0 (.call {callee:= .builtin .cap,args:= #[x],argTypes:= #[t]}) ty L R (.int .i64 (c:Int)):=by
 intro a w o ho _ hs _;simp[execOp,ho,resolve,invoke,builtin,Builtin.cap_,ou ht,hs.ev hx,goInt]
theorem ZA {x z:Operand} {t e:TypeId} {A:AF} {m c sz:Nat} {k2:IntKind} (ht:P.underlying t=some (.slice e)) (hi:(P.info? e).map (·.size)=some sz) (hx:ev L x=some (.slice A m c)) (hz:ev L z=some (.int k2 0)):
  Yl P n B w0 (.slice t x none (some z) none) ty L R (.slice A 0 c):=by
 intro a w o ho _ hs hp;obtain⟨i0,aw,hsz0⟩:=je.1 hi;have wj:P.elem t=e:=by simp[Program.elem,ht]
 have sr:P.underlying t=some (.slice (P.elem t)):=by rw[wj];exact ht
 simp only[execOp,ho,kv,Bj,hs.ev hx,hs.ev hz,jw,Ak w t _ _ _ _ sr,run_slice_h w t A m c sr k2 0 (ni 0) G,wj]
 have:(if c=0 then A else Option.map (λx=>x.add 0) A)=A:=by
  split
  ·rfl
  ·exact EH A
 simp[sizeOf,typeInfo,aw,hsz0,sliced,this]
theorem Row.lies_cut {w:World} {e sz m c:Nat} {A:AF} {xs:AG} (h:Row.lies B w ⟨e,sz,A,m,c,xs,false⟩) {k:Nat} (hk:k<=m) (hA:A≠none):Row.lies B w ⟨e,sz,A,k,c,xs.take (k*sz),false⟩:=by
 have h1:=Row.lies_w h rfl;have nw:k*sz<=m*sz:=vg _ hk;unfold Row.lies;simp only;obtain⟨hl,h2⟩:=h1;simp only at hl h2;refine⟨by rw[ax];omega,?_⟩;rcases h2 with⟨hv,_⟩|⟨g,cap,cur,hv,hb,hg,hnc,sp,jp,ht⟩
 ·simp only[ko] at hv;exact absurd hv.1 hA
 ·simp only[ko] at hv;obtain⟨rfl,_,rfl⟩:=hv;refine .inr ⟨g,c,cur,rfl,hb,hg,G,sp,jp,?_⟩;rw[<-ht,List.take_take];congr 1;omega
theorem Hp.cut {w:World} {e sz m c:Nat} {A:AF} {xs:AG} (h:Hp B w0 w (⟨e,sz,A,m,c,xs,false⟩::R)) {k:Nat} (hk:k<=m) (hA:A≠none):Hp B w0 w (⟨e,sz,A,k,c,xs.take (k*sz),false⟩::R):=
 ⟨h.below,h.base,λr hr=>by
  rcases jd.1 hr with rfl|hr
  ·exact Row.lies_cut (h.own _ (.head _)) hk hA
  ·exact h.own r (.tail _ hr),by
  obtain⟨h1,h2⟩:=ja.1 h.apart
  exact ja.2 ⟨λr hr=>h1 r hr,h2⟩,h.late⟩
theorem Hp.newC {w:World} (h:Hp B w0 w R) (cs:Array Value) (e m:Nat) (hm:m<=cs.size) (hc:cs.size<=maxLen):Hp B w0 (w.alloc (.cells cs e)) (⟨e,1,some ⟨w.heap.size,0,none⟩,m,cs.size,cs.toList.take m,false⟩::R):=by
 have h1:=h.new cs e cs.size 1 hc G;have:=h1.cut (k:=m) hm cD;rwa[qp] at this
theorem bGq {x y:Operand} {t tn e:TypeId} {z:Value} {bytes:Nat} {kn:IntKind} {m:Nat} (ht:P.underlying t=some (.slice e)) (Sp:P.underlying tn=some (.int kn)) (ee:(P.info? e).map (λi=>(i.zero,i.size,i.bytes))=some (some z,1,bytes)) (hz:z.cells= #[z])
  (hx:ev L x=some (.slice none 0 0)) (hy:ev L y=some (.int .i64 (m:Int))) (h0:0<m) (hm:m<=9223372036854775807) (hb:m*bytes<=281474976710656):
  Ac P n B w0 (.call {callee:= .builtin .append,args:= #[x,y],argTypes:= #[t,tn]}) ty L R (λv R'=> ∃g c,v= .slice (some ⟨g,0,none⟩) m c/\R'=⟨e,1,some ⟨g,0,none⟩,m,c,List.replicate m z,false⟩::R):=by
 intro a w o K Q ho _ hs hp hk;obtain⟨i0,hi,j6⟩:=je.1 ee;simp only[Ao] at j6;obtain⟨zc,c5,Hb⟩:=j6;have hr:=Lib.run_append_nil_zeros (P:=P) w t tn o.type e i0 z .i64 kn ht Sp hi zc m h0 G G (by rw[Hb];exact hb)
 have Tw: ∀q,(Builtin.zeroCells z.cells q).toList=List.replicate q z:=λq=>by
  rw[hz];refine ul (by simp[Builtin.zeroCells]) λi h1 h2=> ?_;simp[Builtin.zeroCells,Nat.mod_one]
 unfold Oper.wp;simp only[execOp,ho,resolve,invoke,builtin,jw,pu,kg,um,jm,rz,hs.ev hx,hs.ev hy,hr,Oper.upon];have Ly:=grownCap_ge w m 0 e;have nw:=Ig w m 0 e (by unfold maxLen;omega)
 have hsz:(Builtin.zeroCells z.cells m++Builtin.zeroCells z.cells (grownCap w m 0 e-m)).size=grownCap w m 0 e:=by
  rw[<-jq,wh,ah,Tw,Tw,bz,bz];omega
 have oa:=(hp.drawn (w.drawn+1) G).newC (Builtin.zeroCells z.cells m++Builtin.zeroCells z.cells (grownCap w m 0 e-m)) e m (by rw[hsz];exact Ly) (by rw[hsz];exact nw);rw[wh,Tw,Tw,Gq (by rw[bz]),hsz] at oa;exact hk _ _ _ oa ⟨_,_,rfl,rfl⟩
end
section
variable {P:Program} {n:Nd} {B:Nat} {w0:World} {L:Env} {R:List Row} {ty:TypeId}
theorem aMh {x y:Int} (hx:0<=x/\x<256) (hy:0<=y/\y<256):(x.toNat.toUInt8==y.toNat.toUInt8)=decide (x=y):=by
 have e: ∀z:Int,0<=z/\z<256->((z.toNat.toUInt8).toNat:Int)=z:=λz hz=>by
  rw[Nat.toUInt8,Cw (by simp[UInt8.size];omega)];omega
 by_cases h:x=y
 ·subst h;simp
 ·rw [nk h];refine beq_eq_false_iff_ne.2 λg=>h ?_;have:=e x hx;have:=e y hy;rw[g] at*;omega
theorem aQl {u:AH} {c:Int} (hu:aO u) (hc:0<=c/\c<256) (hm:c∈u):
  (List.range (⟨(Lib.bytesOf u).toArray⟩:ByteArray).size).find? (λi=>(⟨(Lib.bytesOf u).toArray⟩:ByteArray)[i]! ==c.toNat.toUInt8)=some (idx u c).toNat:=by
 have hi:=yE hm
 have hsz:(⟨(Lib.bytesOf u).toArray⟩:ByteArray).size=u.length:=by
  show(Lib.bytesOf u).toArray.size=_;rw[qx,aDx]
 have rh: ∀(i:Nat) (h:i<u.length),(⟨(Lib.bytesOf u).toArray⟩:ByteArray)[i]! =(u[i]).toNat.toUInt8:=λi h=>by
  rw[si _ i (by rw[hsz];exact h)];show(Lib.bytesOf u).toArray[i]'_=_;simp[Lib.bytesOf]
 refine List.find?_range_eq_some.2 ⟨?_,?_,?_⟩
 ·rw [rh _ G,aMh (hu _ (lu _)) hc];have:=aGd hm;rw[gB hi.1 hi.2] at this;rw[ky this]
 ·rw[jy,hsz];omega
 ·intro j hj;rw[rh _ G,aMh (hu _ (lu _)) hc]
  have:u[j]≠c:=λg=>by
   unfold idx at hj hi;have:=Ed (xs:=u) (p:=λx=>x==c) (i:=j) G;simp[g] at this
  rw[nk this];rfl
theorem aEh {f:FuncId} {fn:Func} {x y:Operand} {ts:Array TypeId} {A:AF} {m c':Nat} {u:AH} {c:Int} (hf:P.funcs[f]? =some fn) (n5:(fn.name== "runtime.NumGoroutine")=false) (hb:fn.body.isNone=true) (hn:Extern.findNext fn=none) (he:Extern.find fn=some Extern.BytealgIndexByte.indexByte)
  (hx:ev L x=some (.slice A m c')) (hy:ev L y=some (.int .u8 c)) (h:RdC B w0 R A m c' 1 (ints .u8 u)) (hu:aO u) (hc:0<=c/\c<256) (hm:c∈u):
  Ac P n B w0 (.call {callee:= .value (.func f),args:=[x,y].toArray,argTypes:=ts}) ty L R (λv R'=>v= .int .i64 (idx u c)/\R'=R):=
 YU (vs:=[.slice A m c', .int .u8 c]) (by simp[evs,hx,hy]) λw hw=>⟨_,w,R,by
  rw[Gs hf n5 hb hn he];rw[show [Value.slice A m c',Value.int .u8 c].toArray= #[.slice A m c', .int .u8 c] from rfl]
  change (Sem.run P (do
   let b<-Extern.Bytes.bytesOf (.slice A m c')
   let c<-Extern.Bytes.asByte (.int .u8 c)
   match (List.range b.size).find? λi=>b[i]! ==c with
   |some i=>pure (goInt i)
   |none=>pure (goInt (-1))) w).andThen _=_
  simp only[jw,xJ (h w hw),kg,Extern.Bytes.asByte,pu,aQl hu hc hm];rfl,hw,by
  show Value.int .i64 (((idx u c).toNat:Nat):Int)=_;have:=yE hm
  rw[show(((idx u c).toNat:Nat):Int)=idx u c by omega],rfl⟩
theorem kI {x:Int} (h0:0<=x) (h:x<18446744073709551616):IntKind.u64.wrap x=x:=by
 rw[Jq];omega
theorem oN {x:Int} (h0:0<=x) (h:x<256):IntKind.u8.wrap x=x:=by
 rw[Cz];omega
theorem aUb (x:Int) (h0:0<=x) (h1:x<18446744073709551616) (j:IntKind) (k:Nat) (hk:k<=64) (w:World):(Op.shift .shr .u64 x j (k:Int)).run P w= .ok (.int .u64 (x/2^k)) w:=by
 have hn: ¬((k:Int)<0):=G
 have hm:min (k:Int).toNat (IntKind.bits .u64)=k:=by
  have:IntKind.bits .u64=64:=rfl;omega
 have he:Int.fdiv x (2^k)=x/2^k:=Br _ (by exact xc G);unfold Op.shift;simp only[hn,hm,he,yj];rfl
theorem bIp {x y:Operand} {t u:TypeId} {a:Int} {j:IntKind} {k:Nat} (hx:ev L x=some (.int .u64 a)) (hy:ev L y=some (.int j (k:Int))) (h0:0<=a) (h1:a<18446744073709551616) (hk:Nat.ble k 64=true):Yl P n B w0 (.binOp .shr t x y u) ty L R (.int .u64 (a/2^k)):=by
 intro a' w o ho _ hs _;simp[execOp,ho,hs.ev hx,hs.ev hy,binOp,eqGuard,aUb a h0 h1 j k (ak hk)]
end
section
variable {P:Program} {n:Nd} {B:Nat} {w0:World} {L:Env} {R:List Row} {ty:TypeId}
theorem aSy {x y:Operand} {t u:TypeId} {p q:Int} (hx:ev L x=some (.int .u64 p)) (hy:ev L y=some (.int .u64 q)) (h:0<=p+q/\p+q<18446744073709551616):Yl P n B w0 (.binOp .add t x y u) ty L R (.int .u64 (p+q)):=by
 have:=aSz (P:=P) (n:=n) (B:=B) (w0:=w0) (R:=R) (ty:=ty) (t:=t) (u:=u) hx hy;rwa[kI h.1 h.2] at this
theorem bIo {x y:Operand} {t u:TypeId} {p q:Int} (hx:ev L x=some (.int .u64 p)) (hy:ev L y=some (.int .u64 q)) (h:0<=p-q/\p-q<18446744073709551616):Yl P n B w0 (.binOp .sub t x y u) ty L R (.int .u64 (p-q)):=by
 have:=bGy (P:=P) (n:=n) (B:=B) (w0:=w0) (R:=R) (ty:=ty) (t:=t) (u:=u) hx hy;rwa[kI h.1 h.2] at this
theorem vH {x y:Operand} {t u:TypeId} {p q:Int} (hx:ev L x=some (.int .u64 p)) (hy:ev L y=some (.int .u64 q)) (h:0<=p*q/\p*q<18446744073709551616):Yl P n B w0 (.binOp .mul t x y u) ty L R (.int .u64 (p*q)):=by
 have:=bHa (P:=P) (n:=n) (B:=B) (w0:=w0) (R:=R) (ty:=ty) (t:=t) (u:=u) hx hy;rwa[kI h.1 h.2] at this
theorem GQ {x y:Operand} {t u:TypeId} {p q:Int} (hx:ev L x=some (.int .u64 p)) (hy:ev L y=some (.int .u64 q)) (h:0<=p/\p<18446744073709551616) (h0:0<q):Yl P n B w0 (.binOp .quo t x y u) ty L R (.int .u64 (p/q)):=by
 have:=bGz (P:=P) (n:=n) (B:=B) (w0:=w0) (R:=R) (ty:=ty) (t:=t) (u:=u) hx hy h.1 h0;have h1:p/q<=p:=Ez q h.1;have h2:0<=p/q:=Gj h.1 G;rwa[kI h2 G] at this
theorem iM {x:Operand} {s d:TypeId} {j:IntKind} {p:Int} {td:TypeDesc} (en:P.underlying s=some td) (hd:P.underlying d=some (.int .u64)) (hx:ev L x=some (.int j p)) (h:0<=p/\p<18446744073709551616:=by omega):Yl P n B w0 (.convert s d x) ty L R (.int .u64 p):=by
 have:=nR (P:=P) (n:=n) (B:=B) (w0:=w0) (R:=R) (ty:=ty) en hd hx;rwa[kI h.1 h.2] at this
theorem dZ {x:Operand} {s d:TypeId} {j:IntKind} {p:Int} {td:TypeDesc} (en:P.underlying s=some td) (hd:P.underlying d=some (.int .u8)) (hx:ev L x=some (.int j p)):Yl P n B w0 (.convert s d x) ty L R (.int .u8 (p%256)):=by
 have:=nR (P:=P) (n:=n) (B:=B) (w0:=w0) (R:=R) (ty:=ty) en hd hx;rwa[Cz] at this
theorem bIt {x y:Operand} {t u:TypeId} {p q:Int} (hx:ev L x=some (.int .u8 p)) (hy:ev L y=some (.int .u8 q)):Yl P n B w0 (.binOp .add t x y u) ty L R (.int .u8 ((p+q)%256)):=by
 have:=aSz (P:=P) (n:=n) (B:=B) (w0:=w0) (R:=R) (ty:=ty) (t:=t) (u:=u) hx hy;rwa[Cz] at this
theorem aUc (x m:Int) (h:0<=x*m/\x*m<18446744073709551616) (j:IntKind) (k:Nat) (hk:k<=64) (hm:(2:Int)^k=m) (w:World):(Op.shift .shl .u64 x j (k:Int)).run P w= .ok (.int .u64 (x*m)) w:=by
 have hn: ¬((k:Int)<0):=G
 have hb:min (k:Int).toNat (IntKind.bits .u64)=k:=by
  have:IntKind.bits .u64=64:=rfl;omega
 unfold Op.shift;simp only[hn,hb,yj,hm,kI h.1 h.2];rfl
theorem wV {x y:Operand} {t u:TypeId} {a m:Int} {j:IntKind} {k:Nat} (hx:ev L x=some (.int .u64 a)) (hy:ev L y=some (.int j (k:Int))) (hm:(2:Int)^k=m) (h:0<=a*m/\a*m<18446744073709551616) (hk:Nat.ble k 64=true):Yl P n B w0 (.binOp .shl t x y u) ty L R (.int .u64 (a*m)):=by
 intro a' w o ho _ hs _;simp[execOp,ho,hs.ev hx,hs.ev hy,binOp,eqGuard,aUc a m h j k (ak hk) hm]
theorem pX {x y:Operand} {t u:TypeId} {a m:Int} {j:IntKind} {k:Nat} (hx:ev L x=some (.int .u64 a)) (hy:ev L y=some (.int j (k:Int))) (hm:(2:Int)^k=m) (h:0<=a/\a<18446744073709551616) (hk:Nat.ble k 64=true):Yl P n B w0 (.binOp .shr t x y u) ty L R (.int .u64 (a/m)):=by
 have:=bIp (P:=P) (n:=n) (B:=B) (w0:=w0) (R:=R) (ty:=ty) (t:=t) (u:=u) hx hy h.1 h.2 hk;rwa[hm] at this
theorem tN {p:Int} (h:0<=p/\p<18446744073709551616):(BitVec.ofInt 64 p).toNat=p.toNat:=by
 rw[zq];have e:((2^64:Nat):Int)=18446744073709551616:=rfl;rw[e,kz h.1 h.2]
theorem aOh (p:Int) (h:0<=p/\p<18446744073709551616) (k:Nat) (hk:k<=64) (m:Int) (hm:m=(2:Int)^k-1) (w:World):(Op.intBits .and .u64 p m).run P w= .ok (.int .u64 (p%2^k)) w:=by
 show Result.ok (Value.int .u64 (IntKind.u64.wrap ((BitVec.ofInt 64 p &&& BitVec.ofInt 64 m).toNat:Int))) w=_;have hp:(0:Int)<2^k:=Fx G
 have nw:(2:Int)^k<=2^64:=by
  have:(2:Nat)^k<=2^64:=Gg G hk
  exact_mod_cast this
 have e1:(BitVec.ofInt 64 m).toNat=2^k-1:=by
  rw[tN G,hm];have:((2:Int)^k)=((2^k:Nat):Int):=by norm_cast
  rw[this];omega
 rw[BitVec.toNat_and,tN h,e1,Fb]
 have e2:((p.toNat%2^k:Nat):Int)=p%2^k:=by
  rw[zo,mg h.1]
  norm_cast
 rw[e2];have h1:0<=p%2^k:=jv _ G;have h2:p%2^k<2^k:=jf _ hp;rw[kI h1 G]
theorem KZ {x y:Operand} {t u:TypeId} {p q m:Int} (k:Nat) (hx:ev L x=some (.int .u64 p)) (hy:ev L y=some (.int .u64 q)) (hm:(2:Int)^k=m) (hq:q=m-1) (h:0<=p/\p<18446744073709551616) (hk:Nat.ble k 64=true):Yl P n B w0 (.binOp .and t x y u) ty L R (.int .u64 (p%m)):=by
 subst hm;intro a w o ho _ hs _;simp[execOp,ho,binOp,eqGuard,hs.ev hx,hs.ev hy,aOh p h k (ak hk) q hq]
theorem bJw: ∀n:Fin 256,(n.val|||128)=n.val%128+128:=by decide+kernel
theorem bCv (p:Int) (h:0<=p/\p<256) (w:World):(Op.intBits .or .u8 p 128).run P w= .ok (.int .u8 (p%128+128)) w:=by
 show Result.ok (Value.int .u8 (IntKind.u8.wrap ((BitVec.ofInt 8 p|||BitVec.ofInt 8 128).toNat:Int))) w=_
 have e1:(BitVec.ofInt 8 p).toNat=p.toNat:=by
  rw[zq];have e:((2^8:Nat):Int)=256:=rfl;rw[e,kz h.1 h.2]
 have e2:(BitVec.ofInt 8 128).toNat=128:=cC
 rw[Kj,e1,e2];have:=bJw ⟨p.toNat,G⟩;rw[show p.toNat|||128=p.toNat%128+128 from this,oN G G];rw[show((p.toNat%128+128:Nat):Int)=p%128+128 by omega]
theorem bMg {x y:Operand} {t u:TypeId} {p:Int} (hx:ev L x=some (.int .u8 p)) (hy:ev L y=some (.int .u8 128)) (h:0<=p/\p<256):Yl P n B w0 (.binOp .or t x y u) ty L R (.int .u8 (p%128+128)):=by
 intro a w o ho _ hs _;simp[execOp,ho,binOp,eqGuard,hs.ev hx,hs.ev hy,bCv p h]
theorem WQ (p q:Int) (k:Nat) (m:Int) (hm:(2:Int)^k=m) (h:0<=p/\p*m+q<18446744073709551616) (hq:0<=q/\q<m) (w:World):(Op.intBits .or .u64 (p*m) q).run P w= .ok (.int .u64 (p*m+q)) w:=by
 show Result.ok (Value.int .u64 (IntKind.u64.wrap ((BitVec.ofInt 64 (p*m)|||BitVec.ofInt 64 q).toNat:Int))) w=_;have hpm:0<=p*m:=Ar h.1 G;rw[Kj,tN G,tN G]
 have e1:(p*m).toNat=2^k*p.toNat:=by
  have:p*m=((2^k*p.toNat:Nat):Int):=by
   rw[Bi,mg h.1,Gm,<-hm,Ea];rfl
  rw[this,dh]
 have e2:q.toNat<2^k:=by
  have:((2^k:Nat):Int)=m:=by rw[<-hm,Gm];rfl
  omega
 rw[e1,<-Gv e2,<-e1];rw[show(((p*m).toNat+q.toNat:Nat):Int)=p*m+q by omega,kI G h.2]
theorem bMd {x y:Operand} {t u:TypeId} {p q m:Int} (k:Nat) (hx:ev L x=some (.int .u64 (p*m))) (hy:ev L y=some (.int .u64 q)) (hm:(2:Int)^k=m) (h:0<=p/\p*m+q<18446744073709551616) (hq:0<=q/\q<m):Yl P n B w0 (.binOp .or t x y u) ty L R (.int .u64 (p*m+q)):=by
 intro a w o ho _ hs _;simp[execOp,ho,binOp,eqGuard,hs.ev hx,hs.ev hy,WQ p q k m hm h hq]
theorem bMe {x y:Operand} {t u:TypeId} {q m:Int} (k:Nat) (hx:ev L x=some (.int .u64 q)) (hy:ev L y=some (.int .u64 m)) (hm:(2:Int)^k=m) (h:m+q<18446744073709551616) (hq:0<=q/\q<m):Yl P n B w0 (.binOp .or t x y u) ty L R (.int .u64 (q+m)):=by
 intro a w o ho _ hs _;have e:=WQ (P:=P) 1 q k m hm G hq w
 have e2:(Op.intBits .or .u64 q m).run P w= .ok (.int .u64 (q+m)) w:=by
  have c:Op.intBits .or .u64 q m=Op.intBits .or .u64 (1*m) q:=by
   rw[Int.one_mul];unfold Op.intBits;simp only[BitVec.or_comm]
  rw[c,e,Int.one_mul,Int.add_comm]
 simp[execOp,ho,binOp,eqGuard,hs.ev hx,hs.ev hy,e2]
theorem aUa (k0:IntKind) (x m:Int) (h0:0<=x) (j:IntKind) (k:Nat) (hk:k<=k0.bits) (hm:(2:Int)^k=m) (w:World):(Op.shift .shr k0 x j (k:Int)).run P w= .ok (.int k0 (x/m)) w:=by
 have hn: ¬((k:Int)<0):=G
 have hb:min (k:Int).toNat k0.bits=k:=G
 have he:Int.fdiv x m=x/m:=Br _ (by rw[<-hm];exact xc G);unfold Op.shift;simp only[hn,hb,hm,he,yj];rfl
theorem BA {x y:Operand} {t u:TypeId} {k0:IntKind} {a m:Int} {j:IntKind} {k:Nat} (hx:ev L x=some (.int k0 a)) (hy:ev L y=some (.int j (k:Int))) (hm:(2:Int)^k=m) (h:0<=a) (hk:Nat.ble k k0.bits=true):Yl P n B w0 (.binOp .shr t x y u) ty L R (.int k0 (a/m)):=by
 intro a' w o ho _ hs _;simp[execOp,ho,hs.ev hx,hs.ev hy,binOp,eqGuard,aUa k0 a m h j k (ak hk) hm]
theorem uA {x y:Operand} {t e:TypeId} {z:Value} {bytes m c k c2:Nat} {A A2:AF} {l l2:AH} {kk:IntKind} (ht:P.underlying t=some (.slice e)) (ee:(P.info? e).map (λi=>(i.zero,i.size,i.bytes))=some (some z,1,bytes))
  (hx:ev L x=some (.slice A m c)) (hr:RdC B w0 R A m c 1 (ints kk l)) (hy:ev L y=some (.slice A2 k c2)) (o7:RdC B w0 R A2 k c2 1 (ints kk l2)) (h0:0<m) (h1:0<k) (hg:c<m+k) (hb:m+k<=1000000) (m8:Builtin.nextslicecap (m+k) c*bytes<=281474976710656) (hz:z.cells.size=1):
  Ac P n B w0 (.call {callee:= .builtin .append,args:= #[x,y],argTypes:= #[t,t]}) ty L R (λv R'=> ∃g c',v= .slice (some ⟨g,0,none⟩) (m+k) c'/\R'=⟨e,1,some ⟨g,0,none⟩,m+k,c',ints kk (l++l2),false⟩::R):=by
 intro a w o K Q ho _ hs hp hk;obtain⟨i0,hi,j6⟩:=je.1 ee;simp only[Ao] at j6;obtain⟨zc,c5,Hb⟩:=j6;have ha:=hr w hp;have vx:=o7 w hp;have b7:(ints kk l).length=m:=by have:=ha.len;omega
 have xd:(ints kk l2).length=k:=by have:=vx.len;omega
 obtain⟨ad,rfl,_⟩:=ha.at_ 0 (ints kk l)[0] (by rw[av G]);obtain⟨ae,rfl,_⟩:=vx.at_ 0 (ints kk l2)[0] (by rw[av G])
 have kx:=run_append_grow (P:=P) (w:=w) t o.type e i0 z ht hi zc ad m c (ints kk l) (by rw[b7,c5];omega) (λj v hv=>by
   obtain⟨a',oe,hc⟩:=ha.at_ j v hv;obtain rfl:=jg oe
   exact hc) ae k c2 (ints kk l2) (by rw[xd,c5];omega) (λj v hv=>by
   obtain⟨a',oe,hc⟩:=vx.at_ j v hv;obtain rfl:=jg oe
   exact hc) hg G (by rw[Hb];exact m8)
 unfold Oper.wp;simp only[execOp,ho,resolve,invoke,builtin,jw,pu,kg,um,jm,rz,hs.ev hx,hs.ev hy,kx,Oper.upon];have Ly:=grownCap_ge w (m+k) c e;have nw:=Ig w (m+k) c e (by unfold maxLen;omega)
 have jp:((ints kk l).toArray++(ints kk l2).toArray++Builtin.zeroCells z.cells (grownCap w (m+k) c e-(m+k))).size=m+k+(Builtin.zeroCells z.cells (grownCap w (m+k) c e-(m+k))).size:=by
  simp only[Array.size_append,qx,b7,xd]
 have hzs:z.cells.size=1->(Builtin.zeroCells z.cells (grownCap w (m+k) c e-(m+k))).size=grownCap w (m+k) c e-(m+k):=λh=>by
  simp[Builtin.zeroCells,h]
 have hsz:((ints kk l).toArray++(ints kk l2).toArray++Builtin.zeroCells z.cells (grownCap w (m+k) c e-(m+k))).size=grownCap w (m+k) c e:=by rw[jp,hzs hz];omega
 have oa:=(hp.drawn (w.drawn+1) G).newC ((ints kk l).toArray++(ints kk l2).toArray++Builtin.zeroCells z.cells (grownCap w (m+k) c e-(m+k))) e (m+k) (by rw[hsz];exact Ly) (by rw[hsz];exact nw)
 have t8:((ints kk l).toArray++(ints kk l2).toArray++Builtin.zeroCells z.cells (grownCap w (m+k) c e-(m+k))).toList.take (m+k)=ints kk (l++l2):=by
  rw[wh,wh];show(ints kk l++ints kk l2++_).take (m+k)=_;rw[Gq (by rw[ah,b7,xd])];simp[ints]
 rw[t8,hsz] at oa;exact hk _ _ _ oa ⟨_,_,rfl,rfl⟩
end
section
variable {P:Program} {n:Nd} {B:Nat} {w0:World} {L:Env} {R:List Row} {ty:TypeId}
theorem bBi: ∀n:Fin 256,(BitVec.ofInt 8 (n.val:Int) &&& ~~~ BitVec.ofInt 8 128).toNat=n.val%128:=by decide+kernel
theorem aAi (p:Int) (h:0<=p/\p<256) (w:World):(Op.intBits .andNot .u8 p 128).run P w= .ok (.int .u8 (p%128)) w:=by
 have e:=bBi ⟨p.toNat,G⟩;simp only at e;rw[show((p.toNat:Nat):Int)=p by omega] at e;show Result.ok (Value.int .u8 (IntKind.u8.wrap ((BitVec.ofInt 8 p &&& ~~~ BitVec.ofInt 8 128).toNat:Int))) w=_;rw[e,oN G G];rw[show((p.toNat%128:Nat):Int)=p%128 by omega]
theorem aNa {x y:Operand} {t u:TypeId} {p:Int} (hx:ev L x=some (.int .u8 p)) (hy:ev L y=some (.int .u8 128)) (h:0<=p/\p<256):Yl P n B w0 (.binOp .andNot t x y u) ty L R (.int .u8 (p%128)):=by
 intro a w o ho _ hs _;simp[execOp,ho,binOp,eqGuard,hs.ev hx,hs.ev hy,aAi p h]
theorem bMf {x y:Operand} {t u:TypeId} {p q m:Int} (k:Nat) (hx:ev L x=some (.int .u64 q)) (hy:ev L y=some (.int .u64 (p*m))) (hm:(2:Int)^k=m) (h:0<=p/\p*m+q<18446744073709551616) (hq:0<=q/\q<m):Yl P n B w0 (.binOp .or t x y u) ty L R (.int .u64 (p*m+q)):=by
 intro a w o ho _ hs _;have e:=WQ (P:=P) p q k m hm h hq w
 have e2:(Op.intBits .or .u64 q (p*m)).run P w= .ok (.int .u64 (p*m+q)) w:=by
  have c:Op.intBits .or .u64 q (p*m)=Op.intBits .or .u64 (p*m) q:=by
   unfold Op.intBits;simp only[BitVec.or_comm]
  rw[c,e]
 simp[execOp,ho,binOp,eqGuard,hs.ev hx,hs.ev hy,e2]
end
section
variable {P:Program} {n:Nd} {B:Nat} {w0:World} {L:Env} {R:List Row} {ty:TypeId}
theorem aOt {w:World} {A:AF} {m c:Nat} {k:IntKind} {u:AH} (h:Rd w A m c 1 (ints k u)) (hA:A.isNone=true):u=[]:=by
 cases u with
 |nil=>rfl
 |cons y l=>
  obtain⟨b,g,_⟩:=h.at_ 0 (.int k y) (by simp[ints]);rw[g] at hA;cases hA
theorem SlR.weak {k:IntKind} {Rs Uf:List Row} {vals:AG} {ls:AD} (h:SlR k Rs vals ls) (hr: ∀B w0 w,Hp B w0 w Uf->Hp B w0 w Rs):SlR k Uf vals ls:=
 ⟨h.1,λj hj=>by
  obtain⟨A,c,h1,h2⟩:=h.2 j hj
  exact⟨A,c,h1,λB w0 w hw=>h2 B w0 w (hr B w0 w hw)⟩⟩
theorem SlR.right {k:IntKind} {Rs:List Row} {vals:AG} {ls:AD} (h:SlR k Rs vals ls) (X:List Row):SlR k (X++Rs) vals ls:=h.weak λ_ _ _ hw=>hw.right
theorem SlR.left {k:IntKind} {Rs:List Row} {vals:AG} {ls:AD} (h:SlR k Rs vals ls) (T:List Row):SlR k (Rs++T) vals ls:=h.weak λ_ _ _ hw=>hw.left
theorem aCd {l m:AD} {j:Nat} (h:j<l.length):(l++m).getD j []=l.getD j []:=by
 rw[ai,ai,ji h]
theorem SlR.app {k:IntKind} {Rs:List Row} {v1 v2:AG} {l1 l2:AD} (h:SlR k Rs v1 l1) (g:SlR k Rs v2 l2):SlR k Rs (v1++v2) (l1++l2):=by
 refine⟨by simp[h.1,g.1],λj hj=> ?_⟩;rcases gp j l1.length with q|q
 ·obtain ⟨A,c,h1,h2⟩:=h.2 j q;rw[aCd q,ji (by rw[h.1];exact q)];exact⟨A,c,h1,h2⟩
 ·rw [ah] at hj;obtain⟨A,c,h1,h2⟩:=g.2 (j-l1.length) G
  have e:(l1++l2).getD j []=l2.getD (j-l1.length) []:=by
   rw[ai,ai,jk q]
  rw[e,jk (by rw[h.1];exact q),h.1];exact⟨A,c,h1,h2⟩
theorem SlR.take {k:IntKind} {Rs:List Row} {vals:AG} {ls:AD} (h:SlR k Rs vals ls) (i:Nat):SlR k Rs (vals.take i) (ls.take i):=by
 refine⟨by simp[h.1],λj hj=> ?_⟩;rw[ax] at hj;obtain⟨A,c,h1,h2⟩:=h.2 j G
 have e:(ls.take i).getD j []=ls.getD j []:=by
  rw[ai,ai,qo G]
 rw[e,qo G];exact⟨A,c,h1,h2⟩
theorem SlR.drop {k:IntKind} {Rs:List Row} {vals:AG} {ls:AD} (h:SlR k Rs vals ls) (i:Nat):SlR k Rs (vals.drop i) (ls.drop i):=by
 refine⟨by simp[h.1],λj hj=> ?_⟩;rw[bn] at hj;obtain⟨A,c,h1,h2⟩:=h.2 (i+j) G
 have e:(ls.drop i).getD j []=ls.getD (i+j) []:=by
  rw[ai,ai,sj]
 rw[e,sj];exact⟨A,c,h1,h2⟩
theorem SlR.single {k:IntKind} {Rs:List Row} {A:AF} {m c:Nat} {l:AH} (hm:m=l.length) (h: ∀B w0 w,Hp B w0 w Rs->Rd w A m c 1 (ints k l)):SlR k Rs [.slice A m c] [l]:=by
 subst hm;refine⟨rfl,λj hj=> ?_⟩;simp only[ic] at hj;obtain rfl:j=0:=G
 exact⟨A,c,rfl,h⟩
theorem SlR.push {k:IntKind} {Rs:List Row} {vals:AG} {ls:AD} {A:AF} {m c:Nat} {l:AH} (h:SlR k Rs vals ls) (hm:m=l.length) (hr: ∀B w0 w,Hp B w0 w Rs->Rd w A m c 1 (ints k l)):SlR k Rs (vals++[.slice A m c]) (ls++[l]):=h.app (SlR.single hm hr)
theorem SlR.one {k:IntKind} {Rs:List Row} {vals:AG} {ls:AD} (h:SlR k Rs vals ls): ∀v∈vals,v.oneCell'=true:=λv hv=>by
 obtain⟨j,hj,e⟩:=ib.1 hv;obtain⟨A,c,h1,_⟩:=h.2 j (by rw[<-h.1];exact hj);rw[av hj,e] at h1;obtain rfl:=jg h1;simp[Value.oneCell']
def OkB (ls:AD):Prop:= ∀l∈ls,aO l/\l.length<=140737488355327
theorem SlR.slw {Rs:List Row} {vals:AG} {ls:AD} (h:SlR .u8 Rs vals ls) (hb:OkB ls) {w:World} (hw:Hp B w0 w Rs):SlW .u8 w vals ls:=
 ⟨h.1,λj hj=>by
  obtain⟨A,c,h1,h2⟩:=h.2 j hj
  have hm:ls.getD j []∈ls:=by
   rw[ai,av hj];exact lu hj
  exact⟨A,c,h1,h2 _ _ _ hw,λx hx=>dV ((hb _ hm).1 x hx),(hb _ hm).2⟩⟩
theorem SlW.take {k:IntKind} {w:World} {vals:AG} {ls:AD} (h:SlW k w vals ls) (i:Nat):SlW k w (vals.take i) (ls.take i):=by
 refine⟨by simp[h.1],λj hj=> ?_⟩;rw[ax] at hj
 have e:(ls.take i).getD j []=ls.getD j []:=by
  rw[ai,ai,qo G]
 rw[e,qo G];exact h.2 j G
theorem SlW.one {k:IntKind} {w:World} {vals:AG} {ls:AD} (h:SlW k w vals ls): ∀v∈vals,v.oneCell'=true:=λv hv=>by
 obtain⟨j,hj,e⟩:=ib.1 hv;obtain⟨A,c,h1,_⟩:=h.2 j (by rw[<-h.1];exact hj);rw[av hj,e] at h1;obtain rfl:=jg h1;simp[Value.oneCell']
theorem SlW.app {k:IntKind} {w:World} {v1 v2:AG} {l1 l2:AD} (h:SlW k w v1 l1) (g:SlW k w v2 l2):SlW k w (v1++v2) (l1++l2):=by
 refine⟨by simp[h.1,g.1],λj hj=> ?_⟩;rcases gp j l1.length with q|q
 ·rw [aCd q,ji (by rw[h.1];exact q)];exact h.2 j q
 ·rw [ah] at hj
  have e:(l1++l2).getD j []=l2.getD (j-l1.length) []:=by
   rw[ai,ai,jk q]
  rw[e,jk (by rw[h.1];exact q),h.1];exact g.2 (j-l1.length) G
theorem SlW.okB {w:World} {vals:AG} {ls:AD} (h:SlW .u8 w vals ls):OkB ls:=λl hl=>by
 obtain⟨j,hj,e⟩:=ib.1 hl;obtain⟨A,c,_,_,h3,h4⟩:=h.2 j hj;have e2:ls.getD j []=l:=by rw[ai,av hj,e];rfl
 rw[e2] at h3 h4;exact⟨byteL_wf h3,h4⟩
structure RC where
 A:AF
 c:Nat
 root:AH
 times:Int
def encR (r:RC):AG:=[.slice r.A r.root.length r.c, .int .i64 r.times]
def RC.rt (r:RC):RT:=(r.root,r.times)
def rdG (l:List RC) (i:Int):RC:=l.getD i.toNat ⟨none,0,[],0⟩
def rgs (l:List RC):AG:=l.flatMap encR
def RgR (Rs:List Row) (l:List RC):Prop:= ∀r∈l,aO r.root/\ ∀(B:Nat) (w0 w:World),Hp B w0 w Rs->Rd w r.A r.root.length r.c 1 (ints .u8 r.root)
theorem RgR.nil (Rs:List Row):RgR Rs []:=λr h=>by cases h
theorem RgR.weak {Rs Uf:List Row} {l:List RC} (h:RgR Rs l) (hr: ∀B w0 w,Hp B w0 w Uf->Hp B w0 w Rs):RgR Uf l:=λr h'=>⟨(h r h').1,λB w0 w hw=>(h r h').2 B w0 w (hr B w0 w hw)⟩
theorem RgR.right {Rs:List Row} {l:List RC} (h:RgR Rs l) (X:List Row):RgR (X++Rs) l:=h.weak λ_ _ _ hw=>hw.right
theorem RgR.snoc {Rs:List Row} {l:List RC} {e m:Nat} {A:AF} {c:Nat} {u:AH} {t:Int} {ro:Bool} (h:RgR Rs l) (hm:m=u.length) (hb:aO u):RgR (⟨e,1,A,m,c,ints .u8 u,ro⟩::Rs) (l++[⟨A,c,u,t⟩]):=λr hr=>by
 subst hm;rcases ek.1 hr with hr|hr
 ·exact⟨(h r hr).1,λB w0 w hw=>(h r hr).2 B w0 w hw.tail⟩
 ·obtain rfl:=ig.1 hr;exact⟨hb,λB w0 w hw=>rdr (R:=⟨e,1,A,u.length,c,ints .u8 u,ro⟩::Rs) 0 rfl w hw⟩
theorem RgR.perm {Rs:List Row} {l m:List RC} (h:RgR Rs l) (hp:m.Perm l):RgR Rs m:=λr hr=>h r (hp.subset hr)
theorem aKf (l:List RC):(rgs l).length=l.length*2:=aYn (enc:=encR) (λ_=>rfl) l
theorem aKg (l m:List RC):rgs (l++m)=rgs l++rgs m:=Co
theorem bDh (l:List RC): ∀v∈rgs l,v.oneCell'=true:=λv hv=>by
 obtain⟨r,_,h⟩:=Az.1 hv;simp only[encR,jd,vz,Ih] at h;rcases h with rfl|rfl<;>rfl
theorem aYx (x:RC): ∀v∈encR x,v.oneCell'=true:=λv hv=>by
 simp only[encR,jd,vz,Ih] at hv;rcases hv with rfl|rfl<;>rfl
theorem zI {l:List RC} {i:Int} (h0:0<=i) (h1:i<l.length):rdG l i∈l:=by
 unfold rdG;rw[ai,av G];exact lu _
theorem bJo {l:List RC} {i:Int} (h0:0<=i) (h1:i<l.length):((rgs l).drop (i.toNat*2)).take 2=encR (rdG l i):=by
 have e:l=l.take i.toNat++rdG l i::l.drop (i.toNat+1):=by
  conv=>lhs;rw[<-gz i.toNat l]
  congr 1;rw[mf G];congr 1;unfold rdG;rw[ai,av G];rfl
 have hl:(rgs (l.take i.toNat)).length=i.toNat*2:=by rw[aKf,ax,Aa G]
 have e2:rgs l=rgs (l.take i.toNat)++(encR (rdG l i)++rgs (l.drop (i.toNat+1))):=by
  conv=>lhs;rw[e]
  rw[aKg];rfl
 rw[e2,Gn hl];rfl
theorem bHb {x:Operand} {t:TypeId} {d:TypeDesc} {A:AF} {m c:Nat} {l:List RC} {i:Int} (hu:P.underlying t=some d) (hd:JK d=true) (gd:(P.info? t).map (·.size)=some 2) (hx:ev L x=some (.pointer (pat A (i.toNat*2)))) (hr:RdC B w0 R A m c 2 (rgs l)) (h0:0<=i) (h1:i<l.length):
  Yl P n B w0 (.load t x) ty L R (.agg #[.slice (rdG l i).A (rdG l i).root.length (rdG l i).c, .int .i64 (rdG l i).times]):=by
 have:=aSv (P:=P) (n:=n) (B:=B) (w0:=w0) (R:=R) (ty:=ty) hu hd gd hx rfl hr (by rw[aKf];omega) G;rwa[bJo h0 h1] at this
theorem aSp {s x:Operand} {t e:TypeId} {z:Value} {bytes m p c c2:Nat} {A A2:AF} {l news:List RC} (i:Nat) (hi:R[i]? =some ⟨e,2,A,p,c,rgs l,false⟩) (ht:P.underlying t=some (.slice e)) (ee:(P.info? e).map (λi=>(i.zero,i.size,i.bytes))=some (some z,2,bytes)) (hz:z.cells.size=2) (a8:Nat.blt 0 bytes=true)
  (hs:ev L s=some (.slice A p c)) (hx:ev L x=some (.slice A2 m c2)) (gg:RdC B w0 R A2 m c2 2 (rgs news)) (kj:(p+m)*bytes<=140737488355328):
  Ac P n B w0 (.call {callee:= .builtin .append,args:= #[s,x],argTypes:= #[t,t]}) ty L R (λv R'=> ∃A' c',v= .slice A' (p+m) c'/\R'=R.set i ⟨e,2,A',p+m,c',rgs (l++news),false⟩):=by
 have:=fK (P:=P) (n:=n) (B:=B) (w0:=w0) (ty:=ty) i hi rfl ht ee hz rfl a8 hs hx gg (bDh news) kj;simp only[<-aKg] at this;exact this
theorem bLr {t e:TypeId} {x:Operand} (r:RC) (ht:P.underlying t=some (.slice e)) (ee:(P.info? e).map (λi=>(i.zero,i.size))=some (some (.agg #[.slice none 0 0, .int .i64 0]),2)) (hx:ev L x=some (.agg #[.slice r.A r.root.length r.c, .int .i64 r.times])):
  Ac P n B w0 (.buildSlice t 1 #[(0,x)]) ty L R (λv R'=> ∃g,v= .slice (some ⟨g,0,none⟩) 1 1/\R'=⟨e,2,some ⟨g,0,none⟩,1,1,rgs [r],false⟩::R):=by
 have hv:evp L [(0,x)]=some [(0, .agg #[.slice r.A r.root.length r.c, .int .i64 r.times])]:=by simp[evp,hx]
 exact rD (P:=P) (n:=n) (B:=B) (w0:=w0) (L:=L) (R:=R) (ty:=ty) (len:=1) (ps:=[(0,x)]) (cells:= #[.slice r.A r.root.length r.c, .int .i64 r.times]) ht ee hv cC cC cA (by rfl)
end
section
variable {P:Program} {n:Nd} {B:Nat} {w0:World} {L:Env} {R:List Row} {ty:TypeId}
theorem RdC.toV {A:AF} {m h c:Nat} {xs:AG} (hr:RdC B w0 R A m c 1 xs) (h2:h<=m):RdC B w0 R A h c 1 (xs.take h):=by
 have:=hr.to h2;rwa[qp] at this
theorem RdC.fromV {A:AF} {m c l:Nat} {xs:AG} (hr:RdC B w0 R A m c 1 xs) (h1:l<=m):RdC B w0 R (jO A l c 1) (m-l) (c-l) 1 (xs.drop l):=λw hw=>by
 have h:=hr.cut h1 (ed m) w hw;have hl:=(hr w hw).len;rw[qp,qp,bg (by rw[bn];omega)] at h;exact h
theorem CR {id:Nat} {l:List Oper} {Q:gF} {Rc:List Row} (hm:P.follows .mixedOrders=true) (hR: ∀w,Hp B w0 w R->Hp B w0 w Rc) (h:WDc P n B w0 l.toArray Q.nrm l.toArray.size (Array.replicate l.toArray.size false) L R Rc) (hd:EQ n.rd l=true:=by exact rfl):W P n B w0 (.region id l.toArray true) Q L R:=by
 intro a w hs hp;refine wpIn_region_any hm (aEf aJj hd _ _ _ _<|BC _ _ _ _ _ (h a _ _ hs (hp.drawn _ (Ip _)) hR (λ_ _ _ h=>h) λ_ _ L' R' en cr hk=>⟨L',R',en,cr,hk⟩))
theorem RgR.left {Rs:List Row} {l:List RC} (h:RgR Rs l) (T:List Row):RgR (Rs++T) l:=h.weak λ_ _ _ hw=>hw.left
theorem SlR.nilR (k:IntKind) (Rs:List Row):SlR k Rs [] []:=⟨rfl,λj hj=>by simp at hj⟩
theorem mM {ws:AD} (h:OkB ws):OkB (canon ws):=λc hc=>by
 obtain⟨w,h1,h2,rfl⟩:=UO hc;have h3:=h w h1;rw[kQ];exact⟨aO.append (h3.1.drop _) (h3.1.take _),h3.2⟩
theorem OkB.app {a b:AD} (ha:OkB a) (hb:OkB b):OkB (a++b):=λl hl=>(ek.1 hl).elim (ha l) (hb l)
theorem uY (ws:AD):(canon ws).length<=ws.length:=by
 rw[VQ];unfold dL;rw[bu];exact ym _ _
end
section
variable {P:Program} {n:Nd} {B:Nat} {w0:World} {L:Env} {R:List Row} {ty:TypeId}
theorem bBo {f:FuncId} {fn:Func} {x:Operand} {ts:Array TypeId} {m:Nat} {ps:Array TypeId} {t e:TypeId} (hf:P.funcs[f]? =some fn) (n5:(fn.name== "runtime.NumGoroutine")=false) (hb:fn.body.isNone=true) (hn:Extern.findNext fn=none) (he:Extern.find fn=some (Extern.BytealgMakeNoZero.makeNoZero ps #[t]))
  (ht:P.underlying t=some (.slice e)) (hx:ev L x=some (.int .i64 (m:Int))) (hm:m<=1000000):
  Ac P n B w0 (.call {callee:= .value (.func f),args:=[x].toArray,argTypes:=ts}) ty L R (λv R'=> ∃g C,m<=C/\v= .slice (some ⟨g,0,none⟩) m C/\R'=⟨e,1,some ⟨g,0,none⟩,0,C,ints .u8 [],false⟩::R):=
 YU (vs:=[.int .i64 (m:Int)]) (by simp[evs,hx]) λw hw=>by
  obtain⟨cs,hr,Ly,nw⟩:=Lib.run_makeNoZero (P:=P) w ps t e ht m G;have oa:=((hw.drawn (w.drawn+1+1) G).newC cs e m Ly (nw (by unfold maxLen;omega))).cut (k:=0) (oz _) cD;refine⟨_,_,_,?_,oa,w.heap.size,cs.size,Ly,rfl,by simp[ints]⟩;rw[Gs hf n5 hb hn he];rw[show [Value.int .i64 (m:Int)].toArray= #[.int .i64 m] from rfl,hr];rfl
theorem WA {x y:Operand} {t t2 e:TypeId} {pp:AF} {g p dl dc c m2 c2:Nat} {A2:AF} {k:IntKind} {D src:AH} (i:Nat) (hi:R[i]? =some ⟨e,1,some ⟨g,0,none⟩,p,c,ints k D,false⟩) (ht:P.underlying t=some (.slice e)) (gd:(P.info? e).map (·.size)=some 1)
  (hx:ev L x=some (.slice pp dl dc)) (hy:ev L y=some (.slice A2 m2 c2)) (Pd:pp=some ⟨g,p,none⟩) (hdl:p+dl<=c) (gg:RdC B w0 R A2 m2 c2 1 (ints k src)):
  Ac P n B w0 (.call {callee:= .builtin .copy,args:= #[x,y],argTypes:= #[t,t2]}) ty L R (λv R'=>v= .int .i64 ((min m2 dl:Nat):Int)/\R'=R.set i ⟨e,1,some ⟨g,0,none⟩,p+min m2 dl,c,ints k (D++src.take (min m2 dl)),false⟩):=by
 intro a w o K Q ho Mw hs hw hk;have fk:=Row.lies_w (hw.own _ (gq hi)) rfl;have o7:=gg w hw;have Tk:m2=src.length:=o7.lenI;have hl:p=D.length:=by have:=fk.1;rw[bY] at this;simp only at this;omega
 rcases fk.2 with⟨hv,_⟩|⟨g',cap,cur,hv,hb,hg,hnc,sp,jp,t8⟩
 ·simp at hv
 simp only[ko,mr,Am,Aj,zw] at hv;obtain⟨rfl,rfl⟩:=hv;simp only at t8 jp hnc hg hb;rw[qp] at t8 jp;subst Pd;obtain⟨q,hq⟩: ∃q,min m2 dl=q:=⟨_,rfl⟩;rw[hq] at hk;have Tq:Nat.min m2 dl=q:=hq;have kf:(ints k (src.take q)).length=q:=by rw[bY,ax];omega
 rcases fo m2 with hz|fb
 ·have ij:q=0:=G
  have kx:=run_copy_none (P:=P) w t t2 o.type e (some ⟨g,p,none⟩) A2 dl dc m2 c2 ht gd (by rw[hz];exact Nat.zero_min _);unfold Oper.wp execOp;simp only[ho,resolve,invoke,builtin,jw,pu,kg,um,jm,rz,hs.ev hx,hs.ev hy,kx,Oper.upon];refine hk (.int .i64 ((0:Nat):Int)) w R hw ⟨by rw[ij],?_⟩;rw[ij];simp only[zb,iw,rq]
  exact(by
   apply uz;intro j;rw[xz];split
   ·rename_i e;subst e;rw[dm (fw.1 hi).1,hi]
   ·rfl)
 ·obtain ⟨a2,rfl⟩: ∃a2,A2=some a2:=by
   obtain⟨a2,h,_⟩:=o7.at_ 0 _ (av (by rw[bY];omega));exact⟨a2,h⟩
  have kx:=run_copy_row P w t t2 o.type e g p dl dc a2 m2 c2 cur e (ints k (src.take q)) ht gd hg (by rw[kf];exact hq.symm) (λj v hv=>by
   obtain⟨b,h1,h2⟩:=o7.at_ j v (by
    rw[ints,Cu] at hv;rw[qb] at hv;split at hv
    ·exact hv
    ·cases hv)
   obtain rfl:=jg h1
   exact h2) (by rw[kf,jp];omega) (EZ k _)
  rw[kf] at kx;unfold Oper.wp execOp;simp only[ho,resolve,invoke,builtin,jw,pu,kg,um,jm,rz,hs.ev hx,hs.ev hy,kx,Oper.upon];refine hk (.int .i64 (q:Int)) _ _ ?_ ⟨rfl,rfl⟩;refine hw.upd hi (row:=some g) ⟨rfl,rfl,rfl,cD,λj _ hj=>Ki w g j _ (λe=>hj (by simp[e]))⟩ (ed _) (λj hj=>by cases hj;exact⟨_,rfl,rfl⟩) ?_ (λa' oe=> .inl ⟨a',oe,rfl⟩);unfold Row.lies;simp only;refine⟨?_, .inr ⟨g,c,_,rfl,hb,Lb w g cur _ e _ hg,G,sp,?_,?_⟩⟩
  ·simp only[bY,ah,ax];omega
  ·simp only[qx,ah,ax,bn,jq,bY];omega
  ·simp only[qp];rw[tT,<-t8]
   have h1:(cur.toList.take p++ints k (src.take q)).length=p+q:=by
    rw[ah,kf,ax,jq];omega
   rw[List.take_append,h1,bg G,Eh,zb,iw]
theorem aSr {x y:Operand} {t e:TypeId} {A:AF} {m c sz:Nat} {k1:IntKind} {vh:Int} (ht:P.underlying t=some (.slice e)) (hi:(P.info? e).map (·.size)=some sz) (hx:ev L x=some (.slice A m c)) (hy:ev L y=some (.int k1 vh)) (h0:0<=vh) (hc:vh<=c):
  Yl P n B w0 (.slice t x none (some y) none) ty L R (.slice A vh.toNat c):=by
 intro a w o ho _ hs hp;obtain⟨i0,aw,hsz0⟩:=je.1 hi;have wj:P.elem t=e:=by simp[Program.elem,ht]
 have sr:P.underlying t=some (.slice (P.elem t)):=by rw[wj];exact ht
 simp only[execOp,ho,kv,Bj,hs.ev hx,hs.ev hy,jw,Ak w t _ _ _ _ sr,run_slice_h w t A m c sr k1 vh h0 hc,wj]
 have:(if c=0 then A else Option.map (λx=>x.add 0) A)=A:=by
  split
  ·rfl
  ·exact EH A
 simp[sizeOf,typeInfo,aw,hsz0,sliced,this]
theorem aMy {x y z:Operand} {t e:TypeId} {A:AF} {m c h sz:Nat} {k1 k2:IntKind} {vh vm:Int} (ht:P.underlying t=some (.slice e)) (hi:(P.info? e).map (·.size)=some sz) (hx:ev L x=some (.slice A m c)) (hy:ev L y=some (.int k1 vh)) (hz:ev L z=some (.int k2 vm)) (e1:vh=(h:Int)) (e2:vm=(h:Int)) (hc:h<=c):
  Yl P n B w0 (.slice t x none (some y) (some z)) ty L R (.slice A h h):=by
 subst e1;subst e2;intro a w o ho _ hs hp;obtain⟨i0,aw,hsz0⟩:=je.1 hi;have wj:P.elem t=e:=by simp[Program.elem,ht]
 have sr:P.underlying t=some (.slice (P.elem t)):=by rw[wj];exact ht
 simp only[execOp,ho,kv,Bj,hs.ev hx,hs.ev hy,hs.ev hz,jw,Ak w t _ _ _ _ sr,run_slice_hm w t A m c sr k1 k2 (h:Int) (h:Int) G G G,wj]
 have:(if h=0 then A else Option.map (λx=>x.add 0) A)=A:=by
  split
  ·rfl
  ·exact EH A
 simp[sizeOf,typeInfo,aw,hsz0,sliced,this]
theorem Row.lies_ro {w:World} {e sz m c c':Nat} {A:AF} {xs:AG} (h:Row.lies B w ⟨e,sz,A,m,c,xs,false⟩) (hA:A≠none) (hc:m<=c'):Row.lies B w ⟨e,sz,A,m,c',xs,true⟩:=by
 have h1:=Row.lies_w h rfl;unfold Row.lies;simp only;obtain⟨hl,h2⟩:=h1;simp only at hl h2;rcases h2 with⟨hv,_⟩|⟨g,cap,cur,hv,hb,hg,hnc,sp,jp,ht⟩
 ·simp only[ko] at hv;exact absurd hv.1 hA
 ·simp only[ko] at hv;obtain⟨rfl,_,rfl⟩:=hv;exact⟨g,cur,_,rfl,hb,hg,G,hc,hl,ht⟩
theorem Hp.toRo {w:World} {e sz m c c':Nat} {A:AF} {xs:AG} (h:Hp B w0 w (⟨e,sz,A,m,c,xs,false⟩::R)) (hA:A≠none) (hc:m<=c'):Hp B w0 w (⟨e,sz,A,m,c',xs,true⟩::R):=
 ⟨h.below,h.base,λr hr=>by
  rcases jd.1 hr with rfl|hr
  ·exact Row.lies_ro (h.own _ (.head _)) hA hc
  ·exact h.own r (.tail _ hr),by
  obtain⟨h1,h2⟩:=ja.1 h.apart
  exact ja.2 ⟨λr hr=>h1 r hr,h2⟩,h.late⟩
theorem RdC.capI {A:AF} {m c c':Nat} {k:IntKind} {l:AH} (h:RdC B w0 R A m c 1 (ints k l)) (hc:m<=c'):RdC B w0 R A m c' 1 (ints k l):=λw hw=>
 let q:=h w hw
 ⟨q.len,q.max,hc,q.at_⟩
structure YX (u D:AH) (N:Nat) (p:Int):Prop where
 p0:0<=p
 pN:p<=N
 up:(u.length:Int)<=p
 len:(D.length:Int)=p
 at_: ∀j:Nat,j<p->lt D j=om u j
 dvd:p=N\/(u.length:Int)∣p
theorem bKl {D E:AH} {j:Nat}:lt (D++E) j=if j<D.length then lt D j else lt E (j-D.length):=by
 unfold lt;rw[ai];split
 ·rw[ji G,ai]
 ·rw[jk G,ai]
theorem lt_take {D:AH} {j q:Nat} (h:j<q):lt (D.take q) j=lt D j:=by
 unfold lt;rw[ai,qo h,ai]
theorem YX.init {u:AH} {N:Nat} (hu:u.length<=N):YX u ([]++u.take (min u.length N)) N ((min u.length N:Nat):Int):=by
 have e:min u.length N=u.length:=G
 rw[e,iv,qc];exact⟨G,G,G,rfl,λj hj=>(qH G).symm, .inr (Int.dvd_refl _)⟩
theorem YX.step {u D:AH} {N:Nat} {p:Int} (h:YX u D N p) (hu:0<u.length) (hp:p<N):
  YX u (D++(D.take (min p N).toNat).take (min (min p N).toNat (N-p.toNat))) N (p+((min (min p N).toNat (N-p.toNat):Nat):Int)):=by
 obtain⟨p0,pN,up,len,at_,dvd⟩:=h;have e:min p (N:Int)=p:=G
 rw[e];obtain⟨q,hq⟩: ∃q,min p.toNat (N-p.toNat)=q:=⟨_,rfl⟩;rw[hq];have hd:(u.length:Int)∣p:=dvd.resolve_left G;refine⟨G,G,G,by rw[ah,ax,ax];omega,λj hj=> ?_,?_⟩
 ·rw [bKl];split
  ·exact at_ j G
  ·rename_i hc;rw[lt_take G,lt_take G,at_ _ G];obtain⟨k,hk⟩:=hd
   have iu:0<=k:=by
    rcases cz k 0 with g|g
    ·have:=Ar (show(0:Int)<=u.length by omega) (show 0<= -k by omega);rw[Int.mul_neg] at this;omega
    ·exact g
   have e3:D.length=u.length*k.toNat:=by
    have:(D.length:Int)=((u.length*k.toNat:Nat):Int):=by rw[len,hk,Bi,mg iu]
    exact_mod_cast this
   have:=(qO u).mul k.toNat (j-D.length);rw[<-this,<-e3,su G]
 ·rcases gp q p.toNat with g|g
  ·left;omega
  ·right;have:(q:Int)=p:=G
   rw[this];exact Int.dvd_add hd hd
theorem YX.done {u D:AH} {cn:Int} {N:Nat} {p:Int} (h:YX u D N p) (hp: ¬p<N) (hN:N=cn.toNat*u.length):D=rep u cn:=by
 have hl:=h.len;have hpN:=h.pN;refine bI (by rw[oV];omega) λj h0 h1=> ?_;have h2:=h.at_ j.toNat G;have h3:=OB u cn.toNat j.toNat G;rw[PP,h2,<-h3];unfold rd rep;rw[dh]
end
end Go.Eng
