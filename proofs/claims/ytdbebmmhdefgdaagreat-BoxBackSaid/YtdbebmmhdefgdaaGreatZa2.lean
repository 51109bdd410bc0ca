/- Own work. -/
import Derived.Lib.BytesEntry
import Derived.Lib.AppendZeros
import Derived.Lib.MakeNoZero
import Derived.Laws.Externs
import Derived.Stop.BytesEq
import Derived.LoopNIn
import Derived.Test.YtdbebmmhdefgdaaGreatZa1
set_option linter.unusedVariables false
set_option linter.unusedSimpArgs false
set_option maxHeartbeats 8000000
namespace Go.Pure
open Go Go.Eng
variable {l ks order keys at_:AH} {n:Nat} {i k c x m:Int}
theorem bE {m:AH} (hl:l.length=m.length) (h: ∀j:Int,0<=j->j<l.length->rd l j=rd m j):l=m:=by
 apply sw hl;intro i h1 h2;have:=h i G G;unfold rd at this;rw[bq,af,af,av h1,av h2] at this;exact this
theorem iF {f:Nat->Int} (h0:0<=i) (h:i<n):rd ((List.range n).map f) i=f i.toNat:=by
 unfold rd;rw[af,kv,yz G];rfl
theorem tZ:rd (List.replicate n 0) i=0:=by
 unfold rd;rw[af,yl];split<;>rfl
def dY (ks:AH) (k:Int):AH:=(List.range k.toNat).map λc:Nat=>((ks.filter λx=>decide (x=(c:Int))).length:Int)
theorem dV (ks:AH) (k:Int):(dY ks k).length=k.toNat:=by simp[dY]
theorem ZI (k:Int):dY [] k=List.replicate k.toNat 0:=by
 unfold dY;simp only[List.filter_nil,jg];apply sw cD;intro i h1 h2;simp
theorem AR (h0:0<=c) (h:c<k):rd (dY ks k) c=((ks.filter λx=>decide (x=c)).length:Int):=by
 unfold dY;rw[iF h0 G];rw[show((c.toNat:Nat):Int)=c by omega]
theorem QV (h0:0<=x) (h:x<k):upd (dY ks k) x (rd (dY ks k) x+1)=dY (ks++[x]) k:=by
 refine bE (by rw[aT,dV,dV]) λj h1 h2=> ?_;rw[aT,dV] at h2;rw[gG h0 h1 (by rw[dV];omega),AR (ks:=ks++[x]) h1 G,sj,ai];by_cases e:j=x
 ·subst e;rw[di rfl,AR h1 G];simp
 ·rw [df e,AR h1 G]
  have:([x].filter λy=>decide (y=j))=[]:=by
   rw[kg (by simp;exact λh=>e h.symm)];rfl
  rw[this];simp
def cK (cs:AH):AH:=(List.range cs.length).map λi:Nat=>ps cs i
theorem eQ (cs:AH):(cK cs).length=cs.length:=by simp[cK]
theorem nN {cs:AH} (h0:0<=i) (h:i<cs.length):rd (cK cs) i=ps cs i:=by
 unfold cK;rw[iF h0 h];rw[show((i.toNat:Nat):Int)=i by omega]
def dU (order keys:AH) (c:Int):AH:=order.filter λi=>decide (rd keys i=c)
def bW (order keys:AH):Nat->AH
 |0=>[]
 |c+1=>bW order keys c++dU order keys c
theorem lG (h:rd keys i=c):dU (order++[i]) keys c=dU order keys c++[i]:=by
 unfold dU;rw[sj,ni (by simpa using h)];rfl
theorem nU (h:rd keys i≠c):dU (order++[i]) keys c=dU order keys c:=by
 unfold dU;rw[sj,kg (by simpa using h)];simp
theorem yD (order keys:AH) (c:Int) (m:Nat):(dU (order.take m) keys c).length<=(dU order keys c).length:=
 ((List.take_sublist m order).filter _).length_le
theorem aMv (order keys:AH) (h0:0<=c) (h:c<k):rd (dY (order.map (rd keys)) k) c=(dU order keys c).length:=by
 rw[AR h0 h,List.filter_map,az];rfl
theorem DU (order keys:AH) {k:Int}: ∀c:Nat,(c:Int)<=k->ps (dY (order.map (rd keys)) k) c=(bW order keys c).length
 |0,_=>rfl
 |c+1,h=>by
  rw[show((c+1:Nat):Int)=(c:Int)+1 by omega,mP G (by rw[dV];omega),DU order keys c G,aMv order keys G G];rw[bW,ai];omega
theorem yR (order keys:AH) {c d:Nat} (h:c<d):(bW order keys c).length+(dU order keys c).length<=(bW order keys d).length:=by
 induction d with
 |zero=>omega
 | succ d ih=>
  rw[bW,ai];rcases gu c d with a|a
  ·have:=ih a;omega
  ·have:c=d:=G
   subst this;omega
theorem nR {order:AH} {k:Nat} (hk: ∀i∈order,0<=rd keys i/\rd keys i<k):(bW order keys k).Perm order:=by
 have Xl: ∀c:Nat,(bW order keys c).Perm (order.filter λi=>decide (0<=rd keys i/\rd keys i<c)):=by
  intro c
  induction c with
  | zero=>
   have:(order.filter λi=>decide (0<=rd keys i/\rd keys i<(0:Nat)))=[]:=by
    rw[List.filter_eq_nil_iff];intro i _;simp only[zw];omega
   rw[this];exact .refl _
  | succ c ih=>
   rw[bW];refine(ih.append_right _).trans ?_;unfold dU
   have e:order.filter (λi=>decide (rd keys i=(c:Int)))=(order.filter λi=>decide (0<=rd keys i/\rd keys i<(c+1:Nat))).filter (λi=> ! decide (0<=rd keys i/\rd keys i<(c:Int))):=by
    rw[List.filter_filter];refine List.filter_congr λi _=> ?_;by_cases h:rd keys i=(c:Int)
    ·rw [ko h,ko (show 0<=rd keys i/\rd keys i<((c+1:Nat):Int) by omega),ol (show¬(0<=rd keys i/\rd keys i<(c:Int)) by omega)];rfl
    ·rw [ol h];by_cases h2:0<=rd keys i/\rd keys i<(c:Int)
     ·rw[ko h2];simp
     ·rw[ol (show¬(0<=rd keys i/\rd keys i<((c+1:Nat):Int)) by omega)];simp
   have e2:order.filter (λi=>decide (0<=rd keys i/\rd keys i<(c:Nat)))=(order.filter λi=>decide (0<=rd keys i/\rd keys i<(c+1:Nat))).filter (λi=>decide (0<=rd keys i/\rd keys i<(c:Int))):=by
    rw[List.filter_filter];refine List.filter_congr λi _=> ?_;by_cases h2:0<=rd keys i/\rd keys i<(c:Int)
    ·rw[ko h2,ko (show 0<=rd keys i/\rd keys i<((c+1:Nat):Int) by omega)];rfl
    ·rw[ol h2];rfl
   rw[e,e2];exact List.filter_append_perm _ _
 have:=Xl k;rwa[Ca.2 (λi hi=>by rw[iv];exact hk i hi)] at this
theorem XB {order keys l:AH}: ∀k:Nat,(bW order keys k).length<=l.length->(∀c:Nat,c<k-> ∀t:Nat,t<(dU order keys c).length->rd l ((bW order keys c).length+t)=rd (dU order keys c) t)->l.take (bW order keys k).length=bW order keys k
 |0,_,_=>rfl
 |k+1,hl,h=>by
  have ih:=XB (order:=order) (keys:=keys) (l:=l) k (by rw[bW,ai] at hl;omega) λc hc=>h c G;rw[bW,ai] at hl ⊢;rw[Iq,ih];congr 1;refine bE (by rw[ax,bn];omega) λj h1 h2=> ?_;rw[ax,bn] at h2;have:=h k G j.toNat G;rw[show((j.toNat:Nat):Int)=j by omega] at this;rw[<-this];unfold rd;rw[af,af,pg,di G,su];congr 2;omega
structure CX (order keys at_ l:AH) (k:Int) (m:Int):Prop where
 len:l.length=order.length
 alen:at_.length=k.toNat
 at_: ∀c:Int,0<=c->c<k->rd at_ c=(bW order keys c.toNat).length+(dU (order.take m.toNat) keys c).length
 row: ∀c:Int,0<=c->c<k-> ∀t:Int,0<=t->t<(dU (order.take m.toNat) keys c).length->rd l ((bW order keys c.toNat).length+t)=rd (dU (order.take m.toNat) keys c) t
theorem aCd:CX order keys (cK (dY (order.map (rd keys)) k)) (List.replicate order.length 0) k 0:=by
 refine⟨cD,by rw[eQ,dV],λc h0 h=> ?_,λc _ _ t _ ht=> ?_⟩
 ·rw [nN h0 (by rw[dV];omega)];have:=DU order keys (k:=k) c.toNat G;rw[show((c.toNat:Nat):Int)=c by omega] at this;rw[this];simp[dU]
 ·simp [dU] at ht;omega
theorem xK {order:AH} (hk: ∀i∈order,0<=rd keys i/\rd keys i<k):(bW order keys k.toNat).length=order.length:=(nR (k:=k.toNat) λi hi=>by have:=hk i hi;omega).length_eq
theorem CX.lt {order:AH} (h:CX order keys at_ l k m) (hk: ∀i∈order,0<=rd keys i/\rd keys i<k) (h0:0<=m) (hm:m<order.length):0<=rd at_ (rd keys (rd order m))/\rd at_ (rd keys (rd order m))<l.length:=by
 have hi:=hk _ (bF h0 hm);rw[h.at_ _ hi.1 hi.2,h.len];have e:order.take (m+1).toNat=order.take m.toNat++[rd order m]:=dF h0 hm;have h1:=yD order keys (rd keys (rd order m)) (m+1).toNat;rw[e,lG rfl,ai,ii] at h1;have h2:=yR order keys (c:=(rd keys (rd order m)).toNat) (d:=k.toNat) G;rw[xK hk,show(((rd keys (rd order m)).toNat:Nat):Int)=rd keys (rd order m) by omega] at h2;omega
theorem CX.step {order:AH} (h:CX order keys at_ l k m) (hk: ∀i∈order,0<=rd keys i/\rd keys i<k) (h0:0<=m) (hm:m<order.length):CX order keys (upd at_ (rd keys (rd order m)) (rd at_ (rd keys (rd order m))+1)) (upd l (rd at_ (rd keys (rd order m))) (rd order m)) k (m+1):=by
 have hi:=hk _ (bF h0 hm);have bo:=h.lt hk h0 hm;have e:order.take (m+1).toNat=order.take m.toNat++[rd order m]:=dF h0 hm;have rg:=h.at_ _ hi.1 hi.2;refine⟨by rw[aT];exact h.len,by rw[aT];exact h.alen,λc c0 c1=> ?_,λc c0 c1 t t0 t1=> ?_⟩
 ·rw [gG hi.1 c0 (by rw[h.alen];omega),e];by_cases hc:c=rd keys (rd order m)
  ·rw [di hc,rg,lG hc.symm,ai,hc];simp only[ii];omega
  ·rw[df hc,h.at_ c c0 c1,nU λh=>hc h.symm]
 ·rw [e] at t1 ⊢;have Nv: ∀c:Int,(dU (order.take m.toNat++[rd order m]) keys c).length<=(dU order keys c).length:=λc=>by rw[<-e];exact yD _ _ _ _
  rw[gG bo.1 G bo.2,rg];by_cases hc:c=rd keys (rd order m)
  ·subst hc;rw[lG rfl] at t1 ⊢;rw[ai,ii] at t1;by_cases ht:t=(dU (order.take m.toNat) keys (rd keys (rd order m))).length
   ·rw[di G,NQ ht]
   ·rw [df G,JY t0 G];exact h.row _ c0 c1 t t0 G
  ·rw [nU λh=>hc h.symm] at t1 ⊢;rw[df,h.row c c0 c1 t t0 t1];intro o8;have f1:=Nv c;rw[nU λh=>hc h.symm] at f1;have f2:=Nv (rd keys (rd order m));rw[lG rfl,ai,ii] at f2;rcases Int.lt_or_lt_of_ne hc with a|a
   ·have:=yR order keys (c:=c.toNat) (d:=(rd keys (rd order m)).toNat) G;rw[show((c.toNat:Nat):Int)=c by omega] at this;omega
   ·have:=yR order keys (c:=(rd keys (rd order m)).toNat) (d:=c.toNat) G;rw[show(((rd keys (rd order m)).toNat:Nat):Int)=rd keys (rd order m) by omega] at this;omega
theorem CX.done {order:AH} (h:CX order keys at_ l k m) (hk: ∀i∈order,0<=rd keys i/\rd keys i<k) (hm:m=order.length):l=bW order keys k.toNat:=by
 have ht:order.take m.toNat=order:=bi G
 have:=XB (order:=order) (keys:=keys) (l:=l) k.toNat (by rw[xK hk,h.len];exact dn _) λc hc t Ws=>by
  have hr:=h.row c G G t G;rw[ht] at hr;exact hr G
 rw[xK hk,<-h.len,qa] at this;exact this
theorem gX {order keys:AH} {r:Int->Int->Prop} (ho:order.Pairwise r): ∀k:Nat,(bW order keys k).Pairwise λx y=>rd keys x<rd keys y\/rd keys x=rd keys y/\r x y
 |0=> .nil
 | k +1=>by
  rw[bW];refine ow.2 ⟨gX ho k,?_,λx hx y hy=> ?_⟩
  ·refine ((ho.sublist (ui ..)).imp_of_mem λ{x y} hx hy h=> ?_:(dU order keys k).Pairwise _);have h1:=(mr.1 hx).2;have h2:=(mr.1 hy).2;rw[iv] at h1 h2;exact .inr ⟨G,h⟩
  ·have h2:=(mr.1 hy).2;rw[iv] at h2
   have: ∀c:Nat,∀z∈bW order keys c,rd keys z<c:=by
    intro c
    induction c with
    |zero=>intro z hz;cases hz
    | succ c ih=>
     intro z hz;rw[bW] at hz;rcases fo.1 hz with hz|hz
     ·have:=ih z hz;omega
     ·have h3:=(mr.1 hz).2;rw[iv] at h3;omega
   have:=this k x hx;exact .inl G
theorem MI:0<=rd (dY ks k) x/\rd (dY ks k) x<=ks.length:=by
 by_cases h:x.toNat<k.toNat
 ·have e:rd (dY ks k) x=((ks.filter λy=>decide (y=(x.toNat:Int))).length:Int):=by
   unfold rd dY;rw[af,kv,yz h];rfl
  have:=xm (λy=>decide (y=(x.toNat:Int))) ks;omega
 ·have e:rd (dY ks k) x=0:=by
   unfold rd;rw[af,lm (by rw[dV];omega)];rfl
  omega
theorem yM: ∀ {L:AH},(∀x∈L,0<=x)->0<=L.sum
 |[],_=>cD
 |x::L,h=>by
  have a:=h x cD;have b:=yM (L:=L) λy hy=>h y (fw _ hy);rw[ug];omega
theorem vM {L:AH} (h: ∀x∈L,0<=x) (k:Int):0<=ps L k/\ps L k<=L.sum:=by
 have e:L.sum=(L.take k.toNat).sum+(L.drop k.toNat).sum:=by rw[<-Cn,ik]
 have a:=yM (L:=L.take k.toNat) λy hy=>h y (ll hy);have b:=yM (L:=L.drop k.toNat) λy hy=>h y (ng hy);unfold ps;omega
theorem mE (ks:AH) (k:Int): ∀x∈dY ks k,0<=x:=by
 intro x hx;obtain⟨c,_,rfl⟩:=gz.1 hx;omega
theorem MH {order:AH} (h0:0<=k) (hk: ∀i∈order,0<=rd keys i/\rd keys i<k):(dY (order.map (rd keys)) k).sum=order.length:=by
 have:=DU order keys (k:=k) k.toNat G;rw[aCa (by rw[dV];omega),xK hk] at this;exact this
theorem eX {V:AH} {f:Int->Int} {v:Int} (h0:0<=i) (hi:i<V.length) (h: ∀j:Int,0<=j->j<i->rd V j=f j) (hv:v=f i): ∀j:Int,0<=j->j<i+1->rd (upd V i v) j=f j:=by
 intro j j0 j1;rw[gG h0 j0 hi];by_cases e:j=i
 ·rw[di e,e,hv]
 ·rw [df e];exact h j j0 G
variable {n i k b h:Nat} {x y:Int} {s out:AH}
def iota (n:Nat):AH:=(List.range n).map λi:Nat=>(i:Int)
theorem bC (n:Nat):(iota n).length=n:=by simp[iota]
theorem aV:x∈iota n↔0<=x/\x<n:=by
 unfold iota;rw[gz];constructor
 ·rintro ⟨i,hi,rfl⟩;have:=jm.1 hi;omega
 ·intro h;exact⟨x.toNat,jm.2 G,G⟩
theorem aLk {n:Int} (h:0<=n):iota (n+1).toNat=iota n.toNat++[n]:=by
 unfold iota;rw[show(n+1).toNat=n.toNat+1 by omega,zk,jc];simp only[jq,qo];rw[show((n.toNat:Nat):Int)=n by omega]
theorem aCv (n:Nat):(iota n).map Int.toNat=List.range n:=by
 unfold iota;rw[rq];have:(Int.toNat ∘ λi:Nat=>(i:Int))=id:=by funext i;simp
 rw[this,List.map_id]
def bV (s:AH) (x y:Int):Prop:=LtH s.length (eu s x.toNat) (eu s y.toNat)
theorem fU (x y:Int) (h:bV s x y): ¬bV s y x:=h.asymm
theorem KS (x y z:Int) (h:bV s x y) (h':bV s y z):bV s x z:=LtH.trans h h'
theorem aDj (hi:i<s.length) (hk:k<s.length) (h:EqH s.length (eu s i) (eu s k)):i=k:=by
 rcases xe i k with a|a|a
 ·have:=h (s.length-k) G;rw[jA (s:=s) (i:=k) G] at this;have:=rX (s:=s) (i:=i) (d:=s.length-k) G;omega
 ·exact a
 ·have:=h (s.length-i) G;rw[jA (s:=s) (i:=i) G] at this;have:=rX (s:=s) (i:=k) (d:=s.length-i) G;omega
theorem KR (hx:0<=x/\x<s.length) (hy:0<=y/\y<s.length) (h:x≠y):bV s x y\/bV s y x:=by
 rcases tri s.length (eu s x.toNat) (eu s y.toNat) with a|a|a
 ·exact .inl a
 ·have:=aDj G G a;omega
 ·exact .inr a
theorem iU:cmpL (s.drop x.toNat) (s.drop y.toNat)<0↔bV s x y:=by
 unfold bV;rw[<-wH];unfold tF;rw[bi (by rw[bn];omega),bi (by rw[bn];omega)]
theorem aCh {a b:AH} (ha:a.Perm (iota s.length)) (hb:b.Perm (iota s.length)) (sa:a.Pairwise (bV s)) (sb:b.Pairwise (bV s)):a=b:=
 DV fU (ha.trans hb.symm) sa sb
theorem zZ (hi:i<s.length):rkS s h i<s.length:=by
 have:rkS s h i<(List.range s.length).countP λ_=>true:=rZ (λ_ _ _=>rfl) ⟨i,jm.2 hi,by rw[uk,wH];exact λh=>h.asymm h,rfl⟩;simpa using this
theorem aXq (hi:i<s.length) (hk:k<s.length) (h:rkS s s.length i=rkS s s.length k):i=k:=aDj hi hk ((aFr hi hk).1 h)
theorem aFq {o:AH} {i:Int} (hp:o.Perm (iota s.length)) (hs:o.Pairwise λx y=>rkS s h x.toNat<=rkS s h y.toNat) (h0:0<=i) (hi:i<o.length) (Ps:0<i->rkS s h (rd o (i-1)).toNat≠rkS s h (rd o i).toNat):(rkS s h (rd o i).toNat:Int)=i:=by
 have jp: ∀j:Nat,∀h:j<(o.map Int.toNat).length,(o.map Int.toNat)[j]=(rd o j).toNat:=λj h=>by
  rw[az] at h;unfold rd;rw[bq,af,av h];simp
 have hl:i.toNat<(o.map Int.toNat).length:=by rw[az];omega
 have cv:(o.map Int.toNat).Perm (List.range s.length):=by
  have:=hp.map Int.toNat;rwa[aCv] at this
 have:=bDo (s:=s) (h:=h) (o:=o.map Int.toNat) (i:=i.toNat) cv (ib.2 hs) hl λhz=>by
  rw[jp _ G,jp _ hl];have:=Ps G;rwa[show((i.toNat-1:Nat):Int)=i-1 by omega,show((i.toNat:Nat):Int)=i by omega]
 rw[jp _ hl,show((i.toNat:Nat):Int)=i by omega] at this;omega
theorem places {b:AH} (hp:b.Perm (iota s.length)) (hs:b.Pairwise (bV s)) (hl:out.length=s.length) (h: ∀i:Nat,i<s.length->rd out (rkS s s.length i)=i):out=b:=by
 have b5:b.length=s.length:=by rw[hp.length_eq,bC]
 refine bE (hl.trans b5.symm) λj h0 h1=> ?_;have hm: ∀q:Int,0<=q->q<b.length->0<=rd b q/\rd b q<s.length:=λq a c=>aV.1 (hp.subset (bF a c))
 have mw:b.Pairwise λx y=>rkS s s.length x.toNat<=rkS s s.length y.toNat:=hs.imp_of_mem λ{x y} hx hy h=>by
  have:=aV.1 (hp.subset hx);exact Nat.le_of_lt ((vJ G).2 h)
 have bo: ∀q:Int,0<q->q<b.length->bV s (rd b (q-1)) (rd b q):=λq a c=>by
  have:=dz.1 hs (q-1).toNat q.toNat G G G;unfold rd;rw[af,af,av G,av G];exact this
 have hr:=aFq (i:=j) hp mw h0 G λhz=>by
  have:=(vJ (by have:=hm (j-1) G G;omega)).2 (bo j hz G);omega
 have hj:=hm j h0 G;have:=h (rd b j).toNat G;rw[hr] at this;rw[this];omega
theorem WT {m:Nat} (hm:m<s.length) (hl:out.length=s.length) (h: ∀i:Nat,i<m->rd out (rkS s s.length i)=i): ∀i:Nat,i<m+1->rd (upd out (rkS s s.length m) m) (rkS s s.length i)=i:=by
 intro i hi;have ht:=zZ (h:=s.length) hm;rw[gG G G G];by_cases e:i=m
 ·subst e;rw[di rfl]
 ·rw[df λhh=>e (aXq G hm G),h i G]
theorem bDn (hi:i<s.length):rkS s 1 i=s.countP λx=>decide (x<lt s i):=by
 unfold rkS
 have e: ∀k,k<s.length->tF s k 1=[lt s k]:=λk hk=>by
  unfold tF;rw[kz hk,List.take_succ_cons,zg];unfold lt;rw[af,av hk];rfl
 have h1:(List.range s.length).countP (λk=>decide (cmpL (tF s k 1) (tF s i 1)<0))=(List.range s.length).countP ((λx=>decide (x<lt s i)) ∘ lt s):=by
  refine Hu λk hk=> ?_;rw[e k (jm.1 hk),e i hi];show decide (cmpL [lt s k] [lt s i]<0)=true↔decide (lt s k<lt s i)=true;rw[iv,iv];simp only[cmpL];by_cases a:lt s k<lt s i
  ·rw [di a];exact⟨λ_=>a,λ_=>G⟩
  ·rw [df a];by_cases b:lt s i<lt s k
   ·rw [di b];exact⟨λh=>G,λh=>absurd h a⟩
   ·rw [df b];exact⟨λh=>G,λh=>absurd h a⟩
 rw[h1,<-List.countP_map];congr 1;apply sw cD;intro k h1 h2;simp[lt,af,av h2]
def rkL (s:AH) (h:Nat):AH:=(List.range s.length).map λi=>(rkS s h i:Int)
theorem AB (s:AH) (h:Nat):(rkL s h).length=s.length:=by simp[rkL]
theorem qM {i:Int} (h0:0<=i) (hi:i<s.length):rd (rkL s h) i=rkS s h i.toNat:=iF h0 G
def onL (s:AH) (n b:Nat):AH:=(List.range s.length).map λi=>(sJ s n (i+b):Int)
theorem aGi (s:AH) (n b:Nat):(onL s n b).length=s.length:=by simp[onL]
theorem vK {i:Int} (h0:0<=i) (hi:i<s.length):rd (onL s n b) i=sJ s n (i.toNat+b):=iF h0 G
theorem aFs:sJ s n i<=s.length:=by
 unfold sJ;split
 ·rename_i h;have:=zZ (h:=n) h;omega
 ·omega
def dB (s:AH) (n b:Nat):AH:=bW (bW (iota s.length) (onL s n b) (s.length+1)) (rkL s n) s.length
theorem uH (s:AH) (n b:Nat):(bW (iota s.length) (onL s n b) (s.length+1)).Perm (iota s.length):=
 nR λi hi=>by
  have:=aV.1 hi;rw[vK this.1 this.2];have:=aFs (s:=s) (n:=n) (i:=i.toNat+b);omega
theorem fV (s:AH) (n b:Nat):(dB s n b).Perm (iota s.length):=
 (nR λi hi=>by
  have:=aV.1 ((uH s n b).subset hi);rw[qM this.1 this.2];have:=zZ (s:=s) (h:=n) (i:=i.toNat) G
  omega).trans (uH s n b)
theorem FJ (hn:0<n) (hb:b<=n):(dB s n b).Pairwise λx y=>rkS s (n+b) x.toNat<=rkS s (n+b) y.toNat:=by
 have h1:(bW (iota s.length) (onL s n b) (s.length+1)).Pairwise λx y=>rd (onL s n b) x<rd (onL s n b) y\/rd (onL s n b) x=rd (onL s n b) y/\True:=
  gX (r:=λ_ _=>True) (List.pairwise_of_forall λ_ _=>trivial) _
 have h2:=gX (keys:=rkL s n) h1 s.length;refine h2.imp_of_mem λ{x y} hx hy h=> ?_;have mx:=aV.1 ((fV s n b).subset hx);have my:=aV.1 ((fV s n b).subset hy);rw[qM mx.1 mx.2,qM my.1 my.2,vK mx.1 mx.2,vK my.1 my.2] at h;refine Jk.1 λbo=> ?_;rw[aBr hn hb G G] at bo;omega
theorem join_step {i v:Int} (hn:0<n) (hb:b<=n) (h0:0<=i) (hi:i<s.length) (hl:out.length=s.length) (h: ∀p:Int,0<=p->p<i->rd out (rd (dB s n b) p)=rkS s (n+b) (rd (dB s n b) p).toNat)
  (hv:(0<i/\rd (rkL s n) (rd (dB s n b) (i-1))=rd (rkL s n) (rd (dB s n b) i)/\rd (onL s n b) (rd (dB s n b) (i-1))=rd (onL s n b) (rd (dB s n b) i)/\v=rkS s (n+b) (rd (dB s n b) (i-1)).toNat)\/
   (¬(0<i/\rd (rkL s n) (rd (dB s n b) (i-1))=rd (rkL s n) (rd (dB s n b) i)/\rd (onL s n b) (rd (dB s n b) (i-1))=rd (onL s n b) (rd (dB s n b) i))/\v=i)):
  ∀p:Int,0<=p->p<i+1->rd (upd out (rd (dB s n b) i) v) (rd (dB s n b) p)=rkS s (n+b) (rd (dB s n b) p).toNat:=by
 have hlen:(dB s n b).length=s.length:=by rw[(fV s n b).length_eq,bC]
 have hm: ∀q:Int,0<=q->q<s.length->0<=rd (dB s n b) q/\rd (dB s n b) q<s.length:=λq a c=>aV.1 ((fV s n b).subset (bF a G))
 have hnd:(dB s n b).Nodup:=(fV s n b).symm.nodup (by
  unfold iota
  exact ib.2 (vz.imp λ{x y} h hh=>h G))
 have hval:v=rkS s (n+b) (rd (dB s n b) i).toNat:=by
  have mi:=hm i h0 hi;rcases hv with⟨hz,e1,e2,e3⟩|⟨yd,e3⟩
  ·have mp:=hm (i-1) G G;rw[qM mp.1 mp.2,qM mi.1 mi.2] at e1;rw[vK mp.1 mp.2,vK mi.1 mi.2] at e2;rw[e3];have:=(JO (s:=s) (n:=n) (b:=b) (i:=(rd (dB s n b) (i-1)).toNat) (k:=(rd (dB s n b) i).toNat) hn hb G G).2 ⟨G,G⟩;omega
  ·rw [e3];refine(aFq (fV s n b) (FJ hn hb) h0 G λhz he=>yd ⟨hz,?_⟩).symm;have mp:=hm (i-1) G G;have:=(JO (s:=s) (n:=n) (b:=b) (i:=(rd (dB s n b) (i-1)).toNat) (k:=(rd (dB s n b) i).toNat) hn hb G G).1 he;rw[qM mp.1 mp.2,qM mi.1 mi.2,vK mp.1 mp.2,vK mi.1 mi.2];exact⟨G,G⟩
 intro p p0 p1;have mi:=hm i h0 hi;have mp:=hm p p0 G;rw[gG mi.1 mp.1 G];by_cases e:p=i
 ·subst e;rw[di rfl,hval]
 ·rw [df,h p p0 G];intro he;have cv:p.toNat<(dB s n b).length:=G
  have Qt:i.toNat<(dB s n b).length:=G
  unfold rd at he;rw[af,af,av cv,av Qt] at he;simp only[oh] at he;exact(dz.1 hnd p.toNat i.toNat cv Qt G) he
theorem aLi (hl:out.length=s.length) (h: ∀p:Int,0<=p->p<s.length->rd out (rd (dB s n b) p)=rkS s (n+b) (rd (dB s n b) p).toNat):out=rkL s (n+b):=by
 refine bE (hl.trans (AB _ _).symm) λj h0 h1=> ?_;have kx:=(fV s n b).symm.subset (aV.2 ⟨h0,G⟩:j∈iota s.length);obtain⟨q,hq,e⟩:=ic.1 kx;have hlen:(dB s n b).length=s.length:=by rw[(fV s n b).length_eq,bC]
 have:=h q G G
 have e2:rd (dB s n b) q=j:=by
  unfold rd;rw[bq,af,av hq];exact e
 rw[e2] at this;rw[this,qM h0 G]
def onF (l:AH) (i h:Int):Int:=if (l.length:Int)<=i+h then 0 else rd l (i+h)+1
theorem bEd {s:AH} {n b:Nat} {i:Int} (h0:0<=i) (hi:i<s.length):onF (rkL s n) i b=sJ s n (i.toNat+b):=by
 unfold onF sJ;rw[AB];by_cases h:(s.length:Int)<=i+b
 ·rw [di h,df G];rfl
 ·rw [df h,di G,qM G G,show(i+(b:Int)).toNat=i.toNat+b by omega];rfl
theorem aPx {s:AH} {h:Nat}: ∀x∈rkL s h,0<=x/\x<s.length:=by
 intro x hx;obtain⟨i,hi,rfl⟩:=gz.1 hx;have:=zZ (h:=h) (jm.1 hi);omega
theorem bEc {s:AH} {n b:Nat}: ∀x∈onL s n b,0<=x/\x<(s.length:Int)+1:=by
 intro x hx;obtain⟨i,hi,rfl⟩:=gz.1 hx;have:=aFs (s:=s) (n:=n) (i:=i+b);omega
theorem aGx {O:AH} {n:Nat} (hl:O.length=n) (h: ∀j:Int,0<=j->j<n->rd O j=j):O=iota n:=by
 refine bE (by rw[hl,bC]) λj h0 h1=> ?_;rw[h j h0 G];unfold iota;rw[iF h0 G];omega
theorem bEb {s O:AH} {n b:Nat} (hl:O.length=s.length) (h: ∀j:Int,0<=j->j<s.length->rd O j=sJ s n (j.toNat+b)):O=onL s n b:=by
 refine bE (by rw[hl,aGi]) λj h0 h1=> ?_;rw[h j h0 G,vK h0 G]
theorem QC (s:AH) (n b:Nat):(dB s n b).length=s.length:=by rw[(fV s n b).length_eq,bC]
theorem fZ {s:AH} {n b:Nat} {p:Int} (h0:0<=p) (h:p<s.length):0<=rd (dB s n b) p/\rd (dB s n b) p<s.length:=
 aV.1 ((fV s n b).subset (bF h0 (by rw[QC];exact h)))
theorem aLj {s:AH} {n b:Nat} {p q:Int} (p0:0<=p) (p1:p<s.length) (q0:0<=q) (q1:q<s.length) (h:rd (dB s n b) p=rd (dB s n b) q):p=q:=by
 have hl:=QC s n b
 have hnd:(dB s n b).Nodup:=(fV s n b).symm.nodup (by
  unfold iota
  exact ib.2 (vz.imp λ{x y} h hh=>h G))
 have hp:p.toNat<(dB s n b).length:=G
 have hq:q.toNat<(dB s n b).length:=G
 unfold rd at h;rw[af,af,av hp,av hq] at h;simp only[oh] at h;rcases je p q with a|a|a
 ·exact absurd h (dz.1 hnd p.toNat q.toNat hp hq G)
 ·exact a
 ·exact absurd h.symm (dz.1 hnd q.toNat p.toNat hq hp G)
theorem aWp {l:AH} {i a b:Int}:upd (upd l i a) i b=upd l i b:=by simp[upd]
section
variable {s V:AH} {n b:Nat} {p:Int}
theorem aCu (hn:0<n) (hb:b<=n) (h0:0<=p) (hp:p<s.length) (hl:V.length=s.length) (h: ∀q:Int,0<=q->q<p->rd V (rd (dB s n b) q)=rkS s (n+b) (rd (dB s n b) q).toNat)
  (hc: ¬((0<p/\rd (rkL s n) (rd (dB s n b) (p-1))=rd (rkL s n) (rd (dB s n b) p))/\rd (onL s n b) (rd (dB s n b) (p-1))=rd (onL s n b) (rd (dB s n b) p))):
  ∀q:Int,0<=q->q<p+1->rd (upd V (rd (dB s n b) p) p) (rd (dB s n b) q)=rkS s (n+b) (rd (dB s n b) q).toNat:=
 join_step hn hb h0 hp hl h (.inr ⟨λ⟨a,c,d⟩=>hc ⟨⟨a,c⟩,d⟩,rfl⟩)
theorem aLh (hn:0<n) (hb:b<=n) (h0:0<=p) (hp:p<s.length) (hl:V.length=s.length) (h: ∀q:Int,0<=q->q<p->rd V (rd (dB s n b) q)=rkS s (n+b) (rd (dB s n b) q).toNat)
  (hc:(0<p/\rd (rkL s n) (rd (dB s n b) (p-1))=rd (rkL s n) (rd (dB s n b) p))/\rd (onL s n b) (rd (dB s n b) (p-1))=rd (onL s n b) (rd (dB s n b) p)):
  ∀q:Int,0<=q->q<p+1->rd (upd (upd V (rd (dB s n b) p) p) (rd (dB s n b) p) (rd (upd V (rd (dB s n b) p) p) (rd (dB s n b) (p-1)))) (rd (dB s n b) q)=rkS s (n+b) (rd (dB s n b) q).toNat:=by
 obtain⟨⟨a,c⟩,d⟩:=hc;have m1:=fZ (s:=s) (n:=n) (b:=b) h0 hp;have m2:=fZ (s:=s) (n:=n) (b:=b) (p:=p-1) G G;rw[aWp,gG m1.1 m2.1 G,df λe=>by have:=aLj G G h0 hp e;omega];exact join_step hn hb h0 hp hl h (.inl ⟨a,c,d,h (p-1) G G⟩)
end
theorem aXo (s:AH) (i:Nat):rkS s 0 i=0:=by
 unfold rkS;rw[Bz];intro k _;simp[tF,cmpL]
theorem aPv (s:AH):rkL s 0=List.replicate s.length 0:=by
 unfold rkL;apply sw cD;intro i h1 h2;simp[aXo]
theorem bDp {s:AH} {h:Nat} (hh:s.length<=h):rkL s h=rkL s s.length:=by
 have e: ∀k,tF s k h=tF s k s.length:=λk=>by
  unfold tF;rw[bi (by rw[bn];omega),bi (by rw[bn];omega)]
 unfold rkL rkS;simp only[e]
theorem aPw {s:AH} (h:s.length=0) (a b:Nat):rkL s a=rkL s b:=by
 unfold rkL;rw[h];rfl
theorem fG (n:Nat):(iota n).Nodup:=by
 unfold iota;exact ib.2 (vz.imp λ{x y} h hh=>h G)
theorem pM (s:AH): ∃b:AH,b.Perm (iota s.length)/\b.Pairwise (bV s):=by
 rcases fe s.length with z|z
 ·rw [z];exact⟨[], .refl _, .nil⟩
 ·refine ⟨dB s s.length 0,fV s _ 0,?_⟩;have h1:=FJ (s:=s) (n:=s.length) (b:=0) z (qh _);have h2:(dB s s.length 0).Nodup:=(fV s _ 0).symm.nodup (fG _);refine(h1.and h2).imp_of_mem λ{x y} hx hy h=> ?_;have mx:=aV.1 ((fV s _ 0).subset hx);have my:=aV.1 ((fV s _ 0).subset hy);rcases KR mx my h.2 with a|a
  ·exact a
  ·exfalso;have:=(vJ (s:=s) (h:=s.length) (i:=y.toNat) (k:=x.toNat) G).2 a;have:=h.1;simp only[qf] at this;omega
end Go.Pure
namespace Go.Eng
open Go Go.RowKit
def bools (l:List Bool):AG:=l.map Value.bool
def rdb (l:List Bool) (i:Int):Bool:=l.getD i.toNat false
def qH (l:List Bool) (i:Int) (v:Bool):List Bool:=l.set i.toNat v
theorem UC (l:List Bool):(bools l).length=l.length:=by simp[bools]
theorem aNe (l:List Bool) (i:Int) (v:Bool):(bools l).set i.toNat (.bool v)=bools (qH l i v):=by simp[bools,qH,List.map_set]
theorem aVi {l:List Bool} {i:Int} (h0:0<=i) (h:i<l.length):(bools l)[i.toNat]? =some (.bool (rdb l i)):=by
 have hl:i.toNat<l.length:=G
 simp[bools,rdb,af,av hl]
theorem aKc (m:Nat) (x:Bool):List.replicate m (Value.bool x)=bools (List.replicate m x):=by simp[bools]
theorem kZ (l:List Bool) (i:Int) (v:Bool):(qH l i v).length=l.length:=by simp[qH]
theorem xH {l:List Bool} {i j:Int} {v:Bool} (h0:0<=i) (h:i<l.length) (j0:0<=j):rdb (qH l i v) j=if j=i then v else rdb l j:=by
 unfold rdb qH;rw[af,wz,af];by_cases e:j=i
 ·subst e;rw[di rfl,di G,di rfl];rfl
 ·rw[df G,df e]
theorem GY (m:Nat) (i:Int):rdb (List.replicate m false) i=false:=by
 unfold rdb;rw[af,yl];split<;>rfl
theorem aNf {l m:List Bool} (hl:l.length=m.length) (h: ∀i:Int,0<=i->i<l.length->rdb l i=rdb m i):l=m:=by
 apply sw hl;intro i h1 h2;have:=h i G G;simpa [rdb,af,av h1,av h2] using this
section
variable {P:Program} {n:Nd} {B:Nat} {w0:World} {L:Env} {R:List Row} {ty:TypeId}
theorem Rd.lenB {w:World} {A:AF} {m c:Nat} {l:List Bool} (h:Rd w A m c 1 (bools l)):m=l.length:=by
 have:=h.len;rw[UC] at this;omega
theorem EO {x:Operand} {t:TypeId} {d:TypeDesc} {A:AF} {m c:Nat} {l:List Bool} {i:Int} (hu:P.underlying t=some d) (hd:NC d=false) (hx:ev L x=some (.pointer (pat A i.toNat))) (hr:RdC B w0 R A m c 1 (bools l)) (h0:0<=i:=by omega) (h1:i<m:=by omega):
  Yl P n B w0 (.load t x) ty L R (.bool (decide (rdb l i=true))):=by
 intro a w o ho Iv hs hw;have hl:=(hr w hw).lenB;rw[show decide (rdb l i=true)=rdb l i by cases rdb l i<;>rfl];exact pI hu hd hx rfl hr (aVi h0 G) a w o ho Iv hs hw
theorem wM {x y:Operand} {t e:TypeId} {j:Int} {v:Bool} {A:AF} {m c:Nat} {l:List Bool} (i:Nat) (hi:R[i]? =some ⟨e,1,A,m,c,bools l,false⟩) (ff:(P.info? t).map (·.size)=some 1) (hx:ev L x=some (.pointer (pat A j.toNat))) (hy:ev L y=some (.bool v)) (h0:0<=j:=by omega) (h1:j<m:=by omega):
  Ac P n B w0 (.store t x y) ty L R (λ_ R'=>R'=R.set i ⟨e,1,A,m,c,bools (qH l j v),false⟩):=by
 intro a w o K Q ho Iv hs hp hk;have fc:=Row.lies_w (hp.own _ (gq hi)) rfl;have jp:=Row.rd (hp.own _ (gq hi));have hl:=jp.len
 obtain⟨g,hA⟩: ∃g,A=some ⟨g,0,none⟩:=by
  rcases fc.2 with⟨_,hn⟩|⟨g,cap,cur,hv,_⟩
  ·simp only at hn;omega
  ·simp only[jv] at hv;exact⟨g,hv.1⟩
 have:=UJ (P:=P) (n:=n) (B:=B) (w0:=w0) (ty:=ty) i hi rfl hA ff hx rfl hy rfl rfl (by rw[hl];simp only;omega);simp only[aNe] at this;exact this a w o K Q ho Iv hs hp hk
theorem UK {x y:Operand} {t e:TypeId} {bytes:Nat} {m:Int} (ht:P.underlying t=some (.slice e)) (dq:(P.info? e).map (λi=>(i.zero,i.size,i.bytes))=some (some (.bool false),1,bytes))
  (hx:ev L x=some (.int .i64 m)) (hy:ev L y=some (.int .i64 m)) (h0:0<=m) (hm:m*bytes<=281474976710656) (Kx:m<=9223372036854775807):
  Ac P n B w0 (.makeSlice t x y) ty L R (λv R'=> ∃g,v= .slice (some ⟨g,0,none⟩) m.toNat m.toNat/\R'=⟨e,1,some ⟨g,0,none⟩,m.toNat,m.toNat,bools (List.replicate m.toNat false),false⟩::R):=by
 have:=aIi (P:=P) (n:=n) (B:=B) (w0:=w0) (L:=L) (R:=R) (ty:=ty) ht dq rfl hx hy h0 hm Kx;simpa only[aKc] using this
end
end Go.Eng
namespace Go.Pure
open Go Go.Eng
def smB (s:AH) (i:Int):Bool:=decide (cmpL (s.drop i.toNat) (s.drop (i+1).toNat)<0)
theorem yG {a b:Int} {u v:AH}:cmpL (a::u) (b::v)<0↔a<b\/a=b/\cmpL u v<0:=by
 rw[cmpL];rcases je a b with c|c|c
 ·rw[di c];exact⟨λ_=> .inl c,λ_=>G⟩
 ·subst c;rw[df G,df G];exact⟨λh=> .inr ⟨rfl,h⟩,λh=>h.elim (λh=>G) λh=>h.2⟩
 ·rw [df G,di c];exact⟨λh=>G,λh=>h.elim (λh=>G) λh=>G⟩
theorem gM {s:AH} {i:Int} (h0:0<=i) (h:i<s.length):s.drop i.toNat=rd s i::s.drop (i+1).toNat:=eP h0 h
theorem wF {s:AH} {i:Int} (h:(s.length:Int)<=i):s.drop i.toNat=[]:=qm G
theorem mQ {s:AH} {p q:Int} (p0:0<=p) (hp:p<s.length) (q0:0<=q) (hq:q<s.length):bV s p q↔rd s p<rd s q\/rd s p=rd s q/\cmpL (s.drop (p+1).toNat) (s.drop (q+1).toNat)<0:=by
 rw[<-iU,gM p0 hp,gM q0 hq,yG]
theorem qK {s:AH} {i:Int} (h0:0<=i) (h:(s.length:Int)<=i+1):smB s i=false:=by
 unfold smB;rw[wF h,uk];by_cases a:i<s.length
 ·rw[gM h0 a];simp[cmpL]
 ·rw[wF G];simp[cmpL]
theorem vF {s:AH} {i:Int} (h0:0<=i) (h:i+1<s.length):smB s i=true↔rd s i<rd s (i+1)\/rd s i=rd s (i+1)/\smB s (i+1)=true:=by
 unfold smB;rw[iv,iv,gM h0 G,gM (s:=s) (i:=i+1) G h,yG]
def isL (s:AH) (p:Int):Prop:=(0<=p/\p<s.length)/\smB s p=false
def isS (s:AH) (p:Int):Prop:=(0<=p/\p<s.length)/\smB s p=true
theorem qR {s:AH} {p:Int} (h:0<=p/\p<s.length):isL s p\/isS s p:=by
 cases e:smB s p with
 |false=>exact .inl ⟨h,e⟩
 |true=>exact .inr ⟨h,e⟩
theorem isL.not_S {s:AH} {p:Int} (h:isL s p): ¬isS s p:=λh'=>by
 have a:=h'.2;rw[h.2] at a;cases a
theorem isL.next {s:AH} {p:Int} (h:isL s p) (hp:p+1<s.length):rd s (p+1)<=rd s p/\(rd s p=rd s (p+1)->isL s (p+1)):=by
 have hn: ¬smB s p=true:=by rw[h.2];simp
 rw[vF h.1.1 hp] at hn;refine⟨Int.not_lt.1 λbo=>hn (.inl bo),λe=>⟨⟨by have:=h.1.1;omega,hp⟩,?_⟩⟩;cases e2:smB s (p+1) with
 |false=>rfl
 |true=>exact absurd (.inr ⟨e,e2⟩) hn
theorem isS.next {s:AH} {p:Int} (h:isS s p):p+1<s.length/\rd s p<=rd s (p+1)/\(rd s p=rd s (p+1)->isS s (p+1)):=by
 have hp:p+1<s.length:=by
  rcases bu (p+1) s.length with a|a
  ·exact a
  ·have:=qK h.1.1 a;rw[h.2] at this;cases this
 have hs:=(vF h.1.1 hp).1 h.2;have h0:=h.1.1;refine⟨hp,G,λe=>⟨⟨G,hp⟩,?_⟩⟩;rcases hs with a|a
 ·omega
 ·exact a.2
theorem FH {s:AH}: ∀(m:Nat) (p q:Int),s.length-p<=m->isL s p->isS s q->rd s p=rd s q->bV s p q
 |0,p,q,hm,hp,_,_=>by have:=hp.1;omega
 | m+1,p,q,hm,hp,hq,e=>by
  rw[mQ hp.1.1 hp.1.2 hq.1.1 hq.1.2];refine .inr ⟨e,?_⟩;obtain⟨i8,hq2,hq3⟩:=hq.next;have q0:=hq.1.1;have p0:=hp.1.1;rcases bu (p+1) s.length with a|a
  ·obtain ⟨nf,wc⟩:=hp.next a;rw[iU (s:=s),mQ G a G i8];rcases bu (rd s (p+1)) (rd s (q+1)) with b|b
   ·exact .inl b
   ·have e1:rd s p=rd s (p+1):=G
    have e2:rd s q=rd s (q+1):=G
    have:=FH m (p+1) (q+1) G (wc e1) (hq3 e2) G;rw[mQ G a G i8] at this;exact this
  ·rw [wF a,gM G i8];simp[cmpL]
theorem aCk {s:AH} {p q:Int} (hp:isL s p) (hq:isS s q) (e:rd s p=rd s q):bV s p q:=FH (s.length-p).toNat p q G hp hq e
theorem KQ {s:AH} {p q:Int} (p0:0<=p) (hp:p+1<s.length) (q0:0<=q) (hq:q+1<s.length) (e:rd s p=rd s q) (h:bV s (p+1) (q+1)):bV s p q:=by
 rw[mQ p0 G q0 G];exact .inr ⟨e,iU.2 h⟩
theorem sN {s:AH} {p q:Int} (hp:0<=p/\p<s.length) (hq:0<=q/\q<s.length) (h:rd s p<rd s q):bV s p q:=by
 rw[mQ hp.1 hp.2 hq.1 hq.2];exact .inl h
theorem aRf {s:AH} {q:Int} (hn:0<s.length) (q0:0<=q) (hq:q+1<s.length) (e:rd s (s.length-1)=rd s q):bV s (s.length-1) q:=by
 rw[mQ G G q0 G];refine .inr ⟨e,?_⟩;rw[wF G,gM G hq];simp[cmpL]
def gB (s:AH) (i:Int):Bool:=decide (0<i) && smB s i && !smB s (i-1)
theorem mV {s:AH} {i:Int}:gB s i=true↔0<i/\smB s i=true/\smB s (i-1)=false:=by
 unfold gB;rw[pz,pz,iv];simp only[Bool.not_eq_true',and_assoc]
def bJ (s:AH):AH:=(iota s.length).filter λi=>gB s i
theorem sW {s:AH} {i:Int}:i∈bJ s↔(0<=i/\i<s.length)/\gB s i=true:=by
 unfold bJ;rw[mr,aV]
theorem yY (s:AH):(bJ s).Nodup:=(fG _).sublist ui
theorem nY {α:Type} [DecidableEq α]: ∀ {l m:List α},l.Nodup->(∀x∈l,x∈m)->l.length<=m.length
 |[],_,_,_=>qh _
 | a::l,m,hd,h=>by
  obtain⟨h1,h2⟩:=ve.1 hd;have ha:=h a cD
  have:=nY (l:=l) (m:=m.erase a) h2 λx hx=>by
   have hxa:x≠a:=λe=>h1 (e▸hx);exact(Fv hxa).2 (h x (fw _ hx))
  rw[Cf ha] at this;have hp:=Dt ha;simp only[dm];omega
theorem qO {α:Type} [DecidableEq α]: ∀ {l m:List α},l.Nodup->(∀x∈l,x∈m)->m.length<=l.length->l.Perm m
 |[],m,_,_,h=>by
  have:m=[]:=dx (by simpa using h);rw[this]
 | a::l,m,hd,h,hl=>by
  obtain⟨h1,h2⟩:=ve.1 hd;have ha:=h a cD;have hp:=Dt ha
  have:=qO (l:=l) (m:=m.erase a) h2 (λx hx=>by
   have hxa:x≠a:=λe=>h1 (e▸hx)
   exact(Fv hxa).2 (h x (fw _ hx))) (by
   rw[Cf ha];simp only[dm] at hl
   omega)
  exact(this.cons a).trans (List.perm_cons_erase ha).symm
def seg (row:AH) (a b:Int):AH:=(List.range (b-a).toNat).map λt:Nat=>rd row (a+t)
theorem aFn (row:AH) (a b:Int):(seg row a b).length=(b-a).toNat:=by simp[seg]
theorem HY {row:AH} {a b x:Int}:x∈seg row a b↔ ∃q,a<=q/\q<b/\rd row q=x:=by
 unfold seg;rw[gz];constructor
 ·rintro ⟨t,ht,rfl⟩;have:=jm.1 ht;exact⟨a+t,G,G,rfl⟩
 ·rintro ⟨q,h1,h2,rfl⟩;exact⟨(q-a).toNat,jm.2 G,by rw[show a+((q-a).toNat:Int)=q by omega]⟩
def Once (row:AH):Prop:= ∀q r:Int,0<=q->q<row.length->0<=r->r<row.length->0<=rd row q->rd row q=rd row r->q=r
theorem OZ {row:AH} (h:Once row) {a b:Int} (ha:0<=a) (hb:b<=row.length) (hp: ∀q,a<=q->q<b->0<=rd row q):(seg row a b).Nodup:=by
 unfold seg;refine ib.2 (ku (λ{x y} hx hy cg he=> ?_) vz);have yk:=jm.1 hx;have hy':=jm.1 hy;have:=h (a+x) (a+y) G G G G (hp _ G G) he;exact cg G
section
variable (s:AH) (k:Int)
def st (c:Int):Int:=ps (dY s k) c
def FX (c:Int):AH:=(iota s.length).filter λp=>decide (rd s p=c) && !smB s p
def FW (c:Int):AH:=(iota s.length).filter λp=>decide (rd s p=c) && smB s p
end
section
variable {s:AH} {k:Int}
theorem KZ {c p:Int}:p∈FX s c↔isL s p/\rd s p=c:=by
 unfold FX isL;rw[mr,aV,pz,iv];simp only[Bool.not_eq_true'];exact⟨λ⟨a,b,c⟩=>⟨⟨a,c⟩,b⟩,λ⟨⟨a,c⟩,b⟩=>⟨a,b,c⟩⟩
theorem KY {c p:Int}:p∈FW s c↔isS s p/\rd s p=c:=by
 unfold FW isS;rw[mr,aV,pz,iv];exact⟨λ⟨a,b,c⟩=>⟨⟨a,c⟩,b⟩,λ⟨⟨a,c⟩,b⟩=>⟨a,b,c⟩⟩
theorem aWv:st s k 0=0:=rfl
theorem lX (s:AH):(iota s.length).map (rd s)=s:=by
 refine bE (by rw[az,bC]) λj h0 h1=> ?_;rw[az,bC] at h1;have:(iota s.length).map (rd s)=(List.range s.length).map λi:Nat=>rd s i:=by unfold iota;rw[rq];rfl
 rw[this,iF h0 h1,show((j.toNat:Nat):Int)=j by omega]
theorem kM {c:Int} (h0:0<=c) (h:c<k):st s k (c+1)=st s k c+(FX s c).length+(FW s c).length:=by
 unfold st;rw[mP h0 (by rw[dV];omega),AR h0 h]
 have e:(s.filter λx=>decide (x=c)).length=((iota s.length).filter λp=>decide (rd s p=c)).length:=by
  conv=>lhs;rw[<-lX s]
  rw[List.filter_map,az];rfl
 have e2:((iota s.length).filter λp=>decide (rd s p=c)).length=(FX s c).length+(FW s c).length:=by
  unfold FX FW;generalize iota s.length=l
  induction l with
  |nil=>rfl
  | cons a l ih=>
   by_cases h:rd s a=c
   ·cases hb:smB s a with
    |true=>rw[ni (by simpa using h),kg (by simp[hb]),ni (by simp[h,hb])];simp only[dm];omega
    |false=>rw[ni (by simpa using h),ni (by simp[h,hb]),kg (by simp[hb])];simp only[dm];omega
   ·rw [kg (by simpa using h),kg (by simp[h]),kg (by simp[h])];exact ih
 rw[e,e2];omega
theorem kN {c d:Int} (h0:0<=c) (o4:c<d) (hd:d<=k):st s k (c+1)<=st s k d:=by
 obtain⟨m,rfl⟩: ∃m:Nat,d=c+1+m:=⟨(d-c-1).toNat,G⟩
 induction m with
 |zero=>simp
 |succ m ih=>
  have:=ih G G;have e:=kM (s:=s) (k:=k) (c:=c+1+m) G G;rw[show c+1+((m+1:Nat):Int)=c+1+m+1 by omega];omega
theorem fI {c:Int}:0<=st s k c:=(vM (mE s k) c).1
theorem aBd (hk:0<=k) (hs: ∀x∈s,0<=x/\x<k):st s k k=s.length:=by
 unfold st;rw[aCa (by rw[dV];omega)]
 have:=MH (order:=iota s.length) (keys:=s) (k:=k) hk λi hi=>by
  have:=aV.1 hi;exact hs _ (bF this.1 this.2)
 rw[lX,bC] at this;exact this
theorem yA (hk:0<=k) (hs: ∀x∈s,0<=x/\x<k) {c:Int} (h0:0<=c) (h:c<=k):st s k c<=s.length:=by
 rcases bu c k with a|a
 ·have h1:=kM (s:=s) h0 a;have h2:=kN (s:=s) h0 a (lq k);rw[aBd hk hs] at h2;omega
 ·rw [show c=k by omega,aBd hk hs];omega
theorem gN (hk:0<=k) (hs: ∀x∈s,0<=x/\x<k) {q:Int} (q0:0<=q) (hq:q<s.length): ∃c,(0<=c/\c<k)/\st s k c<=q/\q<st s k (c+1):=by
 have Xl: ∀m:Nat,(m:Int)<=k->q<st s k m-> ∃c,(0<=c/\c<k)/\st s k c<=q/\q<st s k (c+1):=by
  intro m
  induction m with
  |zero=>intro _ h;rw[show((0:Nat):Int)=0 from rfl,aWv] at h;omega
  |succ m ih=>
   intro hm h;rcases bu q (st s k m) with a|a
   ·exact ih G a
   ·exact⟨m,G,a,by rw[show((m:Int)+1)=((m+1:Nat):Int) by omega];exact h⟩
 have:=Xl k.toNat G;rw[show((k.toNat:Nat):Int)=k by omega,aBd hk hs] at this;exact this hq
theorem oF {c d q:Int} (c0:0<=c) (ck:c<k) (d0:0<=d) (dk:d<k) (h1:st s k c<=q) (h2:q<st s k (c+1)) (h3:st s k d<=q) (h4:q<st s k (d+1)):c=d:=by
 rcases je c d with a|a|a
 ·have:=kN (s:=s) c0 a (by omega:d<=k);omega
 ·exact a
 ·have:=kN (s:=s) d0 a (by omega:c<=k);omega
end
end Go.Pure
namespace Go.Pure
open Go Go.Eng
section
variable {s:AH} {k:Int} {R:Int->Int->Prop}
structure aWf (s:AH) (R:Int->Int->Prop):Prop where
 char: ∀ {p q:Int},0<=p/\p<s.length->0<=q/\q<s.length->rd s p<rd s q->R p q
 ls: ∀ {p q:Int},isL s p->isS s q->rd s p=rd s q->R p q
 last: ∀ {q:Int},0<s.length->0<=q->q+1<s.length->rd s (s.length-1)=rd s q->isL s q->R (s.length-1) q
 backL: ∀ {p q:Int},isL s p->isL s q->p+1<s.length->q+1<s.length->rd s p=rd s q->R (p+1) (q+1)->R p q
structure uS (s:AH) (k:Int) (R:Int->Int->Prop) (mF:Int->Int) (row:AH):Prop where
 len:row.length=s.length
 m0: ∀c,0<=c->c<k->0<=mF c/\mF c<=(FW s c).length
 some_: ∀c q,0<=c->c<k->st s k (c+1)-mF c<=q->q<st s k (c+1)->isS s (rd row q)/\rd s (rd row q)=c
 none_: ∀c q,0<=c->c<k->st s k c<=q->q<st s k (c+1)-mF c->rd row q= -1
 once:Once row
 all: ∀p:Int,0<=p->p<s.length->gB s p=true-> ∃q:Int,0<=q/\q<s.length/\rd row q=p
 sorted: ∀a b:Int,0<=a->a<b->b<s.length->0<=rd row a->0<=rd row b->R (rd row a) (rd row b)
structure jF (s:AH) (k:Int) (R:Int->Int->Prop) (mF:Int->Int) (row0 row H:AH) (C:Int->Prop):Prop where
 len:row.length=s.length
 hlen:H.length=k.toNat
 hH: ∀c,0<=c->c<k->st s k c<=rd H c/\rd H c<=st s k c+(FX s c).length
 placed: ∀c q,0<=c->c<k->st s k c<=q->q<rd H c->isL s (rd row q)/\rd s (rd row q)=c
 rest: ∀c q,0<=c->c<k->rd H c<=q->q<st s k (c+1)->rd row q=rd row0 q
 once:Once row
 closed: ∀p,isL s p->((∃q:Int,0<=q/\q<s.length/\rd row q=p)↔C p)
 sorted: ∀a b:Int,0<=a->a<b->b<s.length->0<=rd row a->0<=rd row b->R (rd row a) (rd row b)
variable (hk:0<=k) (hs: ∀x∈s,0<=x/\x<k) (hR:aWf s R)
theorem mY (hs: ∀x∈s,0<=x/\x<k) {p:Int} (h:0<=p/\p<s.length):0<=rd s p/\rd s p<k:=hs _ (bF h.1 h.2)
variable {mF:Int->Int} {row0 row H:AH} {C:Int->Prop}
theorem jF.at_ (h:jF s k R mF row0 row H C) (b:uS s k R mF row0) {c q:Int} (c0:0<=c) (ck:c<k) (h1:st s k c<=q) (h2:q<st s k (c+1)):
  (q<rd H c/\isL s (rd row q)/\rd s (rd row q)=c)\/(rd H c<=q/\isS s (rd row q)/\rd s (rd row q)=c)\/(rd H c<=q/\rd row q= -1):=by
 rcases bu q (rd H c) with a|a
 ·exact .inl ⟨a,h.placed c q c0 ck h1 a⟩
 ·rw [h.rest c q c0 ck a h2];rcases bu q (st s k (c+1)-mF c) with d|d
  ·exact .inr (.inr ⟨a,b.none_ c q c0 ck h1 d⟩)
  ·exact .inr (.inl ⟨a,b.some_ c q c0 ck d h2⟩)
include hk hs in
theorem jF.entry (h:jF s k R mF row0 row H C) (b:uS s k R mF row0) {q:Int} (q0:0<=q) (hq:q<s.length):rd row q= -1\/(0<=rd row q/\rd row q<s.length):=by
 obtain⟨c,⟨c0,ck⟩,h1,h2⟩:=gN hk hs q0 hq;rcases h.at_ b c0 ck h1 h2 with a|a|a
 ·exact .inr a.2.1.1
 ·exact .inr a.2.1.1
 ·exact .inl a.2
theorem GR {b:uS s k R mF row0} {c:Int} (c0:0<=c) (ck:c<k):st s k c+(FX s c).length<=st s k (c+1)-mF c:=by
 have:=kM (s:=s) c0 ck;have:=b.m0 c c0 ck;omega
include hk hs in
theorem jF.room (h:jF s k R mF row0 row H C) (b:uS s k R mF row0) {p:Int} (hp:isL s p) (hn: ¬ ∃q:Int,0<=q/\q<s.length/\rd row q=p):
  (st s k (rd s p)<=rd H (rd s p)/\rd H (rd s p)<st s k (rd s p)+(FX s (rd s p)).length)/\rd row (rd H (rd s p))= -1/\(0<=rd H (rd s p)/\rd H (rd s p)<s.length)/\rd H (rd s p)<st s k (rd s p+1):=by
 obtain⟨c0,ck⟩:=mY hs hp.1;have hH:=h.hH _ c0 ck;have oy:=GR (b:=b) c0 ck;have mw:=yA hk hs (c:=rd s p+1) G G;have k8:=fI (s:=s) (k:=k) (c:=rd s p);have hm:=b.m0 _ c0 ck
 have bo:rd H (rd s p)<st s k (rd s p)+(FX s (rd s p)).length:=by
  have kx: ∀x∈p::seg row (st s k (rd s p)) (rd H (rd s p)),x∈FX s (rd s p):=by
   intro x hx;rcases iw.1 hx with rfl|hx
   ·exact KZ.2 ⟨hp,rfl⟩
   ·obtain ⟨q,q1,q2,rfl⟩:=HY.1 hx;exact KZ.2 (h.placed _ q c0 ck q1 q2)
  have hnd:(p::seg row (st s k (rd s p)) (rd H (rd s p))).Nodup:=by
   refine ve.2 ⟨λhx=> ?_,OZ h.once k8 (by rw[h.len];omega) λq q1 q2=>(h.placed _ q c0 ck q1 q2).1.1.1⟩;obtain⟨q,q1,q2,e⟩:=HY.1 hx;exact hn ⟨q,G,G,e⟩
  have:=nY hnd kx;rw[dm,aFn] at this;omega
 refine⟨⟨hH.1,bo⟩,?_,⟨G,G⟩,G⟩;rw[h.rest _ _ c0 ck (lq _) G,b.none_ _ _ c0 ck hH.1 G]
include hk hs hR in
theorem jF.lay (h:jF s k R mF row0 row H C) (b:uS s k R mF row0) {p:Int} {C':Int->Prop} (hp:isL s p) (hn: ¬ ∃q:Int,0<=q/\q<s.length/\rd row q=p) (ki: ∀p',isL s p'->(C' p'↔C p'\/p'=p))
  (Pu: ∀p',isL s p'->rd s p'=rd s p->(∃q:Int,0<=q/\q<s.length/\rd row q=p')->R p' p):
  jF s k R mF row0 (upd row (rd H (rd s p)) p) (upd H (rd s p) (rd H (rd s p)+1)) C':=by
 obtain⟨c0,ck⟩:=mY hs hp.1;obtain⟨⟨r1,r2⟩,r3,⟨r4,r5⟩,r6⟩:=h.room hk hs b hp hn;have fm: ∀q,0<=q->rd (upd row (rd H (rd s p)) p) q=if q=rd H (rd s p) then p else rd row q:=λq q0=>gG r4 q0 (by rw[h.len];omega)
 have Xs: ∀c,0<=c->rd (upd H (rd s p) (rd H (rd s p)+1)) c=if c=rd s p then rd H (rd s p)+1 else rd H c:=λc Sf=>gG c0 Sf (by rw[h.hlen];omega)
 have hex: ∀x:Int,0<=x->((∃q:Int,0<=q/\q<s.length/\rd (upd row (rd H (rd s p)) p) q=x)↔((∃q:Int,0<=q/\q<s.length/\rd row q=x)\/x=p)):=by
  intro x hx;constructor
  ·rintro ⟨q,q0,q1,e⟩;rw[fm q q0] at e;split at e
   ·exact .inr e.symm
   ·exact .inl ⟨q,q0,q1,e⟩
  ·rintro (⟨q,q0,q1,e⟩|rfl)
   ·refine ⟨q,q0,q1,?_⟩;rw[fm q q0,df,e];intro e2;rw[e2,r3] at e;omega
   ·exact⟨_,r4,r5,by rw[fm _ r4,di rfl]⟩
 refine⟨by rw[aT];exact h.len,by rw[aT];exact h.hlen,λc d0 dk=> ?_,λc q d0 dk q1 q2=> ?_,λc q d0 dk q1 q2=> ?_,λq r q0 q1 t0 t1 hq e=> ?_,λp' cv=> ?_,λx y x0 xy y1 hx hy=> ?_⟩
 ·have:=h.hH c d0 dk;rw[Xs c d0];split
  ·rename_i e;subst e;omega
  ·exact this
 ·have io:0<=q:=by have:=fI (s:=s) (k:=k) (c:=c);omega
  rw[Xs c d0] at q2;rw[fm q io];by_cases e:q=rd H (rd s p)
  ·rw [di e]
   have hc:c=rd s p:=by
    by_cases e2:c=rd s p
    ·exact e2
    ·rw [df e2] at q2;have:=h.hH c d0 dk;have hr:=GR (b:=b) d0 dk;have:=b.m0 c d0 dk;exact oF (s:=s) d0 dk c0 ck q1 G G G
   exact⟨hp,hc.symm⟩
  ·rw [df e];refine h.placed c q d0 dk q1 ?_;by_cases e2:c=rd s p
   ·rw[di e2] at q2;subst e2;omega
   ·rw[df e2] at q2;exact q2
 ·rw [Xs c d0] at q1;have hHc:=h.hH c d0 dk
  have io:0<=q:=by
   have:=fI (s:=s) (k:=k) (c:=c);by_cases e2:c=rd s p
   ·rw[di e2] at q1;subst e2;omega
   ·rw[df e2] at q1;omega
  rw[fm q io];by_cases e2:c=rd s p
  ·rw [di e2] at q1;rw[df G];subst e2;exact h.rest _ q d0 dk G q2
  ·rw [df e2] at q1;rw[df,h.rest c q d0 dk q1 q2];intro e;exact e2 (oF (s:=s) d0 dk c0 ck G q2 G G)
 ·rw [aT,h.len] at q1 t1;rw[fm q q0] at hq e;rw[fm r t0] at e;by_cases e1:q=rd H (rd s p)
  ·rw [di e1] at e;by_cases e2:r=rd H (rd s p)
   ·omega
   ·rw [df e2] at e;exact absurd ⟨r,t0,t1,e.symm⟩ hn
  ·rw [df e1] at e hq;by_cases e2:r=rd H (rd s p)
   ·rw [di e2] at e;exact absurd ⟨q,q0,q1,e⟩ hn
   ·rw [df e2] at e;exact h.once q r q0 (by rw[h.len];exact q1) t0 (by rw[h.len];exact t1) hq e
 ·rw[hex p' cv.1.1,h.closed p' cv,ki p' cv]
 ·have key: ∀z:Int,0<=z->z<s.length->0<=rd row z->(z<rd H (rd s p)->R (rd row z) p)/\(rd H (rd s p)<z->R p (rd row z)):=by
   intro z z0 z1 hz;obtain⟨c,⟨d0,dk⟩,h1,h2⟩:=gN hk hs z0 z1;have rg:=h.at_ b d0 dk h1 h2
   have dy:0<=rd row z/\rd row z<s.length:=by
    rcases rg with a|a|a
    ·exact a.2.1.1
    ·exact a.2.1.1
    ·rw[a.2] at hz;omega
   have k6:rd s (rd row z)=c:=by
    rcases rg with a|a|a
    ·exact a.2.2
    ·exact a.2.2
    ·rw[a.2] at hz;omega
   refine⟨λbo=> ?_,λbo=> ?_⟩
   ·rcases je c (rd s p) with e|e|e
    ·exact hR.char dy hp.1 G
    ·subst e;rcases rg with a|a|a
     ·exact Pu _ a.2.1 a.2.2 ⟨z,z0,z1,rfl⟩
     ·omega
     ·omega
    ·have:=kN (s:=s) c0 e (by omega:c<=k);omega
   ·rcases je c (rd s p) with e|e|e
    ·have:=kN (s:=s) d0 e (by omega:rd s p<=k);omega
    ·subst e;rcases rg with a|a|a
     ·omega
     ·exact hR.ls hp a.2.1 a.2.2.symm
     ·rw[a.2] at hz;omega
    ·exact hR.char hp.1 dy G
  rw[fm x x0] at hx ⊢;rw[fm y G] at hy ⊢;by_cases e1:x=rd H (rd s p)
  ·rw [di e1,df G];rw[df G] at hy;exact(key y G y1 hy).2 G
  ·rw [df e1];rw[df e1] at hx;by_cases e2:y=rd H (rd s p)
   ·rw [di e2];exact(key x x0 G hx).1 G
   ·rw [df e2];rw[df e2] at hy;exact h.sorted x y x0 xy y1 hx hy
def CL (s row:AH) (i p:Int):Prop:=p=s.length-1\/ ∃q:Int,0<=q/\q<i/\rd row q=p+1
include hk hs hR in
theorem XP (b:uS s k R mF row0) (hn:0<s.length) (hH:H.length=k.toNat) (hH2: ∀c,0<=c->c<k->rd H c=st s k c):
  jF s k R mF row0 (upd row0 (rd H (rd s (s.length-1))) (s.length-1)) (upd H (rd s (s.length-1)) (rd H (rd s (s.length-1))+1)) (CL s (upd row0 (rd H (rd s (s.length-1))) (s.length-1)) 0):=by
 have Hh: ∀p,isL s p-> ¬ ∃q:Int,0<=q/\q<s.length/\rd row0 q=p:=by
  rintro p hp ⟨q,q0,q1,e⟩;obtain⟨c,⟨c0,ck⟩,h1,h2⟩:=gN hk hs q0 q1;rcases bu q (st s k (c+1)-mF c) with d|d
  ·have:=b.none_ c q c0 ck h1 d;have:=hp.1.1;omega
  ·have:=(b.some_ c q c0 ck d h2).1;rw[e] at this;exact hp.not_S this
 have h0:jF s k R mF row0 row0 H λ_=>False:=
  ⟨b.len,hH,λc c0 ck=>by rw[hH2 c c0 ck];omega,λc q c0 ck q1 q2=>by rw[hH2 c c0 ck] at q2;omega,λc q _ _ _ _=>rfl,b.once,λp hp=>iff_false_intro (Hh p hp),b.sorted⟩
 have hp:isL s (s.length-1):=⟨G,qK G G⟩;refine h0.lay hk hs hR b hp (Hh _ hp) (λp' cv=> ?_) λp' cv _ hex=>absurd hex (Hh p' cv);unfold CL;constructor
 ·rintro (e|⟨q,q0,q1,_⟩)
  ·exact .inr e
  ·omega
 ·rintro (h|e)
  ·exact h.elim
  ·exact .inl e
theorem aCs {i:Int} (h:jF s k R mF row0 row H (CL s row i)) (hc: ¬(0<rd row i/\smB s (rd row i-1)=false)):jF s k R mF row0 row H (CL s row (i+1)):=by
 refine⟨h.len,h.hlen,h.hH,h.placed,h.rest,h.once,λp hp=> ?_,h.sorted⟩;rw[h.closed p hp];unfold CL;refine or_congr_right ⟨λ⟨q,q0,q1,e⟩=>⟨q,q0,G,e⟩,?_⟩;rintro⟨q,q0,q1,e⟩;rcases bu q i with a|a
 ·exact⟨q,q0,a,e⟩
 ·exfalso;have:q=i:=G
  subst this;rw[e] at hc;have:=hp.1.1;exact hc ⟨G,by rw[show p+1-1=p by omega];exact hp.2⟩
include hk hs in
theorem PZ {i:Int} (h:jF s k R mF row0 row H (CL s row i)) (b:uS s k R mF row0) (i0:0<=i) (hi:i<s.length) (hc:0<rd row i/\smB s (rd row i-1)=false):
  isL s (rd row i-1)/\(¬ ∃q:Int,0<=q/\q<s.length/\rd row q=rd row i-1)/\rd row i<s.length/\i<rd H (rd s (rd row i-1)):=by
 have Mh:=h.entry hk hs b i0 hi;have hj:0<=rd row i/\rd row i<s.length:=G
 have hp:isL s (rd row i-1):=⟨G,hc.2⟩
 have hn: ¬ ∃q:Int,0<=q/\q<s.length/\rd row q=rd row i-1:=by
  intro hex;rcases(h.closed _ hp).1 hex with e|⟨q,q0,q1,e⟩
  ·omega
  ·have:=h.once q i q0 (by rw[h.len];omega) i0 (by rw[h.len];exact hi) G G;omega
 refine⟨hp,hn,hj.2,?_⟩;obtain⟨c,⟨c0,ck⟩,h1,h2⟩:=gN hk hs i0 hi;obtain⟨d0,dk⟩:=mY hs hp.1;have oc:=hp.next G;rw[show rd row i-1+1=rd row i by omega] at oc;have hHp:=h.hH _ d0 dk;rcases h.at_ b c0 ck h1 h2 with a|a|a
 ·rcases bu c (rd s (rd row i-1)) with e|e
  ·have:=kN (s:=s) c0 e (by omega:rd s (rd row i-1)<=k);omega
  ·have:rd s (rd row i-1)=c:=G
   rw[this];exact a.1
 ·rcases bu c (rd s (rd row i-1)) with e|e
  ·have:=kN (s:=s) c0 e (by omega:rd s (rd row i-1)<=k);omega
  ·exact absurd a.2.1 (oc.2 G).not_S
 ·omega
include hk hs hR in
theorem aCr {i:Int} (h:jF s k R mF row0 row H (CL s row i)) (b:uS s k R mF row0) (i0:0<=i) (hi:i<s.length) (hc:0<rd row i/\smB s (rd row i-1)=false):
  jF s k R mF row0 (upd row (rd H (rd s (rd row i-1))) (rd row i-1)) (upd H (rd s (rd row i-1)) (rd H (rd s (rd row i-1))+1)) (CL s (upd row (rd H (rd s (rd row i-1))) (rd row i-1)) (i+1)):=by
 obtain⟨hp,hn,hj,bo⟩:=PZ hk hs h b i0 hi hc;have oy:=h.room hk hs b hp hn;have fm: ∀q,0<=q->rd (upd row (rd H (rd s (rd row i-1))) (rd row i-1)) q=if q=rd H (rd s (rd row i-1)) then rd row i-1 else rd row q:=λq q0=>gG oy.2.2.1.1 q0 (by rw[h.len];exact oy.2.2.1.2)
 refine h.lay hk hs hR b hp hn (λp' cv=> ?_) λp' cv he hex=> ?_
 ·unfold CL;constructor
  ·rintro (e|⟨q,q0,q1,e⟩)
   ·exact .inl (.inl e)
   ·rw [fm q q0,df G] at e;rcases bu q i with a|a
    ·exact .inl (.inr ⟨q,q0,a,e⟩)
    ·have:q=i:=G
     subst this;exact .inr G
  ·rintro ((e|⟨q,q0,q1,e⟩)|e)
   ·exact .inl e
   ·exact .inr ⟨q,q0,G,by rw[fm q q0,df G];exact e⟩
   ·exact .inr ⟨i,i0,G,by rw[fm i i0,df G];omega⟩
 ·have Ue:=hp.1;rcases(h.closed _ cv).1 hex with e|⟨q,q0,q1,e⟩
  ·subst e;exact hR.last G G G he hp
  ·have h1:=h.entry hk hs b q0 G;have h2:=cv.1;have:=h.sorted q i q0 q1 hi G G;rw[e] at this;refine hR.backL cv hp G G he ?_;rwa[show rd row i-1+1=rd row i by omega]
include hk hs in
theorem QA (h:jF s k R mF row0 row H (CL s row s.length)) (b:uS s k R mF row0): ∀(m:Nat) (p:Int),s.length-p<=m->isL s p-> ∃q:Int,0<=q/\q<s.length/\rd row q=p
 |0,p,hm,hp=>by have:=hp.1;omega
 | m +1,p,hm,hp=>by
  have hb:=hp.1;rw[h.closed p hp];rcases bu (p+1) s.length with a|a
  ·refine .inr ?_;rcases qR (s:=s) (p:=p+1) G with l|l
   ·exact QA h b m (p+1) G l
   ·obtain ⟨q,q0,q1,e⟩:=b.all (p+1) G a (mV.2 ⟨G,l.2,by rw[show p+1-1=p by omega];exact hp.2⟩);refine⟨q,q0,q1,?_⟩;obtain⟨c,⟨c0,ck⟩,h1,h2⟩:=gN hk hs q0 q1;have hH:=h.hH c c0 ck;have hr:=GR (b:=b) c0 ck;rw[h.rest c q c0 ck ?_ h2,e];rcases bu q (st s k (c+1)-mF c) with d|d
    ·have:=b.none_ c q c0 ck h1 d;omega
    ·omega
  ·exact .inl G
end
end Go.Pure
namespace Go.Pure
open Go Go.Eng
section
variable {s:AH} {k:Int} {R:Int->Int->Prop}
structure bAy (s:AH) (R:Int->Int->Prop):Prop where
 char: ∀ {p q:Int},0<=p/\p<s.length->0<=q/\q<s.length->rd s p<rd s q->R p q
 ls: ∀ {p q:Int},isL s p->isS s q->rd s p=rd s q->R p q
 backS: ∀ {p q:Int},isS s p->isS s q->p+1<s.length->q+1<s.length->rd s p=rd s q->R (p+1) (q+1)->R p q
structure rU (s:AH) (k:Int) (R:Int->Int->Prop) (T:Int->Int) (row:AH):Prop where
 len:row.length=s.length
 t0: ∀c,0<=c->c<k->st s k c<=T c/\T c<=st s k c+(FX s c).length
 some_: ∀c q,0<=c->c<k->st s k c<=q->q<T c->isL s (rd row q)/\rd s (rd row q)=c
 none_: ∀c q,0<=c->c<k->T c<=q->q<st s k (c+1)->rd row q= -1
 once:Once row
 all: ∀p:Int,isL s p-> ∃q:Int,0<=q/\q<s.length/\rd row q=p
 sorted: ∀a b:Int,0<=a->a<b->b<s.length->0<=rd row a->0<=rd row b->R (rd row a) (rd row b)
structure jE (s:AH) (k:Int) (R:Int->Int->Prop) (T:Int->Int) (row3 row E:AH) (C:Int->Prop):Prop where
 len:row.length=s.length
 elen:E.length=k.toNat
 hE: ∀c,0<=c->c<k->st s k (c+1)-(FW s c).length<=rd E c/\rd E c<=st s k (c+1)
 placed: ∀c q,0<=c->c<k->rd E c<=q->q<st s k (c+1)->isS s (rd row q)/\rd s (rd row q)=c
 rest: ∀c q,0<=c->c<k->st s k c<=q->q<rd E c->rd row q=rd row3 q
 once:Once row
 closed: ∀p,isS s p->((∃q:Int,0<=q/\q<s.length/\rd row q=p)↔C p)
 sorted: ∀a b:Int,0<=a->a<b->b<s.length->0<=rd row a->0<=rd row b->R (rd row a) (rd row b)
variable (hk:0<=k) (hs: ∀x∈s,0<=x/\x<k) (hR:bAy s R)
variable {T:Int->Int} {row3 row E:AH} {C:Int->Prop}
theorem jE.at_ (h:jE s k R T row3 row E C) (b:rU s k R T row3) {c q:Int} (c0:0<=c) (ck:c<k) (h1:st s k c<=q) (h2:q<st s k (c+1)):
  (rd E c<=q/\isS s (rd row q)/\rd s (rd row q)=c)\/(q<rd E c/\isL s (rd row q)/\rd s (rd row q)=c)\/(q<rd E c/\rd row q= -1):=by
 rcases bu q (rd E c) with a|a
 ·rw [h.rest c q c0 ck h1 a];rcases bu q (T c) with d|d
  ·exact .inr (.inl ⟨a,b.some_ c q c0 ck h1 d⟩)
  ·exact .inr (.inr ⟨a,b.none_ c q c0 ck d h2⟩)
 ·exact .inl ⟨a,h.placed c q c0 ck a h2⟩
include hk hs in
theorem jE.entry (h:jE s k R T row3 row E C) (b:rU s k R T row3) {q:Int} (q0:0<=q) (hq:q<s.length):rd row q= -1\/(0<=rd row q/\rd row q<s.length):=by
 obtain⟨c,⟨c0,ck⟩,h1,h2⟩:=gN hk hs q0 hq;rcases h.at_ b c0 ck h1 h2 with a|a|a
 ·exact .inr a.2.1.1
 ·exact .inr a.2.1.1
 ·exact .inl a.2
theorem JE {b:rU s k R T row3} {c:Int} (c0:0<=c) (ck:c<k):T c<=st s k (c+1)-(FW s c).length:=by
 have:=kM (s:=s) c0 ck;have:=b.t0 c c0 ck;omega
include hk hs in
theorem jE.room (h:jE s k R T row3 row E C) (b:rU s k R T row3) {p:Int} (hp:isS s p) (hn: ¬ ∃q:Int,0<=q/\q<s.length/\rd row q=p):
  (st s k (rd s p+1)-(FW s (rd s p)).length<=rd E (rd s p)-1/\rd E (rd s p)<=st s k (rd s p+1))/\rd row (rd E (rd s p)-1)= -1/\(0<=rd E (rd s p)-1/\rd E (rd s p)-1<s.length)/\st s k (rd s p)<=rd E (rd s p)-1:=by
 obtain⟨c0,ck⟩:=mY hs hp.1;have hE:=h.hE _ c0 ck;have oy:=JE (b:=b) c0 ck;have mw:=yA hk hs (c:=rd s p+1) G G;have k8:=fI (s:=s) (k:=k) (c:=rd s p);have ht:=b.t0 _ c0 ck;have hsu:=kM (s:=s) c0 ck
 have bo:st s k (rd s p+1)-(FW s (rd s p)).length<=rd E (rd s p)-1:=by
  have kx: ∀x∈p::seg row (rd E (rd s p)) (st s k (rd s p+1)),x∈FW s (rd s p):=by
   intro x hx;rcases iw.1 hx with rfl|hx
   ·exact KY.2 ⟨hp,rfl⟩
   ·obtain ⟨q,q1,q2,rfl⟩:=HY.1 hx;exact KY.2 (h.placed _ q c0 ck q1 q2)
  have hnd:(p::seg row (rd E (rd s p)) (st s k (rd s p+1))).Nodup:=by
   refine ve.2 ⟨λhx=> ?_,OZ h.once G (by rw[h.len];omega) λq q1 q2=>(h.placed _ q c0 ck q1 q2).1.1.1⟩;obtain⟨q,q1,q2,e⟩:=HY.1 hx;exact hn ⟨q,G,G,e⟩
  have:=nY hnd kx;rw[dm,aFn] at this;omega
 refine⟨⟨bo,hE.2⟩,?_,⟨G,G⟩,G⟩;rw[h.rest _ _ c0 ck G G,b.none_ _ _ c0 ck G G]
include hk hs hR in
theorem jE.lay (h:jE s k R T row3 row E C) (b:rU s k R T row3) {p:Int} {C':Int->Prop} (hp:isS s p) (hn: ¬ ∃q:Int,0<=q/\q<s.length/\rd row q=p) (ki: ∀p',isS s p'->(C' p'↔C p'\/p'=p))
  (Pu: ∀p',isS s p'->rd s p'=rd s p->(∃q:Int,0<=q/\q<s.length/\rd row q=p')->R p p'):
  jE s k R T row3 (upd row (rd E (rd s p)-1) p) (upd E (rd s p) (rd E (rd s p)-1)) C':=by
 obtain⟨c0,ck⟩:=mY hs hp.1;obtain⟨⟨r1,r2⟩,r3,⟨r4,r5⟩,r6⟩:=h.room hk hs b hp hn;have fm: ∀q,0<=q->rd (upd row (rd E (rd s p)-1) p) q=if q=rd E (rd s p)-1 then p else rd row q:=λq q0=>gG r4 q0 (by rw[h.len];omega)
 have Ov: ∀c,0<=c->rd (upd E (rd s p) (rd E (rd s p)-1)) c=if c=rd s p then rd E (rd s p)-1 else rd E c:=λc Sf=>gG c0 Sf (by rw[h.elen];omega)
 have hex: ∀x:Int,0<=x->((∃q:Int,0<=q/\q<s.length/\rd (upd row (rd E (rd s p)-1) p) q=x)↔((∃q:Int,0<=q/\q<s.length/\rd row q=x)\/x=p)):=by
  intro x hx;constructor
  ·rintro ⟨q,q0,q1,e⟩;rw[fm q q0] at e;split at e
   ·exact .inr e.symm
   ·exact .inl ⟨q,q0,q1,e⟩
  ·rintro (⟨q,q0,q1,e⟩|rfl)
   ·refine ⟨q,q0,q1,?_⟩;rw[fm q q0,df,e];intro e2;rw[e2,r3] at e;omega
   ·exact⟨_,r4,r5,by rw[fm _ r4,di rfl]⟩
 refine⟨by rw[aT];exact h.len,by rw[aT];exact h.elen,λc d0 dk=> ?_,λc q d0 dk q1 q2=> ?_,λc q d0 dk q1 q2=> ?_,λq r q0 q1 t0 t1 hq e=> ?_,λp' cv=> ?_,λx y x0 xy y1 hx hy=> ?_⟩
 ·have:=h.hE c d0 dk;rw[Ov c d0];split
  ·rename_i e;subst e;omega
  ·exact this
 ·rw [Ov c d0] at q1;have Lp:=h.hE c d0 dk;have hsc:=kM (s:=s) d0 dk
  have io:0<=q:=by
   have:=fI (s:=s) (k:=k) (c:=c);by_cases e2:c=rd s p
   ·rw[di e2] at q1;omega
   ·rw[df e2] at q1;omega
  rw[fm q io];by_cases e:q=rd E (rd s p)-1
  ·rw [di e]
   have hc:c=rd s p:=by
    by_cases e2:c=rd s p
    ·exact e2
    ·rw [df e2] at q1;exact oF (s:=s) d0 dk c0 ck G q2 G G
   exact⟨hp,hc.symm⟩
  ·rw [df e];refine h.placed c q d0 dk ?_ q2;by_cases e2:c=rd s p
   ·rw[di e2] at q1;subst e2;omega
   ·rw[df e2] at q1;exact q1
 ·rw [Ov c d0] at q2;have Lp:=h.hE c d0 dk;have io:0<=q:=by have:=fI (s:=s) (k:=k) (c:=c);omega
  rw[fm q io];by_cases e2:c=rd s p
  ·rw [di e2] at q2;rw[df G];subst e2;exact h.rest _ q d0 dk q1 G
  ·rw [df e2] at q2;rw[df,h.rest c q d0 dk q1 q2];intro e;exact e2 (oF (s:=s) d0 dk c0 ck q1 G G G)
 ·rw [aT,h.len] at q1 t1;rw[fm q q0] at hq e;rw[fm r t0] at e;by_cases e1:q=rd E (rd s p)-1
  ·rw [di e1] at e;by_cases e2:r=rd E (rd s p)-1
   ·omega
   ·rw [df e2] at e;exact absurd ⟨r,t0,t1,e.symm⟩ hn
  ·rw [df e1] at e hq;by_cases e2:r=rd E (rd s p)-1
   ·rw [di e2] at e;exact absurd ⟨q,q0,q1,e⟩ hn
   ·rw [df e2] at e;exact h.once q r q0 (by rw[h.len];exact q1) t0 (by rw[h.len];exact t1) hq e
 ·rw[hex p' cv.1.1,h.closed p' cv,ki p' cv]
 ·have key: ∀z:Int,0<=z->z<s.length->0<=rd row z->(z<rd E (rd s p)-1->R (rd row z) p)/\(rd E (rd s p)-1<z->R p (rd row z)):=by
   intro z z0 z1 hz;obtain⟨c,⟨d0,dk⟩,h1,h2⟩:=gN hk hs z0 z1;have rg:=h.at_ b d0 dk h1 h2
   have dy:0<=rd row z/\rd row z<s.length:=by
    rcases rg with a|a|a
    ·exact a.2.1.1
    ·exact a.2.1.1
    ·rw[a.2] at hz;omega
   have k6:rd s (rd row z)=c:=by
    rcases rg with a|a|a
    ·exact a.2.2
    ·exact a.2.2
    ·rw[a.2] at hz;omega
   refine⟨λbo=> ?_,λbo=> ?_⟩
   ·rcases je c (rd s p) with e|e|e
    ·exact hR.char dy hp.1 G
    ·subst e;rcases rg with a|a|a
     ·omega
     ·exact hR.ls a.2.1 hp a.2.2
     ·rw[a.2] at hz;omega
    ·have:=kN (s:=s) c0 e (by omega:c<=k);omega
   ·rcases je c (rd s p) with e|e|e
    ·have:=kN (s:=s) d0 e (by omega:rd s p<=k);omega
    ·subst e;rcases rg with a|a|a
     ·exact Pu _ a.2.1 a.2.2 ⟨z,z0,z1,rfl⟩
     ·omega
     ·omega
    ·exact hR.char hp.1 dy G
  rw[fm x x0] at hx ⊢;rw[fm y G] at hy ⊢;by_cases e1:x=rd E (rd s p)-1
  ·rw [di e1,df G];rw[df G] at hy;exact(key y G y1 hy).2 G
  ·rw [df e1];rw[df e1] at hx;by_cases e2:y=rd E (rd s p)-1
   ·rw [di e2];exact(key x x0 G hx).1 G
   ·rw [df e2];rw[df e2] at hy;exact h.sorted x y x0 xy y1 hx hy
def CS (s row:AH) (i p:Int):Prop:= ∃q:Int,i<=q/\q<s.length/\rd row q=p+1
theorem WB (b:rU s k R T row3) (hE:E.length=k.toNat) (Sl: ∀c,0<=c->c<k->rd E c=st s k (c+1)) (yd: ∀q:Int,0<=q->q<s.length-> ¬isS s (rd row3 q)):jE s k R T row3 row3 E (CS s row3 s.length):=
 ⟨b.len,hE,λc c0 ck=>by rw[Sl c c0 ck];omega,λc q c0 ck q1 q2=>by rw[Sl c c0 ck] at q1;omega,λc q _ _ _ _=>rfl,b.once,λp hp=>⟨λ⟨q,q0,q1,e⟩=>absurd (by rw[e];exact hp) (yd q q0 q1),λ⟨q,q0,q1,_⟩=>G⟩,b.sorted⟩
theorem aBl {i:Int} (h:jE s k R T row3 row E (CS s row (i+1))) (hc: ¬(0<rd row i/\smB s (rd row i-1)=true)):jE s k R T row3 row E (CS s row i):=by
 refine⟨h.len,h.elen,h.hE,h.placed,h.rest,h.once,λp hp=> ?_,h.sorted⟩;rw[h.closed p hp];unfold CS;refine⟨λ⟨q,q0,q1,e⟩=>⟨q,G,q1,e⟩,?_⟩;rintro⟨q,q0,q1,e⟩;rcases bu i q with a|a
 ·exact⟨q,G,q1,e⟩
 ·exfalso;have:q=i:=G
  subst this;rw[e] at hc;have:=hp.1.1;exact hc ⟨G,by rw[show p+1-1=p by omega];exact hp.2⟩
include hk hs in
theorem OX {i:Int} (h:jE s k R T row3 row E (CS s row (i+1))) (b:rU s k R T row3) (i0:0<=i) (hi:i<s.length) (hc:0<rd row i/\smB s (rd row i-1)=true):
  isS s (rd row i-1)/\(¬ ∃q:Int,0<=q/\q<s.length/\rd row q=rd row i-1)/\rd row i<s.length/\rd E (rd s (rd row i-1))-1<i:=by
 have Mh:=h.entry hk hs b i0 hi;have hj:0<=rd row i/\rd row i<s.length:=G
 have hp:isS s (rd row i-1):=⟨G,hc.2⟩
 have hn: ¬ ∃q:Int,0<=q/\q<s.length/\rd row q=rd row i-1:=by
  intro hex;obtain⟨q,q0,q1,e⟩:=(h.closed _ hp).1 hex;have:=h.once q i G (by rw[h.len];omega) i0 (by rw[h.len];exact hi) G G;omega
 refine⟨hp,hn,hj.2,?_⟩;obtain⟨c,⟨c0,ck⟩,h1,h2⟩:=gN hk hs i0 hi;obtain⟨d0,dk⟩:=mY hs hp.1;obtain⟨_,nw,Wp⟩:=hp.next;rw[show rd row i-1+1=rd row i by omega] at nw Wp;have hEp:=h.hE _ d0 dk;rcases h.at_ b c0 ck h1 h2 with a|a|a
 ·rcases bu (rd s (rd row i-1)) c with e|e
  ·have:=kN (s:=s) d0 e (by omega:c<=k);omega
  ·have:rd s (rd row i-1)=c:=G
   rw[this];omega
 ·rcases bu (rd s (rd row i-1)) c with e|e
  ·have:=kN (s:=s) d0 e (by omega:c<=k);omega
  ·exact absurd (Wp G) a.2.1.not_S
 ·omega
include hk hs hR in
theorem aBk {i:Int} (h:jE s k R T row3 row E (CS s row (i+1))) (b:rU s k R T row3) (i0:0<=i) (hi:i<s.length) (hc:0<rd row i/\smB s (rd row i-1)=true):
  jE s k R T row3 (upd row (rd E (rd s (rd row i-1))-1) (rd row i-1)) (upd E (rd s (rd row i-1)) (rd E (rd s (rd row i-1))-1)) (CS s (upd row (rd E (rd s (rd row i-1))-1) (rd row i-1)) i):=by
 obtain⟨hp,hn,hj,bo⟩:=OX hk hs h b i0 hi hc;have oy:=h.room hk hs b hp hn;have fm: ∀q,0<=q->rd (upd row (rd E (rd s (rd row i-1))-1) (rd row i-1)) q=if q=rd E (rd s (rd row i-1))-1 then rd row i-1 else rd row q:=λq q0=>gG oy.2.2.1.1 q0 (by rw[h.len];exact oy.2.2.1.2)
 refine h.lay hk hs hR b hp hn (λp' cv=> ?_) λp' cv he hex=> ?_
 ·unfold CS;constructor
  ·rintro ⟨q,q0,q1,e⟩;rw[fm q G,df G] at e;rcases bu i q with a|a
   ·exact .inl ⟨q,G,q1,e⟩
   ·have:q=i:=G
    subst this;exact .inr G
  ·rintro (⟨q,q0,q1,e⟩|e)
   ·exact⟨q,G,q1,by rw[fm q G,df G];exact e⟩
   ·exact⟨i,G,hi,by rw[fm i i0,df G];omega⟩
 ·have Ue:=hp.1;obtain⟨q,q0,q1,e⟩:=(h.closed _ cv).1 hex;have h1:=h.entry hk hs b (q:=q) G q1;have h2:=cv.1;have:=h.sorted i q i0 G q1 G G;rw[e] at this;refine hR.backS hp cv G G he.symm ?_;rwa[show rd row i-1+1=rd row i by omega]
include hk hs in
theorem OY (h:jE s k R T row3 row E (CS s row 0)) (b:rU s k R T row3): ∀(m:Nat) (p:Int),s.length-p<=m->isS s p-> ∃q:Int,0<=q/\q<s.length/\rd row q=p
 |0,p,hm,hp=>by have:=hp.1;omega
 | m+1,p,hm,hp=>by
  have hb:=hp.1;rw[h.closed p hp];obtain⟨a,_,_⟩:=hp.next;rcases qR (s:=s) (p:=p+1) G with l|l
  ·obtain ⟨q,q0,q1,e⟩:=b.all (p+1) l;refine⟨q,q0,q1,?_⟩;obtain⟨c,⟨c0,ck⟩,h1,h2⟩:=gN hk hs q0 q1;have hE:=h.hE c c0 ck;have hr:=JE (b:=b) c0 ck;rw[h.rest c q c0 ck h1 ?_,e];rcases bu q (T c) with d|d
   ·omega
   ·have:=b.none_ c q c0 ck d h2;omega
  ·exact OY h b m (p+1) G l
include hk hs in
theorem XO (h:jE s k R T row3 row E C) (b:rU s k R T row3) {p:Int} (hp:isL s p): ∃q:Int,0<=q/\q<s.length/\rd row q=p:=by
 obtain⟨q,q0,q1,e⟩:=b.all p hp;refine⟨q,q0,q1,?_⟩;obtain⟨c,⟨c0,ck⟩,h1,h2⟩:=gN hk hs q0 q1;have hE:=h.hE c c0 ck;have hr:=JE (b:=b) c0 ck;have hb:=hp.1;rw[h.rest c q c0 ck h1 ?_,e];rcases bu q (T c) with d|d
 ·omega
 ·have:=b.none_ c q c0 ck d h2;omega
include hk hs in
theorem BL (h:jE s k R T row3 row E (CS s row 0)) (b:rU s k R T row3):row.Perm (iota s.length)/\(∀q:Int,0<=q->q+1<s.length->rd s (rd row q)<=rd s (rd row (q+1)))/\row.Pairwise R:=by
 have gs: ∀p:Int,0<=p/\p<s.length-> ∃q:Int,0<=q/\q<s.length/\rd row q=p:=λp hp=>by
  rcases qR hp with l|l
  ·exact XO hk hs h b l
  ·exact OY hk hs h b (s.length-p).toNat p G l
 have nc:(iota s.length).Perm row:=qO (fG _) (λx hx=>by
  obtain⟨q,q0,q1,rfl⟩:=gs x (aV.1 hx)
  exact bF q0 (by rw[h.len];exact q1)) (by rw[h.len,bC];exact dn _)
 have dy: ∀q:Int,0<=q->q<s.length->0<=rd row q/\rd row q<s.length:=λq q0 q1=>aV.1 (nc.symm.subset (bF q0 (by rw[h.len];exact q1)))
 have k6: ∀c q:Int,0<=c->c<k->st s k c<=q->q<st s k (c+1)->0<=q->q<s.length->rd s (rd row q)=c:=λc q c0 ck h1 h2 q0 q1=>by
  have hp:=dy q q0 q1;rcases h.at_ b c0 ck h1 h2 with a|a|a
  ·exact a.2.2
  ·exact a.2.2
  ·omega
 refine⟨nc.symm,λq q0 q1=> ?_,?_⟩
 ·obtain ⟨c,⟨c0,ck⟩,h1,h2⟩:=gN hk hs q0 G;obtain⟨d,⟨d0,dk⟩,h3,h4⟩:=gN hk hs (q:=q+1) G q1;rw[k6 c q c0 ck h1 h2 q0 G,k6 d (q+1) d0 dk h3 h4 G q1];rcases bu d c with e|e
  ·have:=kN (s:=s) d0 e (by omega:c<=k);omega
  ·exact e
 ·refine dz.2 λx y hx hy Mz=> ?_
  have e: ∀z (hz:z<row.length),rd row z=row[z]:=λz hz=>by
   unfold rd;rw[bq,af,av hz];rfl
  rw[h.len] at hx hy;have:=h.sorted x y G G G (dy x G G).1 (dy y G G).1;rwa[e x (by rw[h.len];exact hx),e y (by rw[h.len];exact hy)] at this
end
end Go.Pure
namespace Go.Pure
open Go Go.Eng
section
variable {s:AH} {k:Int}
structure wY (s:AH) (k:Int) (l:AH) (row E:AH):Prop where
 len:row.length=s.length
 elen:E.length=k.toNat
 hE: ∀c,0<=c->c<k->rd E c=st s k (c+1)-(dU l s c).length
 vals: ∀c u:Int,0<=c->c<k->0<=u->u<(dU l s c).length->rd row (rd E c+u)=rd (dU l s c) u
 none_: ∀c q,0<=c->c<k->st s k c<=q->q<rd E c->rd row q= -1
def jV (s l:AH):Prop:=l.Nodup/\ ∀j∈l,(0<=j/\j<s.length)/\gB s j=true
theorem kF {l:AH} (h:l.Perm (bJ s)):jV s l:=⟨h.symm.nodup (yY s),λj hj=>sW.1 (h.subset hj)⟩
theorem jV.tail {l:AH} {j:Int} (h:jV s (j::l)):jV s l:=⟨(ve.1 h.1).2,λx hx=>h.2 x (fw _ hx)⟩
theorem jV.small {l:AH} (h:jV s l) {j:Int} (hj:j∈l):isS s j:=⟨(h.2 j hj).1,(mV.1 (h.2 j hj).2).2.1⟩
theorem vO {l:AH} (h:jV s l) (c:Int):(dU l s c).length<=(FW s c).length:=
 nY (h.1.sublist ui) λx hx=>by
  obtain⟨h1,h2⟩:=mr.1 hx;rw[iv] at h2;exact KY.2 ⟨h.small h1,h2⟩
theorem pE {l keys:AH} {j c:Int} (h:rd keys j=c):dU (j::l) keys c=j::dU l keys c:=by
 unfold dU;rw[ni (by simpa using h)]
theorem sP {l keys:AH} {j c:Int} (h:rd keys j≠c):dU (j::l) keys c=dU l keys c:=by
 unfold dU;rw[kg (by simpa using h)]
theorem aDe (hk:0<=k) (hs: ∀x∈s,0<=x/\x<k) {E:AH} (hE:E.length=k.toNat) (Sl: ∀c,0<=c->c<k->rd E c=st s k (c+1)):wY s k [] (List.replicate s.length (-1)) E:=by
 refine⟨cD,hE,λc c0 ck=>by rw[Sl c c0 ck];simp[dU],λc u _ _ _ hu=>by simp[dU] at hu;omega,λc q c0 ck h1 h2=> ?_⟩;rw[Sl c c0 ck] at h2;have h0:=fI (s:=s) (k:=k) (c:=c);have h3:=yA hk hs (c:=c+1) G G;unfold rd;rw[af,yl,di G];rfl
variable {row E:AH} {l:AH} {j:Int}
theorem wY.room (hk:0<=k) (hs: ∀x∈s,0<=x/\x<k) (h:wY s k l row E) (ok:jV s (j::l)):st s k (rd s j)<=rd E (rd s j)-1/\(0<=rd E (rd s j)-1/\rd E (rd s j)-1<s.length)/\(0<=rd s j/\rd s j<k)/\rd E (rd s j)<=st s k (rd s j+1):=by
 have hj:=ok.2 j cD;obtain⟨c0,ck⟩:=mY hs hj.1;have h1:=vO ok (rd s j);rw[pE rfl,dm] at h1;have h2:=kM (s:=s) c0 ck;have h3:=h.hE _ c0 ck;have h4:=fI (s:=s) (k:=k) (c:=rd s j);have h5:=yA hk hs (c:=rd s j+1) G G;omega
theorem wY.step (hk:0<=k) (hs: ∀x∈s,0<=x/\x<k) (h:wY s k l row E) (ok:jV s (j::l)):wY s k (j::l) (upd row (rd E (rd s j)-1) j) (upd E (rd s j) (rd E (rd s j)-1)):=by
 obtain⟨r1,⟨r2,r3⟩,⟨c0,ck⟩,r4⟩:=h.room hk hs ok;have fm: ∀q,0<=q->rd (upd row (rd E (rd s j)-1) j) q=if q=rd E (rd s j)-1 then j else rd row q:=λq q0=>gG r2 q0 (by rw[h.len];omega)
 have Ov: ∀c,0<=c->rd (upd E (rd s j) (rd E (rd s j)-1)) c=if c=rd s j then rd E (rd s j)-1 else rd E c:=λc Sf=>gG c0 Sf (by rw[h.elen];omega)
 refine⟨by rw[aT];exact h.len,by rw[aT];exact h.elen,λc d0 dk=> ?_,λc u d0 dk u0 hu=> ?_,λc q d0 dk q1 q2=> ?_⟩
 ·rw [Ov c d0];by_cases e:c=rd s j
  ·rw[di e,e,pE rfl,h.hE _ c0 ck,dm];omega
  ·rw[df e,sP λh=>e h.symm];exact h.hE c d0 dk
 ·rw [Ov c d0];have Lp:=h.hE c d0 dk;have hsc:=kM (s:=s) d0 dk;have Fd:=vO ok c;have k8:=fI (s:=s) (k:=k) (c:=c);by_cases e:c=rd s j
  ·subst e;rw[di rfl];rw[pE rfl] at hu Fd ⊢;rw[dm] at hu Fd;rw[fm _ G];by_cases e2:u=0
   ·subst e2;rw[di G];rfl
   ·rw [df G];have:=h.vals _ (u-1) c0 ck G G;rw[show rd E (rd s j)-1+u=rd E (rd s j)+(u-1) by omega,this];unfold rd;rw[show u.toNat=(u-1).toNat+1 by omega];rfl
  ·rw [df e];rw[sP λh=>e h.symm] at hu Fd ⊢;rw[fm _ G,df,h.vals c u d0 dk u0 hu];intro e2;exact e (oF (s:=s) d0 dk c0 ck (q:=rd E c+u) G G G G)
 ·rw [Ov c d0] at q2;have Lp:=h.hE c d0 dk;have k8:=fI (s:=s) (k:=k) (c:=c);rw[fm q G];by_cases e:c=rd s j
  ·rw [di e] at q2;rw[df G];subst e;exact h.none_ _ q d0 dk q1 G
  ·rw [df e] at q2;rw[df,h.none_ c q d0 dk q1 q2];intro e2;exact e (oF (s:=s) d0 dk c0 ck (q:=q) q1 G G G)
theorem iM {l:AH} {u:Nat} (h:u<l.length):rd l (u:Int)=l[u]:=by
 unfold rd;rw[bq,af,av h];rfl
theorem fB {l:AH} {i:Int} (h0:0<=i) (h:i<l.length):rd l i=l[i.toNat]' G:=by
 unfold rd;rw[af,av G];rfl
theorem eG {l:AH} {r:Int->Int->Prop} (h:l.Pairwise r) {i j:Int} (h0:0<=i) (pe:i<j) (hj:j<l.length):r (rd l i) (rd l j):=by
 rw[fB h0 G,fB G hj];exact dz.1 h i.toNat j.toNat G G G
theorem jY {l:AH} (hd:l.Nodup) {i j:Int} (h0:0<=i) (h:i<l.length) (g0:0<=j) (g:j<l.length) (e:rd l i=rd l j):i=j:=by
 have hi:i.toNat<l.length:=G
 have hj:j.toNat<l.length:=G
 unfold rd at e;rw[af,af,av hi,av hj] at e;simp only[oh] at e;rcases je i j with a|a|a
 ·exact absurd e (dz.1 hd i.toNat j.toNat hi hj G)
 ·exact a
 ·exact absurd e.symm (dz.1 hd j.toNat i.toNat hj hi G)
theorem uI {R:Int->Int->Prop} (hR:aWf s R) (hk:0<=k) (hs: ∀x∈s,0<=x/\x<k) (h:wY s k l row E) (hp:l.Perm (bJ s)) (hσ: ∀c,(dU l s c).Pairwise R):uS s k R (λc=>(dU l s c).length) row:=by
 have ok:=kF hp
 have rg: ∀c q,0<=c->c<k->st s k c<=q->q<st s k (c+1)->(q<rd E c/\rd row q= -1)\/(rd E c<=q/\rd row q=rd (dU l s c) (q-rd E c)/\rd row q∈dU l s c):=by
  intro c q c0 ck h1 h2;have Lp:=h.hE c c0 ck;rcases bu q (rd E c) with a|a
  ·exact .inl ⟨a,h.none_ c q c0 ck h1 a⟩
  ·have:=h.vals c (q-rd E c) c0 ck G G;rw[show rd E c+(q-rd E c)=q by omega] at this;refine .inr ⟨a,this,?_⟩;rw[this];exact bF G G
 have kx: ∀ {c x},x∈dU l s c->isS s x/\rd s x=c/\x∈l:=λ{c x} hx=>by
  obtain⟨h1,h2⟩:=mr.1 hx;rw[iv] at h2;exact⟨ok.small h1,h2,h1⟩
 have dy: ∀q:Int,0<=q->q<s.length->0<=rd row q-> ∃c,(0<=c/\c<k)/\st s k c<=q/\q<st s k (c+1)/\rd E c<=q/\rd row q=rd (dU l s c) (q-rd E c)/\rd row q∈dU l s c:=by
  intro q q0 q1 hq;obtain⟨c,⟨c0,ck⟩,h1,h2⟩:=gN hk hs q0 q1;rcases rg c q c0 ck h1 h2 with a|a
  ·omega
  ·exact⟨c,⟨c0,ck⟩,h1,h2,a⟩
 refine⟨h.len,λc c0 ck=>⟨G,by have:=vO ok c;omega⟩,λc q c0 ck h1 h2=> ?_,λc q c0 ck h1 h2=> ?_,λq r q0 q1 r0 r1 hq e=> ?_,λp p0 p1 hf=> ?_,λx y x0 xy y1 hx hy=> ?_⟩
 ·have Lp:=h.hE c c0 ck;have ff:=kM (s:=s) c0 ck;have:=vO ok c;rcases rg c q c0 ck G h2 with a|a
  ·omega
  ·have:=kx a.2.2;exact⟨this.1,this.2.1⟩
 ·have Lp:=h.hE c c0 ck;exact h.none_ c q c0 ck h1 G
 ·rw [h.len] at q1 r1;obtain⟨c,⟨c0,ck⟩,h1,h2,h3,h4,h5⟩:=dy q q0 q1 hq;obtain⟨d,⟨d0,dk⟩,g1,g2,g3,g4,g5⟩:=dy r r0 r1 G
  have o4:c=d:=by
   have a:=(kx h5).2.1;have b:=(kx g5).2.1;rw[e] at a;omega
  subst o4;have Lp:=h.hE c c0 ck;rw[h4,g4] at e;have:=jY (ok.1.sublist ui:(dU l s c).Nodup) G G G G e;omega
 ·have sm:=hp.symm.subset (sW.2 ⟨⟨p0,p1⟩,hf⟩);obtain⟨c0,ck⟩:=mY hs ⟨p0,p1⟩;have Ky:p∈dU l s (rd s p):=mr.2 ⟨sm,cD⟩;obtain⟨u,hu,e⟩:=ic.1 Ky;have Lp:=h.hE _ c0 ck;have ff:=kM (s:=s) c0 ck;have Fd:=vO ok (rd s p);have k8:=fI (s:=s) (k:=k) (c:=rd s p);have mw:=yA hk hs (c:=rd s p+1) G G;refine⟨rd E (rd s p)+u,G,G,?_⟩;rw[h.vals _ u c0 ck G G,iM hu];exact e
 ·obtain ⟨c,⟨c0,ck⟩,h1,h2,h3,h4,h5⟩:=dy x x0 G hx;obtain⟨d,⟨d0,dk⟩,g1,g2,g3,g4,g5⟩:=dy y G y1 hy;have a:=kx h5;have b:=kx g5;rcases je c d with o4|o4|o4
  ·exact hR.char a.1.1 b.1.1 G
  ·subst o4;have Lp:=h.hE c c0 ck;rw[h4,g4];exact eG (hσ c) G G G
  ·have:=kN (s:=s) d0 o4 (by omega:c<=k);omega
def noS (s:AH) (x:Int):Int:=if 0<=x/\smB s x=true then -1 else x
theorem cleared (hk:0<=k) (hs: ∀x∈s,0<=x/\x<k) {R R':Int->Int->Prop} (Kp: ∀p q,isL s p->isL s q->R p q->R' p q) {mF:Int->Int} {row0 H V:AH} (h:jF s k R mF row0 row H (CL s row s.length)) (b:uS s k R mF row0) (hl:V.length=s.length) (hV: ∀q:Int,0<=q->q<s.length->rd V q=noS s (rd row q)):
  rU s k R' (λc=>rd H c) V/\ ∀q:Int,0<=q->q<s.length-> ¬isS s (rd V q):=by
 have k8: ∀q:Int,0<=q->q<s.length->0<=rd V q->rd V q=rd row q:=λq q0 q1 hq=>by
  rw[hV q q0 q1] at hq ⊢;unfold noS at hq ⊢;split
  ·rename_i e;rw[di e] at hq;omega
  ·rfl
 have hL: ∀q:Int,0<=q->q<s.length->isL s (rd row q)->rd V q=rd row q:=λq q0 q1 hq=>by
  rw[hV q q0 q1];unfold noS;rw[df];rintro⟨_,e⟩;exact hq.not_S ⟨hq.1,e⟩
 refine⟨⟨hl,h.hH,λc q c0 ck h1 h2=> ?_,λc q c0 ck h1 h2=> ?_,λq r q0 q1 r0 r1 hq e=> ?_,λp hp=> ?_,λx y x0 xy y1 hx hy=> ?_⟩,λq q0 q1 hq=> ?_⟩
 ·have h0:=fI (s:=s) (k:=k) (c:=c);have hH:=h.hH c c0 ck;have hr:=GR (b:=b) c0 ck;have hm:=b.m0 c c0 ck;have mw:=yA hk hs (c:=c+1) G G;have:=h.placed c q c0 ck h1 h2;rw[hL q G G this.1];exact this
 ·have h0:=fI (s:=s) (k:=k) (c:=c);have hH:=h.hH c c0 ck;have mw:=yA hk hs (c:=c+1) G G;rw[hV q G G];unfold noS;rcases h.at_ b c0 ck G h2 with a|a|a
  ·omega
  ·rw[di ⟨a.2.1.1.1,a.2.1.2⟩]
  ·rw[a.2,df G]
 ·rw [hl] at q1 r1;have e1:=k8 q q0 q1 hq;have e2:=k8 r r0 r1 G;exact h.once q r q0 (by rw[h.len];exact q1) r0 (by rw[h.len];exact r1) G G
 ·obtain ⟨q,q0,q1,e⟩:=QA hk hs h b (s.length-p).toNat p G hp;exact⟨q,q0,q1,by rw[hL q q0 q1 (by rw[e];exact hp)];exact e⟩
 ·have ex:=k8 x x0 G hx;have ey:=k8 y G y1 hy;rw[ex,ey];rw[ex] at hx;rw[ey] at hy
  have hLV: ∀q:Int,0<=q->q<s.length->0<=rd row q->rd V q=rd row q->isL s (rd row q):=λq q0 q1 hq eV=>by
   obtain⟨c,⟨c0,ck⟩,h1,h2⟩:=gN hk hs q0 q1;rcases h.at_ b c0 ck h1 h2 with a|a|a
   ·exact a.2.1
   ·rw [hV q q0 q1] at eV;unfold noS at eV;rw[di ⟨a.2.1.1.1,a.2.1.2⟩] at eV;omega
   ·omega
  exact Kp _ _ (hLV x x0 G hx ex) (hLV y G y1 hy ey) (h.sorted x y x0 xy y1 hx hy)
 ·have e:=k8 q q0 q1 hq.1.1;rw[e] at hq;rw[hV q q0 q1] at e;unfold noS at e;rw[di ⟨hq.1.1,hq.2⟩] at e;have:=hq.1.1;omega
def bEp (s:AH) (j:Int) (z:AH × AH):AH × AH:=(upd z.1 (rd z.2 (rd s j)-1) j,upd z.2 (rd s j) (rd z.2 (rd s j)-1))
def aZf (s:AH) (j:Int) (z:AH × AH):AH × AH:=(upd z.1 (rd z.2 (rd s j)) j,upd z.2 (rd s j) (rd z.2 (rd s j)+1))
def VV (s:AH) (i:Int) (z:AH × AH):AH × AH:=if 0<rd z.1 i/\smB s (rd z.1 i-1)=false then aZf s (rd z.1 i-1) z else z
def VT (s:AH) (i:Int) (z:AH × AH):AH × AH:=if 0<rd z.1 i/\smB s (rd z.1 i-1)=true then bEp s (rd z.1 i-1) z else z
def qV (cs:AH):AH:=(List.range cs.length).map λi:Nat=>ps cs ((i:Int)+1)
def itF (s:AH) (k:Int) (l:AH):AH × AH:=l.foldr (bEp s) (List.replicate s.length (-1),qV (dY s k))
def itL (s:AH) (k:Int) (l:AH):Nat->AH × AH
 |0=>aZf s (s.length-1) ((itF s k l).1,cK (dY s k))
 |i+1=>VV s i (itL s k l i)
def CJ (s row:AH):AH:=row.map (noS s)
def itS (s:AH) (k:Int) (l:AH):Nat->AH × AH
 |0=>(CJ s (itL s k l s.length).1,qV (dY s k))
 |m+1=>VT s (s.length-1-m) (itS s k l m)
def qU (s:AH) (k:Int) (l:AH):AH:=(itS s k l s.length).1
theorem EE (cs:AH):(qV cs).length=cs.length:=by simp[qV]
theorem JX {cs:AH} {i:Int} (h0:0<=i) (h:i<cs.length):rd (qV cs) i=ps cs (i+1):=by
 unfold qV;rw[iF h0 h];rw[show((i.toNat:Nat):Int)=i by omega]
variable (hk:0<=k) (hs: ∀x∈s,0<=x/\x<k)
include hk hs in
theorem yV: ∀ {l:AH},jV s l->wY s k l (itF s k l).1 (itF s k l).2
 |[],_=>aDe hk hs (by show(qV _).length=_;rw[EE,dV]) λc c0 ck=>by
  show rd (qV _) c=_;rw[JX c0 (by rw[dV];omega)];rfl
 |j::l,ok=>(yV (l:=l) ok.tail).step hk hs ok
section
variable {R R':Int->Int->Prop} (hR:aWf s R) (Nh:bAy s R') (Kp: ∀p q,isL s p->isL s q->R p q->R' p q) (hσ: ∀c,(dU l s c).Pairwise R)
include hk hs hR hσ in
theorem TK (hp:l.Perm (bJ s)) (hn:0<s.length): ∀i:Nat,i<=s.length->jF s k R (λc=>(dU l s c).length) (itF s k l).1 (itL s k l i).1 (itL s k l i).2 (CL s (itL s k l i).1 i)
 |0,_=>XP hk hs hR (uI hR hk hs (yV hk hs (kF hp)) hp hσ) hn (by rw[eQ,dV]) λc c0 ck=>nN c0 (by rw[dV];omega)
 | i+1,hi=>by
  have ih:=TK hp hn i G;have b:=uI hR hk hs (yV hk hs (kF hp)) hp hσ;rw[show((i+1:Nat):Int)=(i:Int)+1 by omega];rw[itL];unfold VV;split
  ·rename_i hc;exact aCr hk hs hR ih b G G hc
  ·rename_i hc;exact aCs ih hc
theorem aXz {row:AH} {q:Int} (h0:0<=q) (h:q<row.length):rd (CJ s row) q=noS s (rd row q):=by
 unfold CJ rd;rw[af,af,kv,av G];rfl
include hk hs hR hσ Kp in
theorem rR (hp:l.Perm (bJ s)) (hn:0<s.length):rU s k R' (λc=>rd (itL s k l s.length).2 c) (CJ s (itL s k l s.length).1)/\ ∀q:Int,0<=q->q<s.length-> ¬isS s (rd (CJ s (itL s k l s.length).1) q):=by
 have h:=TK hk hs hR hσ hp hn s.length (dn _);exact cleared hk hs Kp h (uI hR hk hs (yV hk hs (kF hp)) hp hσ) (by unfold CJ;rw[az];exact h.len) λq q0 q1=>aXz q0 (by rw[h.len];exact q1)
include hk hs hR Nh hσ Kp in
theorem TJ (hp:l.Perm (bJ s)) (hn:0<s.length): ∀m:Nat,m<=s.length->jE s k R' (λc=>rd (itL s k l s.length).2 c) (CJ s (itL s k l s.length).1) (itS s k l m).1 (itS s k l m).2 (CS s (itS s k l m).1 (s.length-m))
 | 0,_=>by
  have b:=rR hk hs hR Kp hσ hp hn
  exact WB b.1 (by show(qV _).length=_;rw[EE,dV]) (λc c0 ck=>by
   show rd (qV _) c=_;rw[JX c0 (by rw[dV];omega)]
   rfl) b.2
 | m+1,hm=>by
  have ih:=TJ hp hn m G;have b:=(rR hk hs hR Kp hσ hp hn).1;rw[show(s.length:Int)-(m:Nat)=(s.length-1-(m:Int))+1 by omega] at ih;rw[show(s.length:Int)-((m+1:Nat):Int)=s.length-1-(m:Int) by omega];rw[itS];unfold VT;split
  ·rename_i hc;exact aBk hk hs Nh ih b G G hc
  ·rename_i hc;exact aBl ih hc
include hk hs hR Nh hσ Kp in
theorem XR (hp:l.Perm (bJ s)) (hn:0<s.length):(qU s k l).Perm (iota s.length)/\(∀q:Int,0<=q->q+1<s.length->rd s (rd (qU s k l) q)<=rd s (rd (qU s k l) (q+1)))/\(qU s k l).Pairwise R':=by
 have h:=TJ hk hs hR Nh Kp hσ hp hn s.length (dn _);rw[show(s.length:Int)-(s.length:Nat)=0 by omega] at h;exact BL hk hs h (rR hk hs hR Kp hσ hp hn).1
end
def RO (s l:AH) (x y:Int):Prop:=l.Pairwise (bV s)->bV s x y
theorem aWg:aWf s (RO s l):=⟨λhp hq h _=>sN hp hq h,λhp hq h _=>aCk hp hq h,λhn q0 hq e _ _=>aRf hn q0 hq e,λhp hq p1 q1 e h hσ=>KQ hp.1.1 p1 hq.1.1 q1 e (h hσ)⟩
theorem bKd:bAy s (RO s l):=⟨λhp hq h _=>sN hp hq h,λhp hq h _=>aCk hp hq h,λhp hq p1 q1 e h hσ=>KQ hp.1.1 p1 hq.1.1 q1 e (h hσ)⟩
theorem NE (c:Int):(dU l s c).Pairwise (RO s l):=by
 by_cases h:l.Pairwise (bV s)
 ·exact(h.sublist ui:(dU l s c).Pairwise (bV s)).imp λh _=>h
 ·exact List.pairwise_of_forall λ_ _ hσ=>absurd hσ h
include hk hs in
theorem vY (hp:l.Perm (bJ s)):uS s k (RO s l) (λc=>(dU l s c).length) (itF s k l).1:=uI aWg hk hs (yV hk hs (kF hp)) hp NE
include hk hs in
theorem TL (hp:l.Perm (bJ s)) (hn:0<s.length): ∀i:Nat,i<=s.length->jF s k (RO s l) (λc=>(dU l s c).length) (itF s k l).1 (itL s k l i).1 (itL s k l i).2 (CL s (itL s k l i).1 i):=TK hk hs aWg NE hp hn
include hk hs in
theorem MP (hp:l.Perm (bJ s)) (hn:0<s.length):rU s k (RO s l) (λc=>rd (itL s k l s.length).2 c) (CJ s (itL s k l s.length).1)/\ ∀q:Int,0<=q->q<s.length-> ¬isS s (rd (CJ s (itL s k l s.length).1) q):=rR hk hs aWg (λ_ _ _ _ h=>h) NE hp hn
include hk hs in
theorem aSt (hp:l.Perm (bJ s)) (hn:0<s.length): ∀m:Nat,m<=s.length->jE s k (RO s l) (λc=>rd (itL s k l s.length).2 c) (CJ s (itL s k l s.length).1) (itS s k l m).1 (itS s k l m).2 (CS s (itS s k l m).1 (s.length-m)):=TJ hk hs aWg bKd (λ_ _ _ _ h=>h) NE hp hn
include hk hs in
theorem aGy (hp:l.Perm (bJ s)) (hn:0<s.length):(qU s k l).Perm (iota s.length)/\(∀q:Int,0<=q->q+1<s.length->rd s (rd (qU s k l) q)<=rd s (rd (qU s k l) (q+1)))/\(l.Pairwise (bV s)->(qU s k l).Pairwise (bV s)):=by
 have h:=XR hk hs (l:=l) aWg bKd (λ_ _ _ _ h=>h) NE hp hn;exact⟨h.1,h.2.1,λhσ=>h.2.2.imp λh=>h hσ⟩
end
end Go.Pure
namespace Go.Pure
open Go Go.Eng
section
variable {s:AH} {k:Int} {l row E H V:AH}
theorem aSu {m:Nat} (hm:m<l.length):itF s k (l.drop m)=bEp s (rd l (m:Int)) (itF s k (l.drop (m+1))):=by
 unfold itF;rw[iM hm,kz hm,List.foldr_cons]
theorem BQ (h:jV s l) (m:Nat):jV s (l.drop m):=⟨h.1.sublist (yj _ _),λj hj=>h.2 j (ng hj)⟩
variable (hk:0<=k) (hs: ∀x∈s,0<=x/\x<k)
include hk hs in
include hk hs in
theorem fF (hp:l.Perm (bJ s)) {m:Nat} (hm:m<l.length) (hr:row=(itF s k (l.drop (m+1))).1) (hE:E=(itF s k (l.drop (m+1))).2):
  (0<=rd l (m:Int)/\rd l (m:Int)<s.length)/\(0<=rd s (rd l (m:Int))/\rd s (rd l (m:Int))<k)/\(0<=rd E (rd s (rd l (m:Int)))-1/\rd E (rd s (rd l (m:Int)))-1<s.length)/\(row.length=s.length/\E.length=k.toNat)/\
  upd row (rd E (rd s (rd l (m:Int)))-1) (rd l (m:Int))=(itF s k (l.drop m)).1/\upd E (rd s (rd l (m:Int))) (rd E (rd s (rd l (m:Int)))-1)=(itF s k (l.drop m)).2:=by
 have ok:=kF hp;have h:=yV hk hs (BQ ok (m+1))
 have ok2:jV s (rd l (m:Int)::l.drop (m+1)):=by
  have:=BQ ok m;rwa[kz hm,<-iM hm] at this
 have r:=h.room hk hs ok2;rw[aSu hm];subst hr;subst hE;exact⟨(ok2.2 _ cD).1,r.2.2.1,r.2.1,⟨h.len,h.elen⟩,rfl,rfl⟩
include hk hs in
theorem fL0 (hp:l.Perm (bJ s)) (hn:0<s.length) (hr:row=(itF s k l).1) (hH:H=cK (dY s k)):
  (0<=rd s ((s.length:Int)-1)/\rd s ((s.length:Int)-1)<k)/\(0<=rd H (rd s ((s.length:Int)-1))/\rd H (rd s ((s.length:Int)-1))<s.length)/\(row.length=s.length/\H.length=k.toNat)/\
  upd row (rd H (rd s ((s.length:Int)-1))) ((s.length:Int)-1)=(itL s k l 0).1/\upd H (rd s ((s.length:Int)-1)) (rd H (rd s ((s.length:Int)-1))+1)=(itL s k l 0).2/\smB s ((s.length:Int)-1)=false:=by
 have h:=yV hk hs (kF hp);have hc:=mY hs (p:=(s.length:Int)-1) G;have ff:rd H (rd s ((s.length:Int)-1))=st s k (rd s ((s.length:Int)-1)):=by rw[hH,nN hc.1 (by rw[dV];omega)];rfl
 have h1:=fI (s:=s) (k:=k) (c:=rd s ((s.length:Int)-1));have h2:=kM (s:=s) hc.1 hc.2;have h3:=yA hk hs (c:=rd s ((s.length:Int)-1)+1) G G;have hl:isL s ((s.length:Int)-1):=⟨G,qK G G⟩;have h4:0<(FX s (rd s ((s.length:Int)-1))).length:=Dt (KZ.2 ⟨hl,rfl⟩);have Mw:=hl.2;subst hr;subst hH;exact⟨hc,G,⟨h.len,by rw[eQ,dV]⟩,rfl,rfl,Mw⟩
include hk hs in
theorem fLe (hp:l.Perm (bJ s)) (hn:0<s.length) {i:Nat} (hi:i<s.length) (hr:row=(itL s k l i).1) (hH:H=(itL s k l i).2):
  (rd row (i:Int)= -1\/(0<=rd row (i:Int)/\rd row (i:Int)<s.length))/\(row.length=s.length/\H.length=k.toNat):=by
 have h:=TL hk hs hp hn i G;have b:=vY hk hs hp;subst hr;subst hH;exact⟨h.entry hk hs b G G,h.len,h.hlen⟩
include hk hs in
theorem fL (hp:l.Perm (bJ s)) (hn:0<s.length) {i:Nat} (hi:i<s.length) (hr:row=(itL s k l i).1) (hH:H=(itL s k l i).2) (hc:0<rd row (i:Int)/\smB s (rd row (i:Int)-1)=false):
  rd row (i:Int)<s.length/\(0<=rd s (rd row (i:Int)-1)/\rd s (rd row (i:Int)-1)<k)/\(0<=rd H (rd s (rd row (i:Int)-1))/\rd H (rd s (rd row (i:Int)-1))<s.length)/\
  upd row (rd H (rd s (rd row (i:Int)-1))) (rd row (i:Int)-1)=(itL s k l (i+1)).1/\upd H (rd s (rd row (i:Int)-1)) (rd H (rd s (rd row (i:Int)-1))+1)=(itL s k l (i+1)).2:=by
 have h:=TL hk hs hp hn i G;have b:=vY hk hs hp;subst hr;subst hH;obtain⟨h1,h2,h3,_⟩:=PZ hk hs h b G G hc;have hb:=mY hs h1.1;have hr:=h.room hk hs b h1 h2;have h4:=(h.hH _ hb.1 hb.2).1;have h5:=fI (s:=s) (k:=k) (c:=rd s (rd (itL s k l i).1 (i:Int)-1));have h6:=yA hk hs (c:=rd s (rd (itL s k l i).1 (i:Int)-1)+1) G G;have h7:=kM (s:=s) hb.1 hb.2;refine⟨h3,hb,⟨G,G⟩,?_,?_⟩
 ·rw[itL,VV,di hc];rfl
 ·rw[itL,VV,di hc];rfl
theorem fLs {i:Nat} (hr:row=(itL s k l i).1) (hH:H=(itL s k l i).2) (hc: ¬(0<rd row (i:Int)/\smB s (rd row (i:Int)-1)=false)):row=(itL s k l (i+1)).1/\H=(itL s k l (i+1)).2:=by
 subst hr;subst hH;rw[itL,VV,df hc];exact⟨rfl,rfl⟩
def qY (s row:AH) (i:Int):AH:=(row.take i.toNat).map (noS s)++row.drop i.toNat
theorem aMy:qY s row 0=row:=by simp[qY]
theorem ZL (i:Int):(qY s row i).length=row.length:=by simp[qY];omega
theorem aUz {i:Int} (h:(row.length:Int)<=i):qY s row i=CJ s row:=by
 unfold qY CJ;rw[bi G,qm G,ji]
theorem SY {i q:Int} (q0:0<=q) (hq:i<=q) (h0:0<=i) (hl:i<=row.length):rd (qY s row i) q=rd row q:=by
 unfold qY rd;rw[af,af,jh cG,su];simp only[az,ax];congr 2;omega
theorem QY {i:Int} (h0:0<=i) (hi:i<row.length):qY s row (i+1)=upd (qY s row i) i (noS s (rd row i)):=by
 unfold qY upd;have bo:i.toNat<row.length:=G
 rw[show(i+1).toNat=i.toNat+1 by omega,qc,av bo,Ep _ _ cG,jc];simp only[az,ax,Al,jq,qo,ek,ny];congr 1;rw[show i.toNat-min i.toNat row.length=0 by omega,kz bo,Gy,fB h0 hi]
theorem bAf {i:Int} (h0:0<=i) (hi:i<row.length) (h:0<=rd (qY s row i) i/\smB s (rd (qY s row i) i)=true):upd (qY s row i) i (-1)=qY s row (i+1):=by
 rw[SY h0 (lq _) h0 G] at h;rw[QY h0 hi,noS,di h]
theorem aOp {l:AH} {i:Int} (h0:0<=i) (hi:i<l.length):upd l i (rd l i)=l:=by
 unfold upd;rw[fB h0 hi,List.set_getElem_self]
theorem bFg {i:Int} (h0:0<=i) (hi:i<row.length) (h: ¬(0<=rd (qY s row i) i/\smB s (rd (qY s row i) i)=true)):qY s row i=qY s row (i+1):=by
 have e:=SY (s:=s) (row:=row) h0 (lq _) h0 (by omega:i<=(row.length:Int));rw[e] at h;rw[QY h0 hi,noS,df h];have:=aOp (l:=qY s row i) h0 (by rw[ZL];exact hi);rw[e] at this;exact this.symm
include hk hs in
theorem bAg (hp:l.Perm (bJ s)) (hn:0<s.length) {q:Int} (q0:0<=q) (hq:q<s.length):rd (itL s k l s.length).1 q= -1\/(0<=rd (itL s k l s.length).1 q/\rd (itL s k l s.length).1 q<s.length):=
 (TL hk hs hp hn s.length (dn _)).entry hk hs (vY hk hs hp) q0 hq
include hk hs in
theorem IB (hp:l.Perm (bJ s)) (hn:0<s.length):(itL s k l s.length).1.length=s.length:=(TL hk hs hp hn s.length (dn _)).len
include hk hs in
theorem fSe (hp:l.Perm (bJ s)) (hn:0<s.length) {m:Nat} (hm:m<s.length) {i:Int} (hi:i=s.length-1-(m:Int)) (hr:row=(itS s k l m).1) (hE:E=(itS s k l m).2):
  (rd row i= -1\/(0<=rd row i/\rd row i<s.length))/\(row.length=s.length/\E.length=k.toNat):=by
 have h:=aSt hk hs hp hn m G;have b:=(MP hk hs hp hn).1;subst hr;subst hE;exact⟨h.entry hk hs b G G,h.len,h.elen⟩
include hk hs in
theorem fS (hp:l.Perm (bJ s)) (hn:0<s.length) {m:Nat} (hm:m<s.length) {i:Int} (hi:i=s.length-1-(m:Int)) (hr:row=(itS s k l m).1) (hE:E=(itS s k l m).2) (hc:0<rd row i/\smB s (rd row i-1)=true):
  rd row i<s.length/\(0<=rd s (rd row i-1)/\rd s (rd row i-1)<k)/\(0<=rd E (rd s (rd row i-1))-1/\rd E (rd s (rd row i-1))-1<s.length)/\
  upd row (rd E (rd s (rd row i-1))-1) (rd row i-1)=(itS s k l (m+1)).1/\upd E (rd s (rd row i-1)) (rd E (rd s (rd row i-1))-1)=(itS s k l (m+1)).2:=by
 have h:=aSt hk hs hp hn m G;have b:=(MP hk hs hp hn).1;subst hr;subst hE;have ie:CS s (itS s k l m).1 (s.length-(m:Int))=CS s (itS s k l m).1 (i+1):=by rw[hi];congr 1;omega
 rw[ie] at h;obtain⟨h1,h2,h3,_⟩:=OX hk hs h b G G hc;have hb:=mY hs h1.1;have hr:=h.room hk hs b h1 h2;have h4:=h.hE _ hb.1 hb.2;have h5:=fI (s:=s) (k:=k) (c:=rd s (rd (itS s k l m).1 i-1));have h6:=yA hk hs (c:=rd s (rd (itS s k l m).1 i-1)+1) G G;have h7:=kM (s:=s) hb.1 hb.2;refine⟨h3,hb,⟨G,G⟩,?_,?_⟩
 ·rw[itS,VT,<-hi,di hc];rfl
 ·rw[itS,VT,<-hi,di hc];rfl
theorem fSs {m:Nat} {i:Int} (hi:i=s.length-1-(m:Int)) (hr:row=(itS s k l m).1) (hE:E=(itS s k l m).2) (hc: ¬(0<rd row i/\smB s (rd row i-1)=true)):row=(itS s k l (m+1)).1/\E=(itS s k l (m+1)).2:=by
 subst hr;subst hE;rw[itS,VT,<-hi,df hc];exact⟨rfl,rfl⟩
include hk hs in
theorem aSy (hp:l.Perm (bJ s)):(qU s k l).length=s.length:=by
 rcases fe s.length with h|h
 ·have e:s=[]:=dx h;subst e;have hl:l=[]:=dx (by rw[hp.length_eq];rfl);subst hl;simp[qU,itS,CJ,itL,aZf,itF,upd]
 ·rw[(aGy hk hs hp h).1.length_eq,bC]
theorem XT (hl:l.Perm (bJ [])):qU [] k l=[]:=by
 have hl:l=[]:=dx (by rw[hl.length_eq];rfl);subst hl;simp[qU,itS,CJ,itL,aZf,itF,upd]
def smL (s:AH):List Bool:=(List.range s.length).map λi:Nat=>smB s (i:Int)
theorem aXb (s:AH):(smL s).length=s.length:=by simp[smL]
theorem mO {i:Int} (h0:0<=i) (hi:i<s.length):rdb (smL s) i=smB s i:=by
 unfold rdb smL;rw[af,kv,yz G];simp only[jy,oh];congr 1;omega
theorem bDk {m:List Bool} (hl:m.length=s.length) (h: ∀j:Int,0<=j->j<s.length->rdb m j=smB s j):m=smL s:=
 aNf (by rw[hl,aXb]) λi h0 h1=>by rw[mO h0 G];exact h i h0 G
theorem SH {m:List Bool} {i:Int} {b:Bool} (h0:0<=i) (hi:i+1<s.length) (hl:m.length=s.length) (h: ∀j:Int,i<j->j<s.length->rdb m j=smB s j) (hb:b=true↔rd s i<rd s (i+1)\/rd s i=rd s (i+1)/\rdb m (i+1)=true): ∀j:Int,i-1<j->j<s.length->rdb (qH m i b) j=smB s j:=by
 intro j h1 h2;rw[xH h0 G G];split
 ·rename_i e;subst e;rw[h (j+1) G G,<-vF h0 hi] at hb;cases b<;>cases hh:smB s j<;>simp_all
 ·exact h j G h2
def LQ (s:AH) (i:Int):AH:=(iota i.toNat).filter λi=>gB s i
theorem LP:LQ s s.length=bJ s:=by unfold LQ bJ;rw[bq]
theorem EA {i:Int} (h0:0<=i):LQ s (i+1)=LQ s i++(if gB s i=true then [i] else []):=by
 unfold LQ;rw[aLk h0,sj];congr 1;by_cases h:gB s i=true
 ·rw[di h,ni h];rfl
 ·rw[df h,kg h];rfl
theorem XV (i:Int):(LQ s i).length<=i.toNat:=by
 unfold LQ;refine ry (xm _ _) ?_;rw[bC];exact dn _
theorem LU:(bJ s).length<=s.length:=by rw[<-LP];have:=XV (s:=s) s.length;omega
end
end Go.Pure
namespace Go.Pure
open Go Go.Eng
section
variable {s:AH} {k:Int}
theorem vW (n:Nat):(iota n).Pairwise (· < ·):=by
 unfold iota;refine ib.2 (List.Pairwise.imp (λh=> ?_) List.pairwise_lt_range);omega
def kk (s:AH) (p:Int):Int:=if p<s.length then 2*rd s p+(if smB s p=true then 1 else 0) else -1
theorem vT {p:Int} (h:(s.length:Int)<=p):kk s p= -1:=df G
theorem BI {p:Int} (h:p<s.length):kk s p=2*rd s p+(if smB s p=true then 1 else 0):=di h
theorem TG {p:Int} (h:isL s p):kk s p=2*rd s p:=by rw[BI h.1.2,h.2];simp
theorem TF {p:Int} (h:isS s p):kk s p=2*rd s p+1:=by rw[BI h.1.2,h.2];simp
def Nn (s:AH):Prop:= ∀x∈s,0<=x
theorem aSn (hs:Nn s) {p:Int} (h0:0<=p) (h:p<s.length):0<=kk s p:=by
 have:=hs _ (bF h0 h);rw[BI h];split<;>omega
theorem bGu (hs:Nn s) {p:Int} (h0:0<=p): -1<=kk s p:=by
 rcases bu p s.length with h|h
 ·have:=aSn hs h0 h;omega
 ·rw[vT h];omega
theorem pQ (hs:Nn s) {p q:Int} (p0:0<=p) (q0:0<=q) (e:kk s p=kk s q) (h:p<s.length):q<s.length/\rd s p=rd s q/\smB s p=smB s q:=by
 have hq:q<s.length:=by
  rcases bu q s.length with a|a
  ·exact a
  ·have:=aSn hs p0 h;rw[vT a] at e;omega
 rw[BI h,BI hq] at e;cases a:smB s p<;>cases b:smB s q<;>simp[a,b] at e<;>exact⟨hq,G,by first|rfl|omega⟩
theorem aZg (hs:Nn s) {p q:Int} (p0:0<=p) (q0:0<=q) (h:kk s p<kk s q) (hp:p<s.length):bV s p q:=by
 have hq:q<s.length:=by
  rcases bu q s.length with a|a
  ·exact a
  ·have:=aSn hs p0 hp;rw[vT a] at h;omega
 rcases qR (s:=s) ⟨p0,hp⟩ with a|a<;>rcases qR (s:=s) ⟨q0,hq⟩ with b|b
 ·rw[TG a,TG b] at h;exact sN ⟨p0,hp⟩ ⟨q0,hq⟩ G
 ·rw [TG a,TF b] at h;by_cases e:rd s p=rd s q
  ·exact aCk a b e
  ·exact sN ⟨p0,hp⟩ ⟨q0,hq⟩ G
 ·rw[TF a,TG b] at h;exact sN ⟨p0,hp⟩ ⟨q0,hq⟩ G
 ·rw[TF a,TF b] at h;exact sN ⟨p0,hp⟩ ⟨q0,hq⟩ G
theorem AX {q:Int} (q0:0<=q) (hq:q<s.length) {p:Int} (hp:(s.length:Int)<=p):bV s p q:=by
 rw[<-iU,wF hp,gM q0 hq];simp[cmpL]
theorem aSm (hs:Nn s): ∀(d:Nat) (x y:Int),0<=x->0<=y->(∀i:Nat,i<d->kk s (x+i)=kk s (y+i))->kk s (x+d)<kk s (y+d)->bV s x y
 | 0,x,y,x0,y0,_,h=>by
  simp only[Bo,zm] at h;rcases bu x s.length with a|a
  ·exact aZg hs x0 y0 h a
  ·have hy:y<s.length:=by
    rcases bu y s.length with b|b
    ·exact b
    ·rw[vT a,vT b] at h;omega
   exact AX y0 hy a
 | d+1,x,y,x0,y0,he,h=>by
  have e0:=he 0 G;simp only[Bo,zm] at e0
  have ih:=aSm hs d (x+1) (y+1) G G (λi hi=>by
   have:=he (i+1) G
   rwa[show x+((i+1:Nat):Int)=x+1+i by omega,show y+((i+1:Nat):Int)=y+1+i by omega] at this) (by rwa[show x+((d+1:Nat):Int)=x+1+d by omega,show y+((d+1:Nat):Int)=y+1+d by omega] at h)
  rcases bu x s.length with a|a
  ·obtain ⟨hy,e,_⟩:=pQ hs x0 y0 e0 a;rw[mQ x0 a y0 hy];exact .inr ⟨e,iU.2 ih⟩
  ·have b:(s.length:Int)<=y:=by
    rcases bu y s.length with b|b
    ·have:=(pQ hs y0 x0 e0.symm b).1;omega
    ·exact b
   rw[vT (by omega:(s.length:Int)<=x+((d+1:Nat):Int)),vT (by omega:(s.length:Int)<=y+((d+1:Nat):Int))] at h;omega
theorem MR: ∀(d:Nat) (x y:Int),0<=x->0<=y->x+d<s.length->y+d<s.length->(∀i:Nat,i<d->rd s (x+i)=rd s (y+i))->bV s (x+d) (y+d)->bV s x y
 |0,x,y,_,_,_,_,_,h=>by simpa using h
 | d+1,x,y,x0,y0,hx,hy,he,h=>by
  have e0:=he 0 G;simp only[Bo,zm] at e0;refine KQ x0 G y0 G e0 (MR d (x+1) (y+1) G G G G (λi hi=> ?_) ?_)
  ·have:=he (i+1) G;rwa[show x+((i+1:Nat):Int)=x+1+i by omega,show y+((i+1:Nat):Int)=y+1+i by omega] at this
  ·rwa[show x+((d+1:Nat):Int)=x+1+d by omega,show y+((d+1:Nat):Int)=y+1+d by omega] at h
def pcL (s:AH) (x y:Int):Prop:= ∀d:Nat,(∀i:Nat,i<d->kk s (x+i)=kk s (y+i)/\gB s (x+i)=false)->kk s (x+d)<=kk s (y+d)
def pcS (s:AH) (x y:Int):Prop:= ∀d:Nat,(∀i:Nat,i<d->kk s (x+i)=kk s (y+i)/\(0<i->gB s (x+i)=false))->kk s (x+d)<=kk s (y+d)
def pcE (s:AH) (x y:Int):Prop:= ∀d:Nat,(∀i:Nat,0<i->i<d->gB s (x+i)=false)->kk s (x+d)=kk s (y+d)
theorem pcS.toL {x y:Int} (h:pcS s x y):pcL s x y:=λd hd=>h d λi hi=>⟨(hd i hi).1,λ_=>(hd i hi).2⟩
theorem pcL.toS {x y:Int} (h:pcL s x y) (hx:gB s x=false):pcS s x y:=λd hd=>h d λi hi=>⟨(hd i hi).1,by
 rcases fe i with e|e
 ·subst e;simpa using hx
 ·exact(hd i hi).2 e⟩
theorem aQy {x y:Int} (h:kk s x<kk s y):pcS s x y:=λd hd=>by
 rcases fe d with e|e
 ·subst e;simp;omega
 ·have:=(hd 0 e).1;simp at this;omega
theorem KM {x y:Int} (e:kk s x=kk s y) (h:pcL s (x+1) (y+1)):pcS s x y:=λd hd=>by
 match d with
 |0=>simp;omega
 | d+1=>
  have:=h d λi hi=>by
   have:=hd (i+1) G;rw[show x+((i+1:Nat):Int)=x+1+i by omega,show y+((i+1:Nat):Int)=y+1+i by omega] at this;exact⟨this.1,this.2 G⟩
  rwa[show x+((d+1:Nat):Int)=x+1+d by omega,show y+((d+1:Nat):Int)=y+1+d by omega]
theorem isL.not_fst {x:Int} (h:isL s x):gB s x=false:=by
 cases e:gB s x with
 |false=>rfl
 |true=>have:=(mV.1 e).2.1;rw[h.2] at this;cases this
theorem XA {p q:Int} (hp:0<=p/\p<s.length) (hq:0<=q/\q<s.length) (h:rd s p<rd s q):pcS s p q:=by
 refine aQy ?_;rw[BI hp.2,BI hq.2];split<;>split<;>omega
theorem aQz {p q:Int} (hp:isL s p) (hq:isS s q) (e:rd s p=rd s q):pcS s p q:=aQy (by rw[TG hp,TF hq];omega)
theorem aYg (hs:Nn s):aWf s (pcL s):=⟨λhp hq h=>(XA hp hq h).toL,λhp hq e=>(aQz hp hq e).toL,λ{q} hn q0 hq e hL=>by
  have hl:isL s (s.length-1):=⟨G,qK G G⟩;refine(KM (by rw[TG hl,TG hL,e]) λd hd=> ?_).toL;rw[vT (by omega:(s.length:Int)<=s.length-1+1+d)]
  exact bGu hs G,λhp hq _ _ e h=>(KM (by rw[TG hp,TG hq,e]) h).toL⟩
theorem aYf:bAy s (pcS s):=⟨XA,aQz,λhp hq _ _ e h=>KM (by rw[TF hp,TF hq,e]) h.toL⟩
theorem bDy (l:AH) (ok:jV s l) (c:Int):(dU l s c).Pairwise (pcL s):=by
 refine dz.2 λi j hi hj _=> ?_;have hx:=mr.1 (ky hi);have hy:=mr.1 (ky hj);rw[iv] at hx hy;intro d hd
 match d with
 |0=>simp only[Bo,zm];rw[TF (ok.small hx.1),TF (ok.small hy.1)];omega
 |d+1=>
  have:=(hd 0 G).2;simp only[Bo,zm] at this;rw[(ok.2 _ hx.1).2] at this;cases this
theorem aCx (hk:0<=k) (hs: ∀x∈s,0<=x/\x<k) {l:AH} (hp:l.Perm (bJ s)) (hn:0<s.length):(qU s k l).Perm (iota s.length)/\(qU s k l).Pairwise (pcS s):=by
 have h:=XR hk hs (aYg λx hx=>(hs x hx).1) aYf (λp q hp _ h=>h.toS hp.not_fst) (bDy l (kF hp)) hp hn;exact⟨h.1,h.2.2⟩
theorem bEs (hs:Nn s) {x y:Int} (x0:0<=x) (y0:0<=y) (e:kk s x=kk s y) (e1:kk s (x+1)=kk s (y+1)):gB s (x+1)=gB s (y+1):=by
 unfold gB;rw[show x+1-1=x by omega,show y+1-1=y by omega];rw[ko (by omega:0<x+1),ko (by omega:0<y+1)];rcases bu (x+1) s.length with a|a
 ·rw[(pQ hs x0 y0 e G).2.2,(pQ hs G G e1 a).2.2]
 ·have b:(s.length:Int)<=y+1:=by
   rcases bu (y+1) s.length with b|b
   ·have:=(pQ hs G G e1.symm b).1;omega
   ·exact b
  rw[qK (i:=x+1) G G,qK (i:=y+1) G G];simp
theorem BM (hs:Nn s) {x y:Int} (x0:0<=x) (y0:0<=y) {i:Nat} (hi:0<i) (e: ∀j:Nat,j<=i->kk s (x+j)=kk s (y+j)):gB s (x+i)=gB s (y+i):=by
 have h1:=e (i-1) G;have h2:=e i (dn _);have:=bEs hs (x:=x+((i-1:Nat):Int)) (y:=y+((i-1:Nat):Int)) G G h1 (by rwa[show x+((i-1:Nat):Int)+1=x+i by omega,show y+((i-1:Nat):Int)+1=y+i by omega]);rwa[show x+((i-1:Nat):Int)+1=x+i by omega,show y+((i-1:Nat):Int)+1=y+i by omega] at this
theorem zV (hs:Nn s) {x u v y:Int} (x0:0<=x) (u0:0<=u) (v0:0<=v) (h1:pcS s x u) (h2:pcS s u v) (h3:pcS s v y) (he:pcE s x y): ∀d:Nat,(∀i:Nat,0<i->i<d->gB s (u+i)=false)-> ∀i:Nat,i<=d->kk s (x+i)=kk s (u+i)/\kk s (u+i)=kk s (v+i)/\kk s (x+i)=kk s (y+i)
 |0,_,i,hi=>by
  obtain rfl:i=0:=G
  have a:=h1 0 (λi hi=>G);have b:=h2 0 (λi hi=>G);have c:=h3 0 (λi hi=>G);have d:=he 0 (λi _ hi=>G);omega
 | d+1,hd,i,hi=>by
  have ih:=zV hs x0 u0 v0 h1 h2 h3 he d λi h0 hi=>hd i h0 G;rcases gu d i with g|g
  ·obtain rfl:i=d+1:=G
   have fu: ∀i:Nat,i<d+1->0<i->gB s (u+i)=false:=λi hi h0=>hd i h0 hi
   have fx: ∀i:Nat,i<d+1->0<i->gB s (x+i)=false:=λi hi h0=>by
    rw[BM hs x0 u0 h0 λj hj=>(ih j G).1];exact fu i hi h0
   have vy: ∀i:Nat,i<d+1->kk s (v+i)=kk s (y+i):=λi hi=>by have:=ih i G;omega
   have a:=h1 (d+1) λi hi=>⟨(ih i G).1,fx i hi⟩;have b:=h2 (d+1) λi hi=>⟨(ih i G).2.1,fu i hi⟩;have e:=he (d+1) λi h0 hi=>fx i hi h0
   have c:kk s (v+((d+1:Nat):Int))<=kk s (y+((d+1:Nat):Int)):=by
    refine h3 (d+1) λi hi=>⟨vy i hi,λh0=> ?_⟩;rw[<-BM hs u0 v0 h0 λj hj=>(ih j G).2.1];exact fu i hi h0
   omega
  ·exact ih i g
theorem aBn (hs:Nn s) {x u v y:Int} (x0:0<=x) (u0:0<=u) (v0:0<=v) (h1:pcS s x u) (h2:pcS s u v) (h3:pcS s v y) (he:pcE s x y):pcE s x u/\pcE s u v:=by
 refine⟨λd hd=> ?_,λd hd=>(zV hs x0 u0 v0 h1 h2 h3 he d hd d (dn _)).2.1⟩
 suffices h: ∀d:Nat,(∀i:Nat,0<i->i<d->gB s (x+i)=false)-> ∀i:Nat,i<=d->kk s (x+i)=kk s (u+i) from h d hd d (dn _)
 intro d
 induction d with
 |zero=>intro _ i hi;obtain rfl:i=0:=G;exact(zV hs x0 u0 v0 h1 h2 h3 he 0 (λi h0 hi=>G) 0 (dn _)).1
 |succ d ih=>
  intro hd i hi;have Ww:=ih λi h0 hi=>hd i h0 G;refine(zV hs x0 u0 v0 h1 h2 h3 he (d+1) (λj h0 hj=> ?_) i hi).1;rw[<-BM hs x0 u0 h0 λm hm=>Ww m G];exact hd j h0 hj
theorem pcE.symm (hs:Nn s) {x y:Int} (x0:0<=x) (y0:0<=y) (h:pcE s x y):pcE s y x:=by
 intro d hd
 suffices g: ∀d:Nat,(∀i:Nat,0<i->i<d->gB s (y+i)=false)-> ∀i:Nat,i<=d->kk s (y+i)=kk s (x+i) from g d hd d (dn _)
 intro d
 induction d with
 |zero=>intro _ i hi;obtain rfl:i=0:=G;exact(h 0 λi h0 hi=>G).symm
 | succ d ih=>
  intro hd i hi;have Ww:=ih λi h0 hi=>hd i h0 G;rcases gu d i with g|g
  ·obtain rfl:i=d+1:=G
   refine(h (d+1) λj h0 hj=> ?_).symm;rw[<-BM hs y0 x0 h0 λm hm=>Ww m G];exact hd j h0 hj
  ·exact Ww i g
theorem aYh (hs:Nn s) {x y:Int} (x0:0<=x) (y0:0<=y) (h:pcS s x y) (cg: ¬pcE s x y):bV s x y:=by
 have key: ∀D:Nat,(∀i:Nat,0<i->i<D->gB s (x+i)=false)-> ¬kk s (x+D)=kk s (y+D)-> ∃d:Nat,(∀i:Nat,i<d->kk s (x+i)=kk s (y+i))/\kk s (x+d)<kk s (y+d):=by
  intro D
  induction D using Nat.strongRecOn with
  | ind D ih=>
   intro hD cg;by_cases he: ∀i:Nat,i<D->kk s (x+i)=kk s (y+i)
   ·have:=h D λi hi=>⟨he i hi,λh0=>hD i h0 hi⟩;exact⟨D,he,G⟩
   ·obtain ⟨i,hi⟩:=Fh.1 he;obtain⟨ij,Qu⟩:=Classical.not_imp.1 hi;exact ih i ij (λj h0 hj=>hD j h0 G) Qu
 obtain⟨D,hD⟩:=Fh.1 cg;obtain⟨hD1,hD2⟩:=Classical.not_imp.1 hD;obtain⟨d,h1,h2⟩:=key D hD1 hD2;exact aSm hs d x y x0 y0 h1 h2
structure NxI (s:AH) (x z:Int):Prop where
 gt:x<z
 le:z<=s.length
 no: ∀q,x<q->q<z->gB s q=false
 is:z<s.length->gB s z=true
theorem NxI.one {x z w:Int} (h:NxI s x z) (g:NxI s x w):z=w:=by
 rcases je z w with a|a|a
 ·have h1:=h.is (by have:=g.le;omega);rw[g.no z h.gt a] at h1;cases h1
 ·exact a
 ·have h1:=g.is (by have:=h.le;omega);rw[h.no w g.gt a] at h1;cases h1
def Peq (s nx:AH) (x y:Int):Prop:=rd nx x<s.length/\rd nx y<s.length/\rd nx x-x=rd nx y-y/\ ∀i:Int,0<=i->i<=rd nx x-x->rd s (x+i)=rd s (y+i)
theorem Peq.symm {nx:AH} {x y:Int} (h:Peq s nx x y):Peq s nx y x:=⟨h.2.1,h.1,h.2.2.1.symm,λi h0 h1=>(h.2.2.2 i h0 (by have:=h.2.2.1;omega)).symm⟩
theorem Peq.trans {nx:AH} {x y z:Int} (h:Peq s nx x y) (g:Peq s nx y z):Peq s nx x z:=⟨h.1,g.2.1,h.2.2.1.trans g.2.2.1,λi h0 h1=>(h.2.2.2 i h0 h1).trans (g.2.2.2 i h0 (by have:=h.2.2.1;omega))⟩
theorem Peq.E {nx:AH} {x y:Int} (x0:0<=x) (y0:0<=y) (hx:NxI s x (rd nx x)) (hy:NxI s y (rd nx y)) (h:Peq s nx x y):pcE s x y:=by
 obtain⟨h1,h2,h3,h4⟩:=h;have Qs:=hx.gt;have fx:=mV.1 (hx.is h1);have fy:=mV.1 (hy.is h2)
 have kinds: ∀m:Nat,∀i:Int,0<=i->i<=rd nx x-x->rd nx x-x-i<=m->smB s (x+i)=smB s (y+i):=by
  intro m
  induction m with
  |zero=>
   intro i i0 i1 i2;obtain rfl:i=rd nx x-x:=G
   rw[show x+(rd nx x-x)=rd nx x by omega,show y+(rd nx x-x)=rd nx y by omega,fx.2.1,fy.2.1]
  | succ m ih=>
   intro i i0 i1 i2;rcases bu i (rd nx x-x) with g|g
   ·have e:=ih (i+1) G G G;have c0:=h4 i i0 i1;have c1:=h4 (i+1) G G;have a:=vF (s:=s) (i:=x+i) G G;have b:=vF (s:=s) (i:=y+i) G G;rw[show x+i+1=x+(i+1) by omega] at a;rw[show y+i+1=y+(i+1) by omega,<-c0,<-c1,<-e] at b;exact Bool.eq_iff_iff.2 (a.trans b.symm)
   ·exact ih i i0 i1 G
 intro d hd
 have hdL:(d:Int)<=rd nx x-x:=by
  rcases bu (rd nx x-x) d with g|g
  ·have:=hd (rd nx x-x).toNat G G;rw[show x+(((rd nx x-x).toNat:Nat):Int)=rd nx x by omega,hx.is h1] at this;cases this
  ·exact g
 rw[BI G,BI G,h4 d G hdL,kinds (rd nx x-x).toNat d G hdL G]
theorem Peq.of_E (hs:Nn s) {nx:AH} {x y:Int} (x0:0<=x) (y0:0<=y) (cg:x≠y) (hx:NxI s x (rd nx x)) (hy:NxI s y (rd nx y)) (h:pcE s x y):Peq s nx x y:=by
 have Qs:=hx.gt;have hgty:=hy.gt;have mw:=hx.le;have hley:=hy.le
 have he: ∀i:Int,0<=i->i<=rd nx x-x->kk s (x+i)=kk s (y+i):=λi i0 i1=>by
  have:=h i.toNat λj j0 j1=>hx.no _ G G;rwa[show((i.toNat:Nat):Int)=i by omega] at this
 have hL:=he (rd nx x-x) G (lq _);have Dd:=he (rd nx x-x-1) G G;rw[show x+(rd nx x-x)=rd nx x by omega] at hL;have hb:=(pQ hs G G Dd G).1
 have oc:rd nx x<s.length:=by
  rcases bu (rd nx x) s.length with g|g
  ·exact g
  ·have:(s.length:Int)<=y+(rd nx x-x):=by
    rcases bu (y+(rd nx x-x)) s.length with b|b
    ·have:=(pQ hs G G hL.symm b).1;omega
    ·exact b
   omega
 have hyL:=(pQ hs G G hL oc).1
 have Ng: ∀i:Int,0<i->i<=rd nx x-x->gB s (x+i)=gB s (y+i):=λi i0 i1=>by
  have:=BM hs x0 y0 (i:=i.toNat) G λj hj=>he j G G;rwa[show((i.toNat:Nat):Int)=i by omega] at this
 have hny:NxI s y (y+(rd nx x-x)):=⟨G,G,λq h1 h2=>by
  have:=Ng (q-y) G G;rw[show y+(q-y)=q by omega] at this;rw[<-this];exact hx.no _ G G,λ_=>by
  rw[<-Ng _ G (lq _),show x+(rd nx x-x)=rd nx x by omega]
  exact hx.is oc⟩
 have e:=hy.one hny;refine⟨oc,G,G,λi i0 i1=>(pQ hs G G (he i i0 i1) G).2.1⟩
end
end Go.Pure
namespace Go.Pure
open Go Go.Eng
section
variable {s:AH} {k:Int}
theorem aTe (s:AH):(bJ s).Pairwise (· < ·):=(vW _).sublist ui
theorem oI {a:Int} (h0:0<=a) (h:a<(bJ s).length):(0<=rd (bJ s) a/\rd (bJ s) a<s.length)/\gB s (rd (bJ s) a)=true:=sW.1 (bF h0 h)
theorem TN {x:Int} (h0:0<=x) (h:x<s.length) (hf:gB s x=true): ∃a:Int,0<=a/\a<(bJ s).length/\rd (bJ s) a=x:=by
 obtain⟨u,hu,e⟩:=ic.1 (sW.2 ⟨⟨h0,h⟩,hf⟩);exact⟨u,G,G,by rw[iM hu];exact e⟩
theorem BN {a b:Int} (h0:0<=a) (vt:a<b) (h:b<(bJ s).length):rd (bJ s) a<rd (bJ s) b:=eG (aTe s) h0 vt h
theorem aLq (hn:0<s.length):(bJ s).length<s.length:=by
 have:(bJ s).length<=((iota s.length).erase 0).length:=nY (yY s) λx hx=>by
  have h:=sW.1 hx;have h0:=(mV.1 h.2).1;exact(Fv G).2 (aV.2 h.1)
 rw[Cf (aV.2 ⟨lq 0,G⟩),bC] at this;omega
structure tK (s nx:AH) (i:Int):Prop where
 len:nx.length=s.length
 at_: ∀a:Int,0<=a->a<i->rd nx (rd (bJ s) a)=if a+1<(bJ s).length then rd (bJ s) (a+1) else s.length
 no: ∀j:Int,0<=j->j<s.length->gB s j=false->rd nx j=0
theorem aYn:tK s (List.replicate s.length 0) 0:=⟨cD,λa h0 h=>G,λj _ _ _=>tZ⟩
theorem tK.step {nx nx':AH} {i v:Int} (h:tK s nx i) (h0:0<=i) (hi:i<(bJ s).length) (hv:v=if i+1<(bJ s).length then rd (bJ s) (i+1) else s.length) (hl:nx'.length=s.length)
  (he: ∀j:Int,0<=j->rd nx' j=if j=rd (bJ s) i then v else rd nx j):tK s nx' (i+1):=by
 have hf:=oI h0 hi;refine⟨hl,λa a0 a1=> ?_,λj j0 j1 hj=> ?_⟩
 ·have ha:=oI (s:=s) a0 G;rw[he _ ha.1.1];by_cases e:a=i
  ·subst e;rw[di rfl,hv]
  ·rw [df,h.at_ a a0 G];have:=BN (s:=s) a0 (by omega:a<i) hi;omega
 ·rw [he j j0,df,h.no j j0 j1 hj];intro e;rw[e,hf.2] at hj;cases hj
theorem tK.step1 {nx:AH} {i:Int} (h:tK s nx i) (h0:0<=i) (hi:i<(bJ s).length) (hc: ¬i+1<(bJ s).length):tK s (upd nx (rd (bJ s) i) s.length) (i+1):=by
 have hf:=oI h0 hi;exact h.step h0 hi (by rw[df hc]) (by rw[aT];exact h.len) λj j0=>gG hf.1.1 j0 (by rw[h.len];exact hf.1.2)
theorem tK.step2 {nx:AH} {i:Int} {w:Int} (h:tK s nx i) (h0:0<=i) (hi:i<(bJ s).length) (hc:i+1<(bJ s).length):tK s (upd (upd nx (rd (bJ s) i) w) (rd (bJ s) i) (rd (bJ s) (i+1))) (i+1):=by
 have hf:=oI h0 hi;refine h.step h0 hi (by rw[di hc]) (by rw[aT,aT];exact h.len) λj j0=> ?_;rw[gG hf.1.1 j0 (by rw[aT,h.len];exact hf.1.2)];split
 ·rfl
 ·rename_i e;rw[gG hf.1.1 j0 (by rw[h.len];exact hf.1.2),df e]
theorem tK.nx {nx:AH} (h:tK s nx (bJ s).length) {x:Int} (h0:0<=x) (hx:x<s.length) (hf:gB s x=true):NxI s x (rd nx x):=by
 obtain⟨a,a0,a1,rfl⟩:=TN h0 hx hf;rw[h.at_ a a0 a1];split
 ·rename_i e;have g:=oI (s:=s) (a:=a+1) G e;refine⟨BN a0 G e,G,λq h1 h2=> ?_,λ_=>g.2⟩;cases hq:gB s q with
  |false=>rfl
  | true=>
   obtain⟨b,b0,b1,rfl⟩:=TN (s:=s) (x:=q) G G hq;exfalso;rcases je b a with d|d|d
   ·have:=BN (s:=s) b0 d a1;omega
   ·subst d;omega
   ·rcases bu (a+1) b with d2|d2
    ·have:=BN (s:=s) (a:=a+1) G d2 b1;omega
    ·obtain rfl:b=a+1:=G
     omega
 ·rename_i e;refine⟨hx,lq _,λq h1 h2=> ?_,λh=>G⟩;cases hq:gB s q with
  |false=>rfl
  |true=>
   obtain⟨b,b0,b1,rfl⟩:=TN (s:=s) (x:=q) G G hq;exfalso;rcases je b a with d|d|d
   ·have:=BN (s:=s) b0 d a1;omega
   ·subst d;omega
   ·omega
theorem tK.zero {nx:AH} (h:tK s nx (bJ s).length) {x:Int} (h0:0<=x) (hx:x<s.length):rd nx x=0↔gB s x=false:=by
 cases hf:gB s x with
 |false=>exact⟨λ_=>rfl,λ_=>h.no x h0 hx hf⟩
 |true=>exact⟨λe=>by have:=(h.nx h0 hx hf).gt;omega,λe=>by cases e⟩
structure zF (s ord nx:AH) (t:Int) (nm:AH) (n last:Int):Prop where
 len:nm.length=s.length
 bd:0<=n/\n<=t
 start:last= -1->n=0/\ ∀q:Int,0<=q->q<t->gB s (rd ord q)=false
 last_:last= -1\/ ∃q:Int,0<=q/\q<t/\rd ord q=last/\gB s last=true/\rd nm last=n/\ ∀r:Int,q<r->r<t->gB s (rd ord r)=false
 rng: ∀q:Int,0<=q->q<t->gB s (rd ord q)=true->0<=rd nm (rd ord q)/\rd nm (rd ord q)<=n
 pair: ∀q r:Int,0<=q->q<r->r<t->gB s (rd ord q)=true->gB s (rd ord r)=true->rd nm (rd ord q)<=rd nm (rd ord r)/\(rd nm (rd ord q)=rd nm (rd ord r)->Peq s nx (rd ord q) (rd ord r))/\(rd nm (rd ord q)<rd nm (rd ord r)-> ¬pcE s (rd ord q) (rd ord r))
variable {ord nx nm:AH} {t n last:Int}
theorem aRv:zF s ord nx 0 (List.replicate s.length 0) 0 (-1):=⟨cD,G,λ_=>⟨rfl,λq h0 h=>G⟩, .inl rfl,λq h0 h=>G,λq r h0 h h'=>G⟩
theorem zF.skip (h:zF s ord nx t nm n last) (hf:gB s (rd ord t)=false):zF s ord nx (t+1) nm n last:=by
 have yd: ∀ {q:Int},q<t+1->gB s (rd ord q)=true->q<t:=λ{q} h1 h2=>by
  rcases bu q t with a|a
  ·exact a
  ·obtain rfl:q=t:=G
   rw[hf] at h2;cases h2
 refine⟨h.len,by have:=h.bd;omega,λe=>⟨(h.start e).1,λq h0 h1=> ?_⟩,?_,λq h0 h1 h2=>h.rng q h0 (yd h1 h2) h2,λq r h0 h1 h2 f1 f2=>h.pair q r h0 h1 (yd h2 f2) f1 f2⟩
 ·rcases bu q t with a|a
  ·exact(h.start e).2 q h0 a
  ·obtain rfl:q=t:=G
   exact hf
 ·rcases h.last_ with e|⟨q,h1,h2,h3,h4,h5,h6⟩
  ·exact .inl e
  ·refine .inr ⟨q,h1,G,h3,h4,h5,λr r0 r1=> ?_⟩;rcases bu r t with a|a
   ·exact h6 r r0 a
   ·obtain rfl:r=t:=G
    exact hf
theorem zF.last_in (h:zF s ord nx t nm n last) (hp:ord.Perm (iota s.length)) (ht:t<=s.length):last= -1\/((0<=last/\last<s.length)/\gB s last=true):=by
 rcases h.last_ with e|⟨q,h1,h2,h3,h4,_⟩
 ·exact .inl e
 ·rw [<-h3];have hl:=hp.length_eq;rw[bC] at hl;exact .inr ⟨aV.1 (hp.subset (bF h1 G)),by rw[h3];exact h4⟩
theorem zF.step (hs:Nn s) (h:zF s ord nx t nm n last) (hp:ord.Perm (iota s.length)) (ho:ord.Pairwise (pcS s)) (hx:tK s nx (bJ s).length) (t0:0<=t) (ht:t<s.length) (hf:gB s (rd ord t)=true) {n':Int}
  (hn:(last= -1/\n'=n)\/(0<=last/\Peq s nx last (rd ord t)/\n'=n)\/(0<=last/\ ¬Peq s nx last (rd ord t)/\n'=n+1)):zF s ord nx (t+1) (upd nm (rd ord t) n') n' (rd ord t):=by
 have hl:ord.length=s.length:=by rw[hp.length_eq,bC]
 have hnd:ord.Nodup:=hp.symm.nodup (fG _);have dv: ∀q:Int,0<=q->q<s.length->0<=rd ord q/\rd ord q<s.length:=λq q0 q1=>aV.1 (hp.subset (bF q0 G));have px:=dv t t0 ht
 have jp: ∀q:Int,0<=q->q<t->rd (upd nm (rd ord t) n') (rd ord q)=rd nm (rd ord q):=λq q0 q1=>by
  have hq:=dv q q0 G;rw[gG px.1 hq.1 (by rw[h.len];exact px.2),df];intro e;have:=jY hnd q0 G t0 G e;omega
 have s5:rd (upd nm (rd ord t) n') (rd ord t)=n':=by rw[gG px.1 px.1 (by rw[h.len];exact px.2),di rfl]
 have Fd:=h.bd;have k8:n<=n':=by rcases hn with a|a|a<;>omega
 refine⟨by rw[aT];exact h.len,by rcases hn with a|a|a<;>omega,λe=>G, .inr ⟨t,t0,G,rfl,hf,s5,λr r0 r1=>G⟩,λq q0 q1 f=> ?_,λq r q0 qr r1 f1 f2=> ?_⟩
 ·rcases bu q t with a|a
  ·rw [jp q q0 a];have:=h.rng q q0 a f;omega
  ·obtain rfl:q=t:=G
   rw[s5];omega
 ·rcases bu r t with a|a
  ·rw [jp q q0 G,jp r G a];exact h.pair q r q0 qr a f1 f2
  ·obtain rfl:r=t:=G
   rw[jp q q0 qr,s5];have hq:=dv q q0 G;have hg:=h.rng q q0 qr f1;rcases h.last_ with e|⟨z,z0,z1,z2,z3,z4,z5⟩
   ·have:=(h.start e).2 q q0 qr;rw[f1] at this;cases this
   ·have hqz:q<=z:=by
     rcases bu z q with b|b
     ·have:=z5 q b qr;rw[f1] at this;cases this
     ·exact b
    have hz:=dv z z0 G;have hzr:pcS s (rd ord z) (rd ord r):=eG ho z0 z1 G;have hzx:=hx.nx hz.1 hz.2 (by rw[z2];exact z3);have hrx:=hx.nx px.1 px.2 hf;have hqx:=hx.nx hq.1 hq.2 f1;have cg:rd ord z≠rd ord r:=λe=>by have:=jY hnd z0 G t0 G e;omega
    have pk:(n'=n->Peq s nx (rd ord z) (rd ord r))/\(n<n'-> ¬Peq s nx (rd ord z) (rd ord r)):=by
     rw[z2];rcases hn with b|b|b
     ·omega
     ·exact⟨λ_=>b.2.1,λ_=>G⟩
     ·exact⟨λ_=>G,λ_=>b.2.1⟩
    have hE:pcE s (rd ord q) (rd ord r)->pcE s (rd ord z) (rd ord r)/\(q<z->pcE s (rd ord q) (rd ord z)):=λhe=>by
     rcases bu q z with b|b
     ·have:=aBn hs (u:=rd ord z) (v:=rd ord r) (y:=rd ord r) hq.1 hz.1 px.1 (eG ho q0 b G) hzr (λd hd=>lq _) he;exact⟨this.2,λ_=>this.1⟩
     ·obtain rfl:q=z:=G
      exact⟨he,λh=>G⟩
    rcases bu q z with b|b
    ·have k9:=h.pair q z q0 b z1 f1 (by rw[z2];exact z3);have ez:rd nm (rd ord z)=n:=by rw[z2];exact z4
     rw[ez] at k9;refine⟨G,λe=>(k9.2.1 G).trans (pk.1 G),λe he=> ?_⟩;rcases bu n n' with g|g
     ·exact pk.2 g (Peq.of_E hs hz.1 px.1 cg hzx hrx (hE he).1)
     ·exact k9.2.2 G ((hE he).2 b)
    ·obtain rfl:q=z:=G
     have ez:rd nm (rd ord q)=n:=by rw[z2];exact z4
     rw[ez];refine⟨k8,λe=>pk.1 e.symm,λe he=>pk.2 e (Peq.of_E hs hz.1 px.1 cg hzx hrx he)⟩
theorem PU (hs:Nn s) (h:zF s ord nx s.length nm n last) (hp:ord.Perm (iota s.length)) (ho:ord.Pairwise (pcS s)) (hx:tK s nx (bJ s).length): ∀(m:Nat) (a b:Int),(bJ s).length-a<=m->0<=a->a<(bJ s).length->0<=b->b<(bJ s).length->
  bV ((bJ s).map (rd nm)) a b->bV s (rd (bJ s) a) (rd (bJ s) b)
 |0,a,b,hm,a0,a1,_,_,_=>G
 | m +1,a,b,hm,a0,a1,b0,b1,vt=>by
  have hl:ord.length=s.length:=by rw[hp.length_eq,bC]
  have Wn:((bJ s).map (rd nm)).length=(bJ s).length:=by rw[az]
  have hnm: ∀c:Int,0<=c->c<(bJ s).length->rd ((bJ s).map (rd nm)) c=rd nm (rd (bJ s) c):=λc c0 c1=>by
   rw[fB c0 G,xu,<-fB c0 c1]
  have uv: ∀c:Int,0<=c->c<(bJ s).length-> ∃q:Int,0<=q/\q<s.length/\rd ord q=rd (bJ s) c:=λc c0 c1=>by
   have hc:=oI (s:=s) c0 c1;obtain⟨u,hu,e⟩:=ic.1 (hp.symm.subset (aV.2 hc.1));exact⟨u,G,G,by rw[iM hu];exact e⟩
  have cg:a≠b:=λe=>by rw[e] at vt;exact fU _ _ vt vt
  have ha:=oI (s:=s) a0 a1;have hb:=oI (s:=s) b0 b1;have Mz:rd (bJ s) a≠rd (bJ s) b:=λe=>cg (jY (yY s) a0 a1 b0 b1 e);obtain⟨q,q0,q1,eq⟩:=uv a a0 a1;obtain⟨r,r0,r1,er⟩:=uv b b0 b1;have hqr:q≠r:=λe=>Mz (by rw[<-eq,<-er,e]);rw[mQ a0 G b0 G,hnm a a0 a1,hnm b b0 b1] at vt;have Kv:gB s (rd ord q)=true:=by rw[eq];exact ha.2
  have Mj:gB s (rd ord r)=true:=by rw[er];exact hb.2
  rcases vt with bo|⟨he,Un⟩
  ·rcases bu q r with c|c
   ·have k9:=h.pair q r q0 c r1 Kv Mj;rw[eq,er] at k9;have:=eG ho q0 c G;rw[eq,er] at this;exact aYh hs ha.1.1 hb.1.1 this (k9.2.2 bo)
   ·have k9:=h.pair r q r0 G q1 Mj Kv;rw[eq,er] at k9;omega
  ·have hpe:Peq s nx (rd (bJ s) a) (rd (bJ s) b):=by
    rcases bu q r with c|c
    ·have k9:=h.pair q r q0 c r1 Kv Mj;rw[eq,er] at k9;exact k9.2.1 he
    ·have k9:=h.pair r q r0 G q1 Mj Kv;rw[eq,er] at k9;exact(k9.2.1 he.symm).symm
   obtain⟨p1,p2,p3,p4⟩:=hpe;have gx:=(hx.nx ha.1.1 ha.1.2 ha.2).gt;have ea:=hx.at_ a a0 a1;have eb:=hx.at_ b b0 b1
   have Tc:a+1<(bJ s).length:=by
    rcases bu (a+1) (bJ s).length with c|c
    ·exact c
    ·rw[df G] at ea;omega
   have hbc:b+1<(bJ s).length:=by
    rcases bu (b+1) (bJ s).length with c|c
    ·exact c
    ·rw[df G] at eb;omega
   rw[di Tc] at ea;rw[di hbc] at eb;have ih:=PU hs h hp ho hx m (a+1) (b+1) G G Tc G hbc (iU.1 Un);rw[<-ea,<-eb] at ih;refine MR (rd nx (rd (bJ s) a)-rd (bJ s) a).toNat _ _ ha.1.1 hb.1.1 G G (λi hi=>p4 i G G) ?_;rwa[show rd (bJ s) a+(((rd nx (rd (bJ s) a)-rd (bJ s) a).toNat:Nat):Int)=rd nx (rd (bJ s) a) by omega,show rd (bJ s) b+(((rd nx (rd (bJ s) a)-rd (bJ s) a).toNat:Nat):Int)=rd nx (rd (bJ s) b) by omega]
theorem aRr (h:zF s ord nx s.length nm n last) (hp:ord.Perm (iota s.length)): ∀x∈(bJ s).map (rd nm),0<=x/\x<n+1:=by
 intro x hx;obtain⟨y,hy,rfl⟩:=gz.1 hx;obtain⟨hy1,hy2⟩:=sW.1 hy;have hl:ord.length=s.length:=by rw[hp.length_eq,bC]
 obtain⟨u,hu,e⟩:=ic.1 (hp.symm.subset (aV.2 hy1));have:=h.rng u G G (by rw[iM hu,e];exact hy2);rw[iM hu,e] at this;omega
theorem aQc (hs:Nn s) (h:zF s ord nx s.length nm n last) (hp:ord.Perm (iota s.length)) (ho:ord.Pairwise (pcS s)) (hx:tK s nx (bJ s).length) {o:AH} (op:o.Perm (iota ((bJ s).map (rd nm)).length)) (oo:o.Pairwise (bV ((bJ s).map (rd nm)))):
  (o.map (rd (bJ s))).Perm (bJ s)/\(o.map (rd (bJ s))).Pairwise (bV s):=by
 rw[az] at op;refine⟨?_,?_⟩
 ·have:=op.map (rd (bJ s));rwa[lX] at this
 ·refine ib.2 (ku (λ{a b} ha hb vt=> ?_) oo);have h1:=aV.1 (op.subset ha);have h2:=aV.1 (op.subset hb);exact PU hs h hp ho hx (bJ s).length a b G h1.1 h1.2 h2.1 h2.2 vt
theorem aFz {l:AH} {x i:Int} {m:Nat} (x0:0<=x) (h0:0<=i) (h:i<m):rd ((l.drop x.toNat).take m) i=rd l (x+i):=by
 unfold rd;rw[af,af,qw G,su,show x.toNat+i.toNat=(x+i).toNat by omega]
theorem WU {x y:Int} (x0:0<=x) (y0:0<=y) (hx:x<rd nx x) (My:rd nx x<s.length) (hy:y<rd nx y) (Wu:rd nx y<s.length):
  (s.drop x.toNat).take ((min (rd nx x+1) ((s.length:Nat):Int)).toNat-x.toNat)=(s.drop y.toNat).take ((min (rd nx y+1) ((s.length:Nat):Int)).toNat-y.toNat)↔Peq s nx x y:=by
 have lx:((s.drop x.toNat).take ((min (rd nx x+1) ((s.length:Nat):Int)).toNat-x.toNat)).length=(rd nx x-x+1).toNat:=by rw[ax,bn];omega
 have ly:((s.drop y.toNat).take ((min (rd nx y+1) ((s.length:Nat):Int)).toNat-y.toNat)).length=(rd nx y-y+1).toNat:=by rw[ax,bn];omega
 constructor
 ·intro h;have hl:=bg List.length h;rw[lx,ly] at hl;refine⟨My,Wu,G,λi i0 i1=> ?_⟩;have:rd ((s.drop x.toNat).take ((min (rd nx x+1) ((s.length:Nat):Int)).toNat-x.toNat)) i=rd ((s.drop y.toNat).take ((min (rd nx y+1) ((s.length:Nat):Int)).toNat-y.toNat)) i:=by rw[h]
  rwa[aFz x0 i0 G,aFz y0 i0 G] at this
 ·rintro ⟨_,_,h3,h4⟩;refine bE (by rw[lx,ly];omega) λi i0 i1=> ?_;rw[lx] at i1;rw[aFz x0 i0 G,aFz y0 i0 G];exact h4 i i0 G
theorem aQs {r:Int->Int->Prop}: ∀ {l:AH},l.length<2->l.Pairwise r
 |[],_=> .nil
 |[_],_=>rz _ _
 |_::_::_,h=>by simp at h;omega
theorem aRu {x y:Int} (hl:0<=x->x<s.length/\x<rd nx x/\rd nx x<=s.length) (y0:0<=y) (hy:y<rd nx y) (Wu:rd nx y<=s.length)
  (h:0<=x/\((rd nx y=((s.length:Nat):Int)\/rd nx x=((s.length:Nat):Int))\/ ¬(s.drop x.toNat).take ((min (rd nx x+1) ((s.length:Nat):Int)).toNat-x.toNat)=(s.drop y.toNat).take ((min (rd nx y+1) ((s.length:Nat):Int)).toNat-y.toNat))):
  (x= -1/\n+1=n)\/(0<=x/\Peq s nx x y/\n+1=n)\/(0<=x/\ ¬Peq s nx x y/\n+1=n+1):=by
 refine .inr (.inr ⟨h.1,λhp=> ?_,rfl⟩);have a:=hl h.1;rcases h.2 with g|g
 ·have h1:=hp.1;have h2:=hp.2.1;omega
 ·exact g ((WU h.1 y0 a.2.1 hp.1 hy hp.2.1).2 hp)
theorem aRt {x y:Int} (hx: -1<=x) (hl:0<=x->x<s.length/\x<rd nx x/\rd nx x<=s.length) (y0:0<=y) (hy:y<rd nx y) (Wu:rd nx y<=s.length)
  (h: ¬(0<=x/\((rd nx y=((s.length:Nat):Int)\/rd nx x=((s.length:Nat):Int))\/ ¬(s.drop x.toNat).take ((min (rd nx x+1) ((s.length:Nat):Int)).toNat-x.toNat)=(s.drop y.toNat).take ((min (rd nx y+1) ((s.length:Nat):Int)).toNat-y.toNat)))):
  (x= -1/\n=n)\/(0<=x/\Peq s nx x y/\n=n)\/(0<=x/\ ¬Peq s nx x y/\n=n+1):=by
 rcases bu x 0 with g|g
 ·exact .inl ⟨G,rfl⟩
 ·have a:=hl g;have h1: ¬rd nx y=((s.length:Nat):Int):=λe=>h ⟨g, .inl (.inl e)⟩;have h2: ¬rd nx x=((s.length:Nat):Int):=λe=>h ⟨g, .inl (.inr e)⟩;have h3:=yh.1 λe=>h ⟨g, .inr e⟩;exact .inr (.inl ⟨g,(WU g y0 a.2.1 G hy G).1 h3,rfl⟩)
end
end Go.Pure
namespace Go.Pure
open Go Go.Eng
theorem FB {T:Int->Int->Prop} [DecidableRel T] (Ne: ∀x y,T x y-> ¬T y x): ∀ {o:AH} {q:Nat},o.Pairwise T->(h:q<o.length)->o.countP (λx=>decide (T x o[q]))=q
 |[],q,_,h=>by simp at h
 |a::o,0,hs,h=>by
  rw[Bz];intro x hx;simp only[List.getElem_cons_zero,iv];rcases iw.1 hx with rfl|hx
  ·exact λh=>Ne _ _ h h
  ·exact Ne _ _ ((il.1 hs).1 x hx)
 |a::o,q+1,hs,h=>by
  obtain⟨h1,h2⟩:=il.1 hs;have hq:q<o.length:=by simp only[dm] at h;omega
  simp only[List.getElem_cons_succ];rw[List.countP_cons_of_pos (by simpa using h1 _ (ky hq)),FB Ne h2 hq]
theorem aGa {T:Int->Int->Prop} [DecidableRel T] (Ne: ∀x y,T x y-> ¬T y x) {o:AH} {n:Nat} (hp:o.Perm (iota n)) (hs:o.Pairwise T) {q:Int} (q0:0<=q) (hq:q<n):(((iota n).countP λx=>decide (T x (rd o q)):Nat):Int)=q:=by
 have hl:o.length=n:=by rw[hp.length_eq,bC]
 rw[<-hp.countP_eq,fB q0 G,FB Ne hs G];omega
theorem uA {n:Nat} {q:Int} (q0:0<=q) (hq:q<n):rd (iota n) q=q:=by
 unfold iota;rw[iF q0 hq];omega
theorem CR {n:Nat} {f:Int->Int} (hf: ∀x:Int,0<=x->x<n->0<=f x/\f x<n) (hi: ∀x y:Int,0<=x->x<n->0<=y->y<n->f x=f y->x=y):((iota n).map f).Perm (iota n):=by
 refine qO ?_ (λx hx=> ?_) cD
 ·refine ib.2 (ku (λ{a b} ha hb vt e=> ?_) (fG n));have h1:=aV.1 ha;have h2:=aV.1 hb;exact vt (hi a b h1.1 h1.2 h2.1 h2.2 e)
 ·obtain ⟨y,hy,rfl⟩:=gz.1 hx;have h:=aV.1 hy;exact aV.2 (hf y h.1 h.2)
def tl (l:AH) (i k:Int):Prop:=rd l i<rd l k\/rd l i=rd l k/\i<k
instance (l:AH):DecidableRel (tl l):=λi k=>by unfold tl;infer_instance
theorem aOr {l:AH} (x y:Int) (h:tl l x y): ¬tl l y x:=by unfold tl at*;omega
def lfC (l:AH) (k:Int):Int:=((iota l.length).countP λj=>decide (tl l j k):Nat)
def Byt (l:AH):Prop:= ∀x∈l,0<=x/\x<256
section
variable {l:AH}
theorem kD (hl:Byt l):(bW (iota l.length) l 256).Perm (iota l.length)/\(bW (iota l.length) l 256).Pairwise (tl l):=
 ⟨nR λi hi=>by have h:=aV.1 hi;exact hl _ (bF h.1 h.2),gX (vW _) 256⟩
theorem bGt (hl:Byt l) {q:Int} (q0:0<=q) (hq:q<l.length):lfC l (rd (bW (iota l.length) l 256) q)=q:=aGa aOr (kD hl).1 (kD hl).2 q0 hq
theorem XM (hl:Byt l) {i:Int} (i0:0<=i) (hi:i<l.length): ∃q:Int,0<=q/\q<l.length/\rd (bW (iota l.length) l 256) q=i/\lfC l i=q:=by
 obtain⟨u,hu,e⟩:=ic.1 ((kD hl).1.symm.subset (aV.2 ⟨i0,hi⟩));have hlen:=(kD hl).1.length_eq;rw[bC] at hlen;have e2:rd (bW (iota l.length) l 256) (u:Int)=i:=by rw[iM hu];exact e
 refine⟨u,G,G,e2,?_⟩;rw[<-e2];exact bGt hl G G
theorem XN (hl:Byt l) {i:Int} (i0:0<=i) (hi:i<l.length):0<=lfC l i/\lfC l i<l.length:=by
 obtain⟨q,q0,q1,_,e⟩:=XM hl i0 hi;omega
theorem bBt (hl:Byt l) {i k:Int} (i0:0<=i) (hi:i<l.length) (k0:0<=k) (hk:k<l.length):lfC l i<lfC l k↔tl l i k:=by
 obtain⟨p,p0,p1,ep,fp⟩:=XM hl i0 hi;obtain⟨q,q0,q1,eq,fq⟩:=XM hl k0 hk;have hlen:=(kD hl).1.length_eq;rw[bC] at hlen;have hs:=(kD hl).2;rw[fp,fq];constructor
 ·intro h;have:=eG hs p0 h G;rwa[ep,eq] at this
 ·intro h;rcases je p q with a|a|a
  ·exact a
  ·subst a;rw[<-ep,<-eq] at h;exact absurd h (aOr _ _ h)
  ·have:=eG hs q0 a G;rw[ep,eq] at this;exact absurd h (aOr _ _ this)
theorem aSg (hl:Byt l) {i k:Int} (i0:0<=i) (hi:i<l.length) (k0:0<=k) (hk:k<l.length) (e:lfC l i=lfC l k):i=k:=by
 have h1:=bBt hl i0 hi k0 hk;have h2:=bBt hl k0 hk i0 hi;unfold tl at h1 h2;rcases je (rd l i) (rd l k) with a|a|a
 ·have:=h1.2 (.inl a);omega
 ·rcases je i k with b|b|b
  ·have:=h1.2 (.inr ⟨a,b⟩);omega
  ·exact b
  ·have:=h2.2 (.inr ⟨a.symm,b⟩);omega
 ·have:=h2.2 (.inl a);omega
def zat (a:AH):Int:=if (0:Int)∈a then(a.idxOf 0:Int)+1 else 0
def ofT (s a:AH):AH:=(a.filter λx=>decide (x≠0)).map λx=>rd s (x-1)
def ofL (s a:AH):AH:=(if 0<s.length then [rd s (s.length-1)] else [])++ofT s a
theorem UR {a:AH} (hd:a.Nodup) {i:Int} (i0:0<=i) (hi:i<a.length):zat (a.take (i+1).toNat)=if rd a i=0 then i+1 else zat (a.take i.toNat):=by
 rw[dF i0 hi];split
 ·rename_i e
  have yd:(0:Int)∉a.take i.toNat:=by
   intro h;obtain⟨q,hq,e2⟩:=ic.1 h;rw[ax] at hq;have:=jY hd (i:=(q:Int)) (j:=i) G G i0 hi (by rw[ym] at e2;rw[e,fB G G];simp only[bq];exact e2);omega
  unfold zat;rw[di (by simp[e]),Hy,df yd,e];simp only[ax,List.idxOf_cons_self];omega
 ·rename_i e;have yd:(0:Int)∉[rd a i]:=by simp;exact λh=>e h.symm
  unfold zat;by_cases h:(0:Int)∈a.take i.toNat
  ·rw[di h,di (Fu _ h),Hy,di h]
  ·rw[df h,df (by rw[fo];exact λg=>g.elim h yd)]
theorem XD {s a:AH} {i:Int} (i0:0<=i) (hi:i<a.length):ofT s (a.take (i+1).toNat)=ofT s (a.take i.toNat)++if rd a i=0 then [] else [rd s (rd a i-1)]:=by
 unfold ofT;rw[dF i0 hi,sj,jc];congr 1;by_cases h:rd a i=0
 ·rw[di h,kg (by simpa using h)];rfl
 ·rw[df h,ni (by simpa using h)];rfl
variable {s a:AH}
theorem jZ {u v:AH} {j:Int} (h0:0<=j) (h:j<u.length):rd (u++v) j=rd u j:=by
 unfold rd;rw[af,af,jf G]
theorem gY {u v:AH} {j:Int} (h:(u.length:Int)<=j):rd (u++v) j=rd v (j-u.length):=by
 unfold rd;rw[af,af,jh G,show j.toNat-u.length=(j-u.length).toNat by omega]
theorem vL {u:AH} {f:Int->Int} {j:Int} (h0:0<=j) (h:j<u.length):rd (u.map f) j=f (rd u j):=by
 rw[fB h0 (by rw[az];exact h),xu,<-fB h0 h]
theorem sO (hp:a.Perm (iota s.length)):(ofL s a).length=s.length/\(0<s.length->1<=zat a/\zat a<=s.length/\rd a (zat a-1)=0)/\(s.length=0->zat a=0)/\
  ∀j:Int,0<=j->j<s.length->rd (ofL s a) j=if j=0 then rd s (s.length-1) else if j<zat a then rd s (rd a (j-1)-1) else rd s (rd a j-1):=by
 have hl:a.length=s.length:=by rw[hp.length_eq,bC]
 rcases fe s.length with hz|hn
 ·have e:a=[]:=dx G;subst e;refine⟨by unfold ofL ofT;rw[df G];simp;omega,λh=>G,λ_=>rfl,λj h0 h=>G⟩
 have hnd:a.Nodup:=hp.symm.nodup (fG _);have kx:(0:Int)∈a:=hp.symm.subset (aV.2 ⟨lq 0,G⟩);obtain⟨a1,a2,e⟩:=List.append_of_mem kx
 have Fk:(0:Int)∉a1:=λh=>by
  rw[e] at hnd;exact(xc.1 hnd).2.2 0 h 0 cD rfl
 have Pe:(0:Int)∉a2:=λh=>by
  rw[e] at hnd;exact(ve.1 (xc.1 hnd).2.1).1 h
 have hzat:zat a=(a1.length:Int)+1:=by
  unfold zat;rw[di kx,e,Hy,df Fk];simp
 have hT:ofT s a=(a1.map λx=>rd s (x-1))++a2.map λx=>rd s (x-1):=by
  unfold ofT;have f1:a1.filter (λx=>decide (x≠0))=a1:=Ca.2 λx hx=>ko λh=>Fk (by rw[<-h];exact hx);have f2:a2.filter (λx=>decide (x≠0))=a2:=Ca.2 λx hx=>ko λh=>Pe (by rw[<-h];exact hx);rw[e,sj,kg cD,f1,f2,jc]
 have hlen:a1.length+a2.length+1=s.length:=by rw[<-hl,e];simp;omega
 have hL:ofL s a=rd s (s.length-1)::((a1.map λx=>rd s (x-1))++a2.map λx=>rd s (x-1)):=by
  unfold ofL;rw[di hn,hT];rfl
 refine⟨by rw[hL];simp;omega,λ_=>⟨G,G,?_⟩,λh=>G,λj j0 j1=> ?_⟩
 ·rw [hzat,e,gY G,show(a1.length:Int)+1-1-a1.length=0 by omega];rfl
 ·rw [hL];by_cases hj:j=0
  ·subst hj;rw[di rfl];rfl
  ·rw [df hj]
   have ec:rd (rd s (s.length-1)::((a1.map λx=>rd s (x-1))++a2.map λx=>rd s (x-1))) j=rd ((a1.map λx=>rd s (x-1))++a2.map λx=>rd s (x-1)) (j-1):=by
    unfold rd;rw[show j.toNat=(j-1).toNat+1 by omega];rfl
   rw[ec];split
   ·rename_i h;rw[jZ G (by rw[az];omega),vL G G,e,jZ G G]
   ·rename_i h;rw[gY (by rw[az];omega),vL (by rw[az];omega) (by rw[az];omega),e,gY G];rw[az]
    have:rd ((0:Int)::a2) (j-a1.length)=rd a2 (j-1-a1.length):=by
     unfold rd;rw[show(j-a1.length).toNat=(j-1-a1.length).toNat+1 by omega];rfl
    rw[this]
def ixr (m r:Int):Int:=if m<r then r-1 else r
def jH (l:AH) (m:Int):Nat->Int
 |0=>0
 |t+1=>lfC l (ixr m (jH l m t))+1
def rD (l:AH) (m:Int):AH:=(List.range l.length).map λi:Nat=>rd l (ixr m (jH l m (l.length-1-i)))
def aWh (l:AH) (m:Int):Prop:=min (l.length:Int) 1<=m/\m<=l.length
def bKz (l:AH) (m:Int):Prop:= ∀t:Nat,t<l.length->jH l m t≠m
def bFz (l:AH) (m:Int):Prop:=aWh l m/\bKz l m/\jH l m l.length=m
theorem xS (l:AH) (m:Int):(rD l m).length=l.length:=by simp[rD]
theorem WO {m i:Int} (i0:0<=i) (hi:i<l.length):rd (rD l m) i=rd l (ixr m (jH l m (l.length-1-i).toNat)):=by
 unfold rD;rw[iF i0 hi,show l.length-1-i.toNat=((l.length:Int)-1-i).toNat by omega]
theorem TI {m r:Int} {n:Nat} (h0:0<=r) (h1:r<=n) (cg:r≠m) (sv:0<=m) (hm:m<=n) (hn:0<n):0<=ixr m r/\ixr m r<n:=by
 unfold ixr;split<;>omega
theorem bEq {m r q:Int} (hr:r≠m) (hq:q≠m):ixr m r<ixr m q↔r<q:=by
 unfold ixr;split<;>split<;>omega
theorem aGu {m r q:Int} (hr:r≠m) (hq:q≠m) (h:ixr m r=ixr m q):r=q:=by
 unfold ixr at h;split at h<;>split at h<;>omega
theorem ZW (hl:Byt l) {m:Int} (hm:aWh l m): ∀t:Nat,(∀u:Nat,u<t->jH l m u≠m)->t<=l.length->0<=jH l m t/\jH l m t<=l.length
 |0,_,_=>by unfold jH;omega
 |t+1,h,ht=>by
  have ih:=ZW hl hm t (λu hu=>h u G) G;have hb:=TI (n:=l.length) ih.1 ih.2 (h t G) (by have:=hm.1;omega) hm.2 G;have:=XN hl hb.1 hb.2;rw[jH];omega
theorem XC {x:Int} (x0:0<=x) (hx:x<s.length) {y:Int} (hy:(s.length:Int)<=y): ¬bV s x y:=fU _ _ (AX x0 hx hy)
theorem aRd {j k:Int} (j0:0<=j) (hj:j<s.length) (k0:0<=k) (hk:k<s.length):bV s j k↔rd s j<rd s k\/rd s j=rd s k/\bV s (j+1) (k+1):=by
 rw[mQ j0 hj k0 hk,iU]
end
end Go.Pure
namespace Go.Pure
open Go Go.Eng
section
variable {l s a:AH}
def cT (s:AH) (x y:Int):Prop:=cmpL (s.drop x.toNat) (s.drop y.toNat)<0
instance (s:AH):DecidableRel (cT s):=λx y=>by unfold cT;infer_instance
theorem UB {x y:Int}:cT s x y↔bV s x y:=iU
theorem bKa (x y:Int) (h:cT s x y): ¬cT s y x:=λh'=>fU _ _ (UB.1 h) (UB.1 h')
def AU (s:AH) (k:Int):Int:=((iota s.length).countP λj=>decide (cT s j k):Nat)
def lD (s:AH) (k:Int):Int:=if k<s.length then AU s k+1 else 0
theorem aQv (hp:a.Perm (iota s.length)) (ho:a.Pairwise (bV s)) {q:Int} (q0:0<=q) (hq:q<s.length):AU s (rd a q)=q:=aGa bKa hp (ho.imp λh=>UB.2 h) q0 hq
theorem KF (hp:a.Perm (iota s.length)) (ho:a.Pairwise (bV s)) {k:Int} (k0:0<=k) (hk:k<s.length):(0<=AU s k/\AU s k<s.length)/\rd a (AU s k)=k:=by
 obtain⟨u,hu,e⟩:=ic.1 (hp.symm.subset (aV.2 ⟨k0,hk⟩));have hlen:=hp.length_eq;rw[bC] at hlen;have e2:rd a (u:Int)=k:=by rw[iM hu];exact e
 have e3:=aQv hp ho (q:=(u:Int)) G G;rw[e2] at e3;rw[e3];exact⟨G,e2⟩
theorem aBp {j k:Int} (j0:0<=j) (hj:j<=s.length) (k0:0<=k) (hk:k<=s.length):lD s j<lD s k↔bV s j k:=by
 obtain⟨a,hp,ho⟩:=pM s;have hlen:=hp.length_eq;rw[bC] at hlen;unfold lD;rcases bu j s.length with a1|a1
 ·rw [di a1];have vx:=KF hp ho j0 a1;rcases bu k s.length with b1|b1
  ·rw [di b1];have nv:=KF hp ho k0 b1;constructor
   ·intro h;have:=eG ho vx.1.1 (by omega:AU s j<AU s k) G;rwa[vx.2,nv.2] at this
   ·intro h;rcases je (AU s j) (AU s k) with c|c|c
    ·omega
    ·rw [c,nv.2] at vx;rw[<-vx.2] at h;exact absurd h (fU _ _ h)
    ·have:=eG ho nv.1.1 c G;rw[vx.2,nv.2] at this;exact absurd h (fU _ _ this)
  ·rw [df G];exact⟨λh=>G,λh=>absurd h (XC j0 a1 b1)⟩
 ·rw [df G];rcases bu k s.length with b1|b1
  ·rw [di b1];have nv:=KF hp ho k0 b1;exact⟨λ_=>AX k0 b1 a1,λ_=>G⟩
  ·rw [df G];obtain rfl:j=k:=G
   exact⟨λh=>G,λh=>absurd h (fU _ _ h)⟩
theorem JN {k:Int} (k0:0<=k):0<=lD s k/\lD s k<=s.length/\(k<s.length->1<=lD s k):=by
 obtain⟨a,hp,ho⟩:=pM s;unfold lD;split
 ·rename_i h;have:=KF hp ho k0 h;omega
 ·omega
theorem xD {j k:Int} (j0:0<=j) (hj:j<=s.length) (k0:0<=k) (hk:k<=s.length) (e:lD s j=lD s k):j=k:=by
 have h1:=aBp j0 hj k0 hk;have h2:=aBp k0 hk j0 hj;rcases bu j s.length with a1|a1
 ·rcases bu k s.length with b1|b1
  ·by_cases h:j=k
   ·exact h
   ·rcases KR ⟨j0,a1⟩ ⟨k0,b1⟩ h with c|c
    ·have:=h1.2 c;omega
    ·have:=h2.2 c;omega
  ·have:=h2.2 (AX j0 a1 b1);omega
 ·rcases bu k s.length with b1|b1
  ·have:=h1.2 (AX k0 b1 a1);omega
  ·omega
theorem pG (hp:a.Perm (iota s.length)) (ho:a.Pairwise (bV s)):zat a=lD s 0:=by
 obtain⟨_,h1,h2,_⟩:=sO hp;unfold lD;rcases fe s.length with hz|hn
 ·rw[df G,h2 hz]
 ·have h:=h1 hn;rw[di G];have:=aQv hp ho (q:=zat a-1) G G;rw[h.2.2] at this;omega
theorem letter (hp:a.Perm (iota s.length)) (ho:a.Pairwise (bV s)) {k:Int} (k0:0<=k) (hk:k<s.length):(0<=ixr (zat a) (lD s (k+1))/\ixr (zat a) (lD s (k+1))<s.length)/\rd (ofL s a) (ixr (zat a) (lD s (k+1)))=rd s k:=by
 obtain⟨_,h1,_,h3⟩:=sO hp;have hz:=h1 G;have hb:=JN (s:=s) (k:=k+1) G
 have cg:lD s (k+1)≠zat a:=by
  rw[pG hp ho];intro e;have:=xD (s:=s) G G (lq 0) G e;omega
 have uv:=TI hb.1 hb.2.1 cg G hz.2.1 G;refine⟨uv,?_⟩;rw[h3 _ uv.1 uv.2];rcases bu (k+1) s.length with c|c
 ·have Ky:=KF hp ho (k:=k+1) G c;have er:lD s (k+1)=AU s (k+1)+1:=by unfold lD;rw[di c]
  unfold ixr at uv ⊢;by_cases d:zat a<lD s (k+1)
  ·rw [di d];rw[df G,df G,show lD s (k+1)-1=AU s (k+1) by omega,Ky.2];congr 1;omega
  ·rw [df d];rw[df G,di G,show lD s (k+1)-1=AU s (k+1) by omega,Ky.2];congr 1;omega
 ·have er:lD s (k+1)=0:=by unfold lD;rw[df G]
  have e0:ixr (zat a) 0=0:=by unfold ixr;rw[df G]
  rw[er,e0,di rfl];congr 1;omega
theorem AY (hs:Byt s) (hp:a.Perm (iota s.length)):Byt (ofL s a):=by
 intro x hx;obtain⟨h0,_,_,h3⟩:=sO hp;obtain⟨u,hu,rfl⟩:=ic.1 hx;have Gk:=hp.length_eq;rw[bC] at Gk;have e:=h3 u G G;rw[iM hu] at e;have hm: ∀j:Int,0<=j->j<s.length->0<=rd s j/\rd s j<256:=λj j0 j1=>hs _ (bF j0 j1);have ha: ∀j:Int,0<=j->j<s.length->0<=rd a j/\rd a j<s.length:=λj j0 j1=>aV.1 (hp.subset (bF j0 G));have Mn: ∀j:Int,j<0->rd s j=rd s 0:=λj h=>by unfold rd;rw[show j.toNat=(0:Int).toNat by omega]
 have Rb: ∀j:Int,j<s.length->0<=rd s j/\rd s j<256:=λj h=>by
  rcases bu j 0 with c|c
  ·rw[Mn j c];exact hm 0 (lq 0) G
  ·exact hm j c h
 rw[e];split
 ·exact Rb _ G
 ·split
  ·have:=ha ((u:Int)-1) G G;exact Rb _ G
  ·have:=ha u G G;exact Rb _ G
theorem aZc (hs:Byt s) (hp:a.Perm (iota s.length)) (ho:a.Pairwise (bV s)) {k:Int} (k0:0<=k) (hk:k<s.length):lfC (ofL s a) (ixr (zat a) (lD s (k+1)))=AU s k:=by
 obtain⟨h0,h1,_,_⟩:=sO hp
 have cg: ∀j:Int,0<=j->j<s.length->lD s (j+1)≠zat a:=λj j0 j1 e=>by
  rw[pG hp ho] at e;have:=xD (s:=s) G G (lq 0) G e;omega
 have hb:=CR (n:=s.length) (f:=λk=>ixr (zat a) (lD s (k+1))) (λj j0 j1=>(letter hp ho j0 j1).1) λx y x0 x1 y0 y1 e=>by
  have e2:=aGu (cg x x0 x1) (cg y y0 y1) e;have:=xD (s:=s) G G G G e2;omega
 unfold lfC AU;rw[h0,<-hb.countP_eq,List.countP_map];congr 1;refine Hu λj hj=> ?_;have hj:=aV.1 hj;simp only[Function.comp_apply,iv];rw[UB,aRd hj.1 hj.2 k0 hk,<-aBp G G G G];unfold tl;rw[(letter hp ho hj.1 hj.2).2,(letter hp ho k0 hk).2,bEq (cg j hj.1 hj.2) (cg k k0 hk)]
theorem CU (hs:Byt s) (hp:a.Perm (iota s.length)) (ho:a.Pairwise (bV s)): ∀t:Nat,t<=s.length->jH (ofL s a) (zat a) t=lD s (s.length-t)
 |0,_=>by unfold jH lD;rw[df G]
 |t+1,ht=>by
  rw[jH,CU hs hp ho t G];have:=aZc hs hp ho (k:=(s.length:Int)-((t+1:Nat):Int)) G G;rw[show(s.length:Int)-((t+1:Nat):Int)+1=s.length-(t:Int) by omega] at this;rw[this];unfold lD;rw[di G]
theorem ET (hs:Byt s) (hp:a.Perm (iota s.length)) (ho:a.Pairwise (bV s)):bFz (ofL s a) (zat a)/\rD (ofL s a) (zat a)=s:=by
 obtain⟨h0,h1,h2,_⟩:=sO hp;refine⟨⟨?_,λt ht=> ?_,?_⟩,?_⟩
 ·unfold aWh;rw[h0];rcases fe s.length with hz|hn
  ·have:=h2 hz;omega
  ·have:=h1 hn;omega
 ·rw [h0] at ht;rw[CU hs hp ho t G,pG hp ho];intro e;have:=xD (s:=s) G G (lq 0) G e;omega
 ·rw [h0,CU hs hp ho _ (dn _),pG hp ho];congr 1;omega
 ·refine bE (by rw[xS,h0]) λi i0 i1=> ?_;rw[xS,h0] at i1;rw[WO i0 (by rw[h0];exact i1),h0,CU hs hp ho _ G];have:=(letter hp ho i0 i1).2;rwa[show(s.length:Int)-(((s.length:Int)-1-i).toNat:Int)=i+1 by omega]
theorem aRq (hp:a.Perm (iota s.length)) (ho:a.Pairwise (bV s)):((iota s.length).map λk=>ixr (zat a) (lD s (k+1))).Perm (iota s.length):=by
 have cg: ∀j:Int,0<=j->j<s.length->lD s (j+1)≠zat a:=λj j0 j1 e=>by
  rw[pG hp ho] at e;have:=xD (s:=s) G G (lq 0) G e;omega
 exact CR (n:=s.length) (f:=λk=>ixr (zat a) (lD s (k+1))) (λj j0 j1=>(letter hp ho j0 j1).1) λx y x0 x1 y0 y1 e=>by
  have e2:=aGu (cg x x0 x1) (cg y y0 y1) e;have:=xD (s:=s) G G G G e2;omega
theorem KU (hp:a.Perm (iota s.length)) (ho:a.Pairwise (bV s)):(ofL s a).Perm s:=by
 have h0:=(sO hp).1;have h1:=(aRq hp ho).map (rd (ofL s a));rw[rq] at h1
 have e1:(iota s.length).map (rd (ofL s a) ∘ λk=>ixr (zat a) (lD s (k+1)))=s:=by
  conv=>rhs;rw[<-lX s]
  refine xh λk hk=> ?_;have hk:=aV.1 hk;exact(letter hp ho hk.1 hk.2).2
 have e2:(iota s.length).map (rd (ofL s a))=ofL s a:=by
  have:=lX (ofL s a);rwa[h0] at this
 rw[e1,e2] at h1;exact h1.symm
end
end Go.Pure
namespace Go.Pure
open Go Go.Eng
theorem WY {l m:AH} (hl:l.Nodup) (hm:m.Nodup) (e: ∀x,x∈l↔x∈m):l.Perm m:=
 qO hl (λx h=>(e x).1 h) (nY hm λx h=>(e x).2 h)
def NS (r k:Nat):AH:=(List.range k).map λt:Nat=>(r+3*t:Int)
theorem WS (r k:Nat):(NS r k).length=k:=by simp[NS]
theorem aKi (r k:Nat):NS r (k+1)=NS r k++[(r+3*k:Int)]:=by
 unfold NS;rw[zk,jc];rfl
def plc (n r:Nat):AH:=NS r ((n+2-r)/3)
theorem jL (n r:Nat):(plc n r).length=(n+2-r)/3:=WS _ _
theorem SX {n r:Nat} {t:Int} (h0:0<=t) (h:t<(plc n r).length):rd (plc n r) t=r+3*t:=by
 rw[jL] at h;unfold plc NS;rw[iF h0 G];omega
theorem jU {n r:Nat} {x:Int} (hr:r<=2):x∈plc n r↔0<=x/\x<n/\x%3=r:=by
 unfold plc NS;rw[gz];constructor
 ·rintro ⟨t,ht,rfl⟩;have:=jm.1 ht;omega
 ·rintro ⟨h0,h1,h2⟩;exact⟨((x-r)/3).toNat,jm.2 G,G⟩
theorem xJ (n r:Nat):(plc n r).Nodup:=by
 unfold plc NS;exact ib.2 (vz.imp λ{x y} h hh=>h G)
def smp (n:Nat):AH:=plc n 1++plc n 2
theorem lI {n:Nat} {x:Int}:x∈smp n↔0<=x/\x<n/\x%3≠0:=by
 unfold smp;rw[fo,jU G,jU G];omega
theorem zU (n:Nat):(smp n).length=(n+1)/3+n/3:=by
 unfold smp;rw[ai,jL,jL];omega
theorem pX (n:Nat):(smp n).Nodup:=by
 unfold smp;refine xc.2 ⟨xJ _ _,xJ _ _,λa ha b hb e=> ?_⟩;rw[jU G] at ha hb;omega
theorem aXa (n:Nat):(smp n++plc n 0).Perm (iota n):=by
 refine WY (xc.2 ⟨pX _,xJ _ _,λa ha b hb e=> ?_⟩) (fG n) λx=> ?_
 ·rw [lI] at ha;rw[jU G] at hb;omega
 ·rw [fo,lI,jU G,aV];omega
def iO (s:AH) (i:Int):Int:=if (s.length:Int)<=i then 0 else rd s i+1
def fQ (s:AH) (b:Int):AH:=(List.range s.length).map λi:Nat=>iO s ((i:Int)+b)
theorem DZ (s:AH) (b:Int):(fQ s b).length=s.length:=by simp[fQ]
theorem AQ {s:AH} {b i:Int} (h0:0<=i) (h:i<s.length):rd (fQ s b) i=iO s (i+b):=by
 unfold fQ;rw[iF h0 G];congr 1;omega
theorem bBs: ∀ {s:AH},Nn s->lo s=0
 |[],_=>rfl
 |a::s,h=>by
  have:=bBs (s:=s) λx hx=>h x (fw _ hx);have ha:=h a cD;unfold lo at this ⊢;rw[List.foldr_cons,this];omega
theorem uJ {s:AH} (hs:Nn s) (i d:Nat):eu s i d=iO s ((i+d:Nat):Int):=by
 unfold eu iO;rw[bBs hs];by_cases h:i+d<s.length
 ·rw [di h,df G];unfold rd lt;rw[bq];omega
 ·rw[df h,di G]
theorem aGt {s:AH} {k:Int} (hs: ∀x∈s,0<=x/\x<k) (hk:0<=k) {i:Int} (h0:0<=i):0<=iO s i/\iO s i<k+1:=by
 unfold iO;split
 ·omega
 ·have:=hs _ (bF (L:=s) h0 G);omega
theorem XQ {s:AH} {k b:Int} (hs: ∀x∈s,0<=x/\x<k) (hk:0<=k) (hb:0<=b): ∀x∈fQ s b,0<=x/\x<k+1:=by
 intro x hx;obtain⟨i,_,rfl⟩:=gz.1 hx;exact aGt hs hk G
theorem aTn (s:AH) (i d:Nat):0<=eu s i d:=by
 rcases gu (i+d) s.length with h|h
 ·exact Dm (rX h)
 ·rw[jA h];exact lq 0
def LtO (U V:Nat->Int):Prop:= ∃k,(∀i,i<k->U i=V i)/\U k<V k
theorem yU {m:Nat} {U V:Nat->Int}:LtH m U V->LtO U V:=λ⟨k,_,h1,h2⟩=>⟨k,h1,h2⟩
theorem aYy {s:AH} {x y:Nat}:LtO (eu s x) (eu s y)↔LtH s.length (eu s x) (eu s y):=by
 refine⟨λ⟨k,h1,h2⟩=>⟨k,?_,h1,h2⟩,yU⟩;have:=aTn s x k;rcases gu (y+k) s.length with h|h
 ·omega
 ·rw[jA h] at h2;omega
theorem nS {s:AH} {x y:Int}:bV s x y↔LtO (eu s x.toNat) (eu s y.toNat):=aYy.symm
theorem aKw {U V:Nat->Int} (h:LtO U V): ¬LtO V U:=by
 rintro⟨k',Xm,h2'⟩;obtain⟨k,h1,h2⟩:=h;rcases xe k k' with a|a|a
 ·have:=Xm k a;omega
 ·subst a;omega
 ·have:=h1 k' a;omega
theorem aKv {U V:Nat->Int} {m:Nat} (e:EqH m U V):LtO (λd=>U (m+d)) (λd=>V (m+d))↔LtO U V:=by
 constructor
 ·rintro ⟨k,h1,h2⟩;refine⟨m+k,λi hi=> ?_,h2⟩;rcases gu i m with a|a
  ·exact e i a
  ·have:=h1 (i-m) G;simp only[show m+(i-m)=i by omega] at this;exact this
 ·rintro ⟨k,h1,h2⟩
  have hk:m<=k:=by
   rcases gu k m with a|a
   ·have:=e k a;omega
   ·exact a
  refine⟨k-m,λi hi=>h1 (m+i) G,?_⟩;simp only[show m+(k-m)=k by omega];exact h2
theorem YG (s:AH) (i m:Nat):(λd=>eu s i (m+d))=eu s (i+m):=funext λd=>(wB s i m d).symm
theorem LD {s:AH} {i j m:Nat} (e:EqH m (eu s i) (eu s j)):LtO (eu s (i+m)) (eu s (j+m))↔LtO (eu s i) (eu s j):=by
 rw[<-YG,<-YG];exact aKv e
theorem uK {s:AH} {m i j:Nat} (hi:i<s.length) (hj:j<s.length) (pe:i≠j) (e:EqH m (eu s i) (eu s j)):j+m<=s.length:=by
 refine Jk.1 λh=> ?_;have e1:=e (s.length-j) G;rw[jA (s:=s) (i:=j) G] at e1;have h1:s.length<=i+(s.length-j):=Jk.1 λhh=>by have:=rX hh;omega
 have e2:=e (s.length-i) G;rw[jA (s:=s) (i:=i) G] at e2;have:=rX (s:=s) (i:=j) (d:=s.length-i) G;omega
def bDg (s:AH) (k:Int):AH:=bW (bW (bW (smp s.length) (fQ s 2) (k+1).toNat) (fQ s 1) (k+1).toNat) (fQ s 0) (k+1).toNat
section
variable {s:AH} {k:Int}
theorem pY {o:AH} {b:Int} (hs: ∀x∈s,0<=x/\x<k) (hk:0<=k) (hb:0<=b) (ho: ∀x∈o,0<=x/\x<s.length):(bW o (fQ s b) (k+1).toNat).Perm o:=
 nR λi hi=>by
  have:=ho i hi;rw[AQ this.1 this.2];have:=aGt hs hk (i:=i+b) G;omega
theorem nI {x:Int} (h:x∈smp s.length):0<=x/\x<s.length:=by rw[lI] at h;omega
theorem bBp (hs: ∀x∈s,0<=x/\x<k) (hk:0<=k):(bW (smp s.length) (fQ s 2) (k+1).toNat).Perm (smp s.length):=pY hs hk G λ_ h=>nI h
theorem bBo (hs: ∀x∈s,0<=x/\x<k) (hk:0<=k):(bW (bW (smp s.length) (fQ s 2) (k+1).toNat) (fQ s 1) (k+1).toNat).Perm (smp s.length):=
 (pY hs hk G λ_ h=>nI ((bBp hs hk).subset h)).trans (bBp hs hk)
theorem bBn (hs: ∀x∈s,0<=x/\x<k) (hk:0<=k):(bDg s k).Perm (smp s.length):=
 (pY hs hk G λ_ h=>nI ((bBo hs hk).subset h)).trans (bBo hs hk)
theorem aAw (hs: ∀x∈s,0<=x/\x<k) (hk:0<=k):(bDg s k).Pairwise λx y=> ¬LtH 3 (eu s y.toNat) (eu s x.toNat):=by
 have h0:(smp s.length).Pairwise λ_ _=>True:=(pX s.length).imp λ_=>trivial;have h3:=gX (keys:=fQ s 0) (gX (keys:=fQ s 1) (gX (keys:=fQ s 2) h0 (k+1).toNat) (k+1).toNat) (k+1).toNat;refine ku (λ{x y} hx hy h=> ?_) h3;have mx:=nI ((bBn hs hk).subset hx);have my:=nI ((bBn hs hk).subset hy);have nn:Nn s:=λx hx=>(hs x hx).1
 have e: ∀ {z:Int} (hz:0<=z/\z<s.length) (b:Nat),rd (fQ s (b:Int)) z=eu s z.toNat b:=λ{z} hz b=>by
  rw[AQ hz.1 hz.2,uJ nn];congr 1;omega
 have ex0:rd (fQ s 0) x=eu s x.toNat 0:=e mx 0;have ex1:rd (fQ s 1) x=eu s x.toNat 1:=e mx 1;have ex2:rd (fQ s 2) x=eu s x.toNat 2:=e mx 2;have ey0:rd (fQ s 0) y=eu s y.toNat 0:=e my 0;have ey1:rd (fQ s 1) y=eu s y.toNat 1:=e my 1;have ey2:rd (fQ s 2) y=eu s y.toNat 2:=e my 2;rw[ex0,ex1,ex2,ey0,ey1,ey2] at h;rintro⟨q,hq,h1,h2⟩
 match q,hq,h1,h2 with
 |0,_,h1,h2=>omega
 |1,_,h1,h2=>have:=h1 0 G;omega
 |2,_,h1,h2=>have:=h1 0 G;have:=h1 1 G;omega
end
structure RkI (s o V:AH) (q n:Int):Prop where
 len:V.length=s.length+3
 n0:0<=n
 nq:n<=q
 bd: ∀p,0<=p->p<q->1<=rd V (rd o p)/\rd V (rd o p)<=n
 last:0<q->rd V (rd o (q-1))=n
 lt: ∀p p',0<=p->p<p'->p'<q->(EqH 3 (eu s (rd o p).toNat) (eu s (rd o p').toNat)/\rd V (rd o p)=rd V (rd o p'))\/(LtH 3 (eu s (rd o p).toNat) (eu s (rd o p').toNat)/\rd V (rd o p)<rd V (rd o p'))
 full:n=q-> ∀p,0<=p->p<q->rd V (rd o p)=p+1
 out: ∀j:Int,0<=j->j<s.length+3->(∀p:Int,0<=p->p<q->rd o p≠j)->rd V j=0
theorem EqH.trans' {m:Nat} {U V W:Nat->Int} (h:EqH m U V) (g:EqH m V W):EqH m U W:=λi hi=>(h i hi).trans (g i hi)
theorem EqH.ltH {m:Nat} {U V W:Nat->Int} (h:EqH m U V) (g:LtH m V W):LtH m U W:=by
 obtain⟨k,hk,a,b⟩:=g;exact⟨k,hk,λi hi=>(h i G).trans (a i hi),by rw[h k hk];exact b⟩
theorem LtH.eqH {m:Nat} {U V W:Nat->Int} (h:LtH m U V) (g:EqH m V W):LtH m U W:=by
 obtain⟨k,hk,a,b⟩:=h;exact⟨k,hk,λi hi=>(a i hi).trans (g i G),by rw[<-g k hk];exact b⟩
section
variable {s o V:AH} {q n:Int}
theorem aPy:RkI s o (List.replicate (s.length+3) 0) 0 0:=
 ⟨cz,G,G,λp h1 h2=>G,λh=>G,λp p' h1 h2 h3=>G,λ_ p h1 h2=>G,λj _ _ _=>tZ⟩
theorem RkI.step (h:RkI s o V q n) (hp:o.Perm (smp s.length)) (q0:0<=q) (hq:q<o.length) {m:Int}
  (hm:(m=n+1/\(q=0\/LtH 3 (eu s (rd o (q-1)).toNat) (eu s (rd o q).toNat)))\/(m=n/\0<q/\EqH 3 (eu s (rd o (q-1)).toNat) (eu s (rd o q).toNat))):
  RkI s o (upd V (rd o q) m) (q+1) m:=by
 have dv: ∀p:Int,0<=p->p<o.length->0<=rd o p/\rd o p<s.length:=λp p0 p1=>nI (hp.subset (bF p0 p1));have hnd:o.Nodup:=hp.symm.nodup (pX _);have hV:=h.len;have iq:=dv q q0 hq;have same:rd (upd V (rd o q) m) (rd o q)=m:=eT iq.1 G
 have other: ∀p,0<=p->p<q->rd (upd V (rd o q) m) (rd o p)=rd V (rd o p):=λp p0 p1=>by
  have ip:=dv p p0 G;exact fE iq.1 ip.1 λe=>by have:=jY hnd q0 hq p0 G e;omega
 have hn0:=h.n0;have hnq:=h.nq;refine⟨by rw[aT];exact hV,G,G,λp p0 p1=> ?_,λ_=>by rw[show q+1-1=q by omega];exact same,λp p' p0 pp p1=> ?_,λe p p0 p1=> ?_,λj j0 j1 hj=> ?_⟩
 ·rcases bu p q with a|a
  ·rw [other p p0 a];have:=h.bd p p0 a;omega
  ·rw [show p=q by omega,same];rcases hm with⟨a,_⟩|⟨a,b,_⟩
   ·omega
   ·have:=h.bd (q-1) G G;have:=h.last b;omega
 ·rcases bu p' q with a|a
  ·rw [other p p0 G,other p' G a];exact h.lt p p' p0 pp a
  ·obtain rfl:p'=q:=G
   rw[other p p0 pp,same];have hl:=h.last G;have hb:=h.bd p p0 pp;rcases bu p (p'-1) with c|c
   ·have h1:=h.lt p (p'-1) p0 c G;rcases hm with⟨rfl,z|g⟩|⟨rfl,_,g⟩
    ·omega
    ·refine .inr ⟨?_,G⟩;rcases h1 with⟨e,_⟩|⟨e,_⟩
     ·exact e.ltH g
     ·exact e.trans g
    ·rcases h1 with⟨e,v⟩|⟨e,v⟩
     ·exact .inl ⟨e.trans' g,G⟩
     ·exact .inr ⟨e.eqH g,G⟩
   ·obtain rfl:p=p'-1:=G
    rcases hm with⟨rfl,z|g⟩|⟨rfl,_,g⟩
    ·omega
    ·exact .inr ⟨g,G⟩
    ·exact .inl ⟨g,hl⟩
 ·rcases hm with⟨a,_⟩|⟨a,_,_⟩
  ·rcases bu p q with c|c
   ·rw [other p p0 c];exact h.full G p p0 c
   ·rw [show p=q by omega,same];omega
  ·omega
 ·rw [fE iq.1 j0 (hj q q0 G)];exact h.out j j0 j1 λp p0 p1=>hj p p0 G
theorem aCy {l:AH} {x:Int} (h:x∈l): ∃p:Int,0<=p/\p<l.length/\rd l p=x:=by
 obtain⟨i,hi,rfl⟩:=ic.1 h;exact⟨i,G,G,iM hi⟩
structure RkF (s V:AH) (n:Int):Prop where
 len:V.length=s.length+3
 bd: ∀i:Nat,i<s.length->i%3≠0->1<=rd V i/\rd V i<=n
 lt: ∀i j:Nat,i<s.length->i%3≠0->j<s.length->j%3≠0->(rd V i<rd V j↔LtH 3 (eu s i) (eu s j))
 eq: ∀i j:Nat,i<s.length->i%3≠0->j<s.length->j%3≠0->(rd V i=rd V j↔EqH 3 (eu s i) (eu s j))
 out: ∀j:Int,0<=j->j<s.length+3->(j%3=0\/s.length<=j)->rd V j=0
theorem RkI.done (h:RkI s o V o.length n) (hp:o.Perm (smp s.length)):RkF s V n:=by
 have at_: ∀i:Nat,i<s.length->i%3≠0-> ∃p:Int,0<=p/\p<o.length/\rd o p=i:=λi h1 h2=>aCy (hp.symm.subset (lI.2 ⟨G,G,G⟩))
 have key: ∀i j:Nat,i<s.length->i%3≠0->j<s.length->j%3≠0->(EqH 3 (eu s i) (eu s j)/\rd V i=rd V j)\/(LtH 3 (eu s i) (eu s j)/\rd V i<rd V j)\/(LtH 3 (eu s j) (eu s i)/\rd V j<rd V i):=by
  intro i j i1 i2 j1 j2;obtain⟨p,p0,p1,ep⟩:=at_ i i1 i2;obtain⟨r,r0,r1,er⟩:=at_ j j1 j2;rcases je p r with a|a|a
  ·have:=h.lt p r p0 a r1;rw[ep,er,bq,bq] at this;exact this.elim .inl λh=> .inr (.inl h)
  ·subst a;have e:(i:Int)=j:=ep.symm.trans er;have e:i=j:=G
   subst e;exact .inl ⟨λ_ _=>rfl,rfl⟩
  ·have:=h.lt r p r0 a p1;rw[ep,er,bq,bq] at this;exact this.elim (λh=> .inl ⟨h.1.symm,h.2.symm⟩) λh=> .inr (.inr h)
 refine⟨h.len,λi i1 i2=> ?_,λi j i1 i2 j1 j2=> ?_,λi j i1 i2 j1 j2=> ?_,λj j0 j1 hj=>h.out j j0 j1 λp p0 p1 e=> ?_⟩
 ·obtain ⟨p,p0,p1,ep⟩:=at_ i i1 i2;have:=h.bd p p0 p1;rwa[ep] at this
 ·rcases key i j i1 i2 j1 j2 with⟨e,v⟩|⟨e,v⟩|⟨e,v⟩
  ·exact⟨λh=>G,λh=>absurd e h.not_eq⟩
  ·exact⟨λ_=>e,λ_=>v⟩
  ·exact⟨λh=>G,λh=>absurd h e.asymm⟩
 ·rcases key i j i1 i2 j1 j2 with⟨e,v⟩|⟨e,v⟩|⟨e,v⟩
  ·exact⟨λ_=>e,λ_=>v⟩
  ·exact⟨λh=>G,λh=>absurd h e.not_eq⟩
  ·exact⟨λh=>G,λh=>absurd h.symm e.not_eq⟩
 ·have:=lI.1 (hp.subset (e▸bF (L:=o) p0 p1));omega
structure RkO (s o V:AH):Prop where
 perm:o.Perm (smp s.length)
 sorted:o.Pairwise (bV s)
 len:V.length=s.length+3
 rk: ∀p:Int,0<=p->p<o.length->rd V (rd o p)=p+1
 out: ∀j:Int,0<=j->j<s.length+3->(j%3=0\/s.length<=j)->rd V j=0
theorem RkI.all (h:RkI s o V o.length n) (hp:o.Perm (smp s.length)) (hn:n=o.length):RkO s o V:=by
 have hf:=h.full hn;refine⟨hp,?_,h.len,hf,(h.done hp).out⟩;refine dz.2 λi j hi hj pe=> ?_;have:=h.lt i j G G G;have e1:=hf i G G;have e2:=hf j G G;rw[iM hi,iM hj] at this;rw[iM hi] at e1;rw[iM hj] at e2;rcases this with⟨_,v⟩|⟨v,_⟩
 ·omega
 ·exact nS.2 (yU v)
def blw (s V:AH):AH:=(plc s.length 1).map (rd V)++[0]++(plc s.length 2).map (rd V)
theorem uN (s V:AH):(blw s V).length=(s.length+1)/3+1+s.length/3:=by
 unfold blw;rw[ai,ai,az,az,jL,jL,ii];omega
def tH (s:AH) (i:Nat):Nat:=if i%3=1 then i/3 else(s.length+1)/3+1+i/3
theorem bAl {t:Int} (h0:0<=t) (h:t<(plc s.length 1).length):rd (blw s V) t=rd V (1+3*t):=by
 unfold blw;rw[jZ h0 (by rw[ai,az];omega),jZ h0 (by rw[az];exact h),vL h0 h,SX h0 h];rfl
theorem bAk:rd (blw s V) (plc s.length 1).length=0:=by
 unfold blw;rw[jZ G (by rw[ai,az,ii];omega),gY (by rw[az];omega),az,Jh];rfl
theorem bAj {t:Int} (h0:0<=t) (h:t<(plc s.length 2).length):rd (blw s V) ((plc s.length 1).length+1+t)=rd V (2+3*t):=by
 unfold blw;have e:(((plc s.length 1).map (rd V)++[0]).length:Int)=(plc s.length 1).length+1:=by rw[ai,az,ii];rfl
 rw[gY (by rw[e];omega),e,show((plc s.length 1).length+1+t:Int)-((plc s.length 1).length+1)=t by omega,vL h0 h,SX h0 h];rfl
theorem RkF.nn (h:RkF s V n): ∀i:Nat,i<s.length->i%3≠0->0<=rd V i:=λi a b=>by have:=h.bd i a b;omega
theorem aVk (h:RkF s V n) (hn:0<=n): ∀x∈blw s V,0<=x/\x<n+1:=by
 intro x hx;unfold blw at hx
 have g: ∀r:Nat,r=1\/r=2->x∈(plc s.length r).map (rd V)->0<=x/\x<n+1:=λr hr hx=>by
  obtain⟨i,hi,rfl⟩:=gz.1 hx;rw[jU G] at hi;have:=h.bd i.toNat G G;rw[show((i.toNat:Nat):Int)=i by omega] at this;omega
 rcases fo.1 hx with hx|hx
 ·rcases fo.1 hx with hx|hx
  ·exact g 1 (.inl rfl) hx
  ·rw[jb.1 hx];omega
 ·exact g 2 (.inr rfl) hx
theorem aVj (h:RkF s V n) (hn:0<=n):Nn (blw s V):=λx hx=>(aVk h hn x hx).1
theorem EM (h:RkF s V n) (hn:0<=n) {i:Nat} (hi:i<s.length) (h3:i%3≠0):eu (blw s V) (tH s i) 0=rd V i+1:=by
 have l1:=jL s.length 1;have l2:=jL s.length 2;rw[uJ (aVj h hn)];unfold iO;rw[uN];unfold tH;by_cases c:i%3=1
 ·rw[di c,df G,qf,bAl G (by rw[l1];omega),show(1+3*((i/3:Nat):Int))=i by omega]
 ·rw[df c,df G,qf,show(((s.length+1)/3+1+i/3:Nat):Int)=(plc s.length 1).length+1+(i/3:Nat) by rw[l1];omega,bAj G (by rw[l2];omega),show(2+3*((i/3:Nat):Int))=i by omega]
theorem aIc (h:RkF s V n) (hn:0<=n) (h3:s.length%3≠0):eu (blw s V) (tH s s.length) 0<=1:=by
 have l1:=jL s.length 1;rw[uJ (aVj h hn)];unfold iO;rw[uN];unfold tH;by_cases c:s.length%3=1
 ·rw [di c,df G,qf,show((s.length/3:Nat):Int)=(plc s.length 1).length by rw[l1];omega,bAk];omega
 ·rw [df c,di G];omega
theorem aVh {i:Nat} (h3:i%3≠0):tH s (i+3)=tH s i+1:=by
 unfold tH;by_cases c:i%3=1
 ·rw[di c,di G];omega
 ·rw[df c,df G];omega
theorem bAm (h:RkF s V n) (hn:0<=n): ∀(k i j:Nat),i%3≠0->j%3≠0->i<=s.length->j<=s.length->i≠j->
  (∀d,d<k->eu (blw s V) (tH s i) d=eu (blw s V) (tH s j) d)->eu (blw s V) (tH s i) k<eu (blw s V) (tH s j) k->LtO (eu s i) (eu s j):=by
 intro k
 induction k with
 | zero=>
  intro i j i3 j3 hi hj pe _ bo;rcases gu j s.length with j1|j1
  ·rcases gu i s.length with i1|i1
   ·rw [EM h hn i1 i3,EM h hn j1 j3] at bo;exact yU ((h.lt i j i1 i3 j1 j3).1 G)
   ·exact⟨0,λi hi=>G,by rw[jA G];exact rX G⟩
  ·have e:j=s.length:=G
   rw[e] at bo j3;have h1:=aIc h hn j3;rw[EM h hn G i3] at bo;have:=h.bd i G i3;omega
 | succ k ih=>
  intro i j i3 j3 hi hj pe o8 bo;have e0:=o8 0 G;rcases gu j s.length with j1|j1
  ·rcases gu i s.length with i1|i1
   ·rw [EM h hn i1 i3,EM h hn j1 j3] at e0;have e:=(h.eq i j i1 i3 j1 j3).1 G;have r1:=uK i1 j1 pe e;have r2:=uK j1 i1 (Ic pe) e.symm
    have sh: ∀ {x d:Nat},x%3≠0->eu (blw s V) (tH s (x+3)) d=eu (blw s V) (tH s x) (d+1):=λ{x d} hx=>by
     rw[aVh hx,wB,ut]
    have:=ih (i+3) (j+3) G G r2 r1 G (λd hd=>by rw[sh i3,sh j3];exact o8 (d+1) G) (by rw[sh i3,sh j3];exact bo);exact(LD e).1 this
   ·exact⟨0,λi hi=>G,by rw[jA G];exact rX G⟩
  ·exfalso;have e:j=s.length:=G
   rw[e] at e0 j3;have h1:=aIc h hn j3;rw[EM h hn G i3] at e0;have:=h.bd i G i3;omega
def bk (s:AH) (t:Int):Int:=if t<(plc s.length 1).length then 1+3*t else 2+3*(t-(plc s.length 1).length-1)
theorem ZV {t:Int} (h0:0<=t) (h:t<(blw s V).length) (cg:t≠(plc s.length 1).length):(0<=bk s t/\bk s t<s.length)/\bk s t%3≠0/\tH s (bk s t).toNat=t.toNat:=by
 have l1:=jL s.length 1;rw[uN] at h;unfold bk;by_cases c:t<(plc s.length 1).length
 ·rw [di c];refine⟨G,G,?_⟩;unfold tH;rw[di G];omega
 ·rw [df c];refine⟨G,G,?_⟩;unfold tH;rw[df G];omega
def ofB (s sb:AH):AH:=(sb.filter λt:Int=>decide (t≠(plc s.length 1).length)).map (bk s)
theorem XE {sb:AH} {t:Int} (h:t=(plc s.length 1).length):ofB s (sb++[t])=ofB s sb:=by
 unfold ofB;rw[sj,kg (by simpa using h)];simp
theorem XF {sb:AH} {t:Int} (h:t≠(plc s.length 1).length):ofB s (sb++[t])=ofB s sb++[bk s t]:=by
 unfold ofB;rw[sj,ni (by simpa using h),jc];rfl
theorem aYm (sb:AH):(ofB s sb).length<=sb.length:=by
 unfold ofB;rw[az];exact xm _ _
variable {sb:AH}
theorem AZ (hb:sb.Perm (iota (blw s V).length)) {t:Int} (ht:t∈sb.filter λt:Int=>decide (t≠(plc s.length 1).length)):(0<=t/\t<(blw s V).length)/\t≠(plc s.length 1).length:=by
 rw[mr] at ht;exact⟨aV.1 (hb.subset ht.1),by simpa using ht.2⟩
theorem aRp (hb:sb.Perm (iota (blw s V).length)):(ofB s sb).Perm (smp s.length):=by
 have hd:(sb.filter λt:Int=>decide (t≠(plc s.length 1).length)).Nodup:=(hb.symm.nodup (fG _)).sublist ui;refine WY ?_ (pX _) λx=>⟨λhx=> ?_,λhx=> ?_⟩
 ·unfold ofB;refine ib.2 (hd.imp_of_mem λ{x y} hx hy cg e=> ?_);obtain⟨⟨x0,x1⟩,xn⟩:=AZ hb hx;obtain⟨⟨y0,y1⟩,yn⟩:=AZ hb hy;have a:=(ZV x0 x1 xn).2.2;have b:=(ZV y0 y1 yn).2.2;rw[e,b] at a;omega
 ·obtain ⟨t,ht,rfl⟩:=gz.1 hx;obtain⟨⟨x0,x1⟩,xn⟩:=AZ hb ht;have:=ZV x0 x1 xn;exact lI.2 ⟨this.1.1,this.1.2,this.2.1⟩
 ·obtain ⟨x0,x1,x3⟩:=lI.1 hx;have l1:=jL s.length 1;refine gz.2 ⟨tH s x.toNat,mr.2 ⟨hb.symm.subset (aV.2 ⟨G,?_⟩),?_⟩,?_⟩
  ·rw [uN];unfold tH;split<;>omega
  ·rw [iv,l1];unfold tH;split<;>omega
  ·unfold bk tH;rw[l1];by_cases c:x.toNat%3=1
   ·rw[di c,di G];omega
   ·rw[df c,df G];omega
theorem aCi (h:RkF s V n) (hn:0<=n) (hb:sb.Perm (iota (blw s V).length)) (hs:sb.Pairwise (bV (blw s V))):(ofB s sb).Pairwise (bV s):=by
 unfold ofB;refine ib.2 ((hs.filter _).imp_of_mem λ{x y} hx hy ho=> ?_);obtain⟨⟨x0,x1⟩,xn⟩:=AZ hb hx;obtain⟨⟨y0,y1⟩,yn⟩:=AZ hb hy;obtain⟨a1,a2,a3⟩:=ZV x0 x1 xn;obtain⟨b1,b2,b3⟩:=ZV y0 y1 yn;rw[nS] at ho ⊢;obtain⟨k,h1,h2⟩:=ho;rw[<-a3,<-b3] at h2;refine bAm h hn k _ _ G G G G ?_ (λd hd=>by rw[a3,b3];exact h1 d hd) h2;intro e;rw[e] at h2;omega
structure RkN (s o V:AH) (q:Int):Prop where
 len:V.length=s.length+3
 rk: ∀p,0<=p->p<q->rd V (rd o p)=p+1
 out: ∀j:Int,0<=j->j<s.length+3->(j%3=0\/s.length<=j)->rd V j=0
theorem RkF.zero (h:RkF s V n) (o:AH):RkN s o V 0:=⟨h.len,λp h1 h2=>G,h.out⟩
theorem RkN.step (h:RkN s o V q) (hp:o.Perm (smp s.length)) (q0:0<=q) (hq:q<o.length):RkN s o (upd V (rd o q) (q+1)) (q+1):=by
 have dv: ∀p:Int,0<=p->p<o.length->rd o p∈smp s.length:=λp p0 p1=>hp.subset (bF p0 p1);have hnd:o.Nodup:=hp.symm.nodup (pX _);have iq:=lI.1 (dv q q0 hq);have hl:=h.len;refine⟨by rw[aT];exact hl,λp p0 p1=> ?_,λj j0 j1 hj=> ?_⟩
 ·rcases bu p q with a|a
  ·have ip:=lI.1 (dv p p0 G);rw[fE iq.1 ip.1 λe=>by have:=jY hnd q0 hq p0 G e;omega];exact h.rk p p0 a
  ·rw[show p=q by omega,eT iq.1 G]
 ·rw [fE iq.1 j0 G];exact h.out j j0 j1 hj
theorem RkN.done (h:RkN s o V o.length) (hp:o.Perm (smp s.length)) (hs:o.Pairwise (bV s)):RkO s o V:=⟨hp,hs,h.len,h.rk,h.out⟩
def aJk (s:AH) (a:Int):Prop:=0<=a/\(a<s.length/\a%3≠0\/a=s.length)
theorem RkO.at_ (h:RkO s o V) {a:Int} (ha:aJk s a) (hl:a<s.length): ∃p:Int,(0<=p/\p<o.length)/\rd o p=a/\rd V a=p+1:=by
 obtain⟨p,p0,p1,e⟩:=aCy (h.perm.symm.subset (lI.2 ⟨ha.1,hl,ha.2.elim (·.2) λh=>G⟩));exact⟨p,⟨p0,p1⟩,e,by rw[<-e];exact h.rk p p0 p1⟩
theorem RkO.end_ (h:RkO s o V):rd V (s.length:Int)=0:=h.out _ G G (.inr G)
theorem RkO.bd (h:RkO s o V) {a:Int} (ha:aJk s a):0<=rd V a/\rd V a<=o.length:=by
 rcases bu a s.length with c|c
 ·obtain ⟨p,hp,_,e⟩:=h.at_ ha c;omega
 ·have e:a=s.length:=ha.2.elim (λh=>G) id;rw[e,h.end_];omega
theorem RkO.cmp (h:RkO s o V) {a b:Int} (ha:aJk s a) (hb:aJk s b) (cg:a≠b):rd V a<rd V b↔LtO (eu s a.toNat) (eu s b.toNat):=by
 rcases bu a s.length with ca|ca
 ·obtain ⟨p,hp,ep,vp⟩:=h.at_ ha ca;rcases bu b s.length with cb|cb
  ·obtain ⟨r,hr,er,vr⟩:=h.at_ hb cb;rw[vp,vr];constructor
   ·intro bo;have:=eG h.sorted hp.1 (show p<r by omega) hr.2;rw[ep,er] at this;exact nS.1 this
   ·intro bo;rcases je p r with c|c|c
    ·omega
    ·subst c;exact absurd (ep.symm.trans er) cg
    ·have:=eG h.sorted hr.1 c hp.2;rw[ep,er] at this;exact absurd bo (aKw (nS.1 this))
  ·have e:b=s.length:=hb.2.elim (λh=>G) id;rw[e,h.end_,vp];refine⟨λh=>G,λ⟨k,_,h2⟩=> ?_⟩;rw[jA (s:=s) (i:=(s.length:Int).toNat) G] at h2;have:=aTn s a.toNat k;omega
 ·have e:a=s.length:=ha.2.elim (λh=>G) id;rw[e,h.end_];have cb:b<s.length:=hb.2.elim (·.1) λh=>G
  obtain⟨r,hr,er,vr⟩:=h.at_ hb cb;rw[vr];refine⟨λ_=>⟨0,λi hi=>G,?_⟩,λ_=>G⟩;rw[jA G];exact rX (by have:=hb.1;omega)
def bhd (s V:AH):AH:=(List.range s.length).map λi:Nat=>rd V ((i:Int)+1)
theorem aIg (s V:AH):(bhd s V).length=s.length:=by simp[bhd]
theorem aBx {i:Int} (h0:0<=i) (h:i<s.length):rd (bhd s V) i=rd V (i+1):=by
 unfold bhd;rw[iF h0 G];congr 1;omega
theorem RkO.all_bd (h:RkO s o V) {j:Int} (j0:0<=j) (hj:j<=s.length):0<=rd V j/\rd V j<=s.length:=by
 have ho:o.length<=s.length:=by rw[h.perm.length_eq,zU];omega
 by_cases c:j%3=0
 ·rw[h.out j j0 G (.inl c)];omega
 ·have:=h.bd (a:=j) ⟨j0,G⟩;omega
theorem aVm (h:RkO s o V): ∀x∈bhd s V,0<=x/\x<(s.length:Int)+1:=by
 intro x hx;obtain⟨i,hi,rfl⟩:=gz.1 hx;have:=jm.1 hi;have:=h.all_bd (j:=(i:Int)+1) G G;omega
def oth (s V:AH) (k:Int):AH:=bW (bW (plc s.length 0) (bhd s V) ((s.length:Int)+1).toNat) (fQ s 0) (k+1).toNat
theorem aRc (h:RkO s o V):(bW (plc s.length 0) (bhd s V) ((s.length:Int)+1).toNat).Perm (plc s.length 0):=
 nR λi hi=>by
  rw[jU G] at hi;have:=aVm h _ (bF (L:=bhd s V) hi.1 (by rw[aIg];exact hi.2.1));omega
theorem KO (h:RkO s o V) {k:Int} (hs: ∀x∈s,0<=x/\x<k) (hk:0<=k):(oth s V k).Perm (plc s.length 0):=
 (pY hs hk G λx hx=>by have:=(aRc h).subset hx;rw[jU G] at this;omega).trans (aRc h)
theorem aCe (h:RkO s o V) {k:Int} (hs: ∀x∈s,0<=x/\x<k) (hk:0<=k):(oth s V k).Pairwise (bV s):=by
 have h3:=gX (keys:=fQ s 0) (gX (keys:=bhd s V) (xJ s.length 0) ((s.length:Int)+1).toNat) (k+1).toNat;refine ku (λ{x y} hx hy g=> ?_) h3;have mx:=(KO h hs hk).subset hx;have my:=(KO h hs hk).subset hy;rw[jU G] at mx my;have nn:Nn s:=λx hx=>(hs x hx).1
 have e: ∀ {z:Int},0<=z->z<s.length->rd (fQ s 0) z=eu s z.toNat 0:=λ{z} h0 h1=>by
  rw[AQ h0 h1,uJ nn];congr 1;omega
 rw[e mx.1 mx.2.1,e my.1 my.2.1,aBx mx.1 mx.2.1,aBx my.1 my.2.1] at g;have sx:aJk s (x+1):=⟨G,G⟩;have sy:aJk s (y+1):=⟨G,G⟩;rw[nS];rcases g with g|⟨g1,g2|⟨g2,g3⟩⟩
 ·exact⟨0,λi hi=>G,g⟩
 ·have:=(h.cmp sx sy λe=>by rw[e] at g2;omega).1 g2;refine(LD (m:=1) λi hi=> ?_).1 ?_
  ·rw[show i=0 by omega];exact g1
  ·rw [show x.toNat+1=(x+1).toNat by omega,show y.toNat+1=(y+1).toNat by omega];exact this
 ·exfalso;have Mz:x≠y:=g3;have t:=h.cmp sx sy G;have t':=h.cmp sy sx G;rcases tri s.length (eu s (x+1).toNat) (eu s (y+1).toNat) with a|a|a
  ·have:=t.2 (yU a);omega
  ·have a0:EqH s.length (eu s x.toNat) (eu s y.toNat):=λi hi=>by
    cases i with
    |zero=>exact g1
    |succ i=>
     have:=a i G;rw[show(x+1).toNat=x.toNat+1 by omega,show(y+1).toNat=y.toNat+1 by omega,wB,wB,ut] at this;exact this
   have:=aDj G G a0;omega
  ·have:=t'.2 (yU a);omega
theorem aSh (nn:Nn s) {i j:Int} (i0:0<=i) (j0:0<=j) {c:Nat} (e:EqH c (eu s i.toNat) (eu s j.toNat)) (cg:iO s (i+c)≠iO s (j+c)):iO s (i+c)<iO s (j+c)↔bV s i j:=by
 have k1:iO s (i+c)=eu s i.toNat c:=by rw[uJ nn];congr 1;omega
 have k2:iO s (j+c)=eu s j.toNat c:=by rw[uJ nn];congr 1;omega
 rw[k1,k2] at cg ⊢;rw[nS];refine⟨λh=>⟨c,e,h⟩,λ⟨k,h1,h2⟩=> ?_⟩;rcases xe k c with a|a|a
 ·have:=e k a;omega
 ·rw[<-a];exact h2
 ·exact absurd (h1 c a) cg
theorem aZd (nn:Nn s) {i j:Int} (i0:0<=i) (j0:0<=j) {c:Nat} (e:EqH c (eu s i.toNat) (eu s j.toNat)) (h:iO s (i+c)=iO s (j+c)):EqH (c+1) (eu s i.toNat) (eu s j.toNat):=λd hd=>by
 rcases gu d c with a|a
 ·exact e d a
 ·have k1:iO s (i+c)=eu s i.toNat c:=by rw[uJ nn];congr 1;omega
  have k2:iO s (j+c)=eu s j.toNat c:=by rw[uJ nn];congr 1;omega
  rw[show d=c by omega,<-k1,<-k2,h]
theorem aKz (h:RkO s o V) {i j:Int} (hi:0<=i/\i<s.length) (hj:0<=j/\j<s.length) (pe:i≠j) {c:Nat} (e:EqH c (eu s i.toNat) (eu s j.toNat)) (i3:(i+c)%3≠0) (j3:(j+c)%3≠0):
  (i+c<=s.length/\j+c<=s.length)/\(rd V (i+c)<rd V (j+c)↔bV s i j):=by
 have r1:=uK (s:=s) (i:=i.toNat) (j:=j.toNat) G G G e;have r2:=uK (s:=s) (i:=j.toNat) (j:=i.toNat) G G G e.symm;refine⟨G,?_⟩;rw[h.cmp ⟨G,G⟩ ⟨G,G⟩ G,nS,<-LD e,show(i+c).toNat=i.toNat+c by omega,show(j+c).toNat=j.toNat+c by omega]
structure MgI (s o t acc:AH) (a q:Int):Prop where
 perm:acc.Perm (o.take a.toNat++t.take q.toNat)
 sorted:acc.Pairwise (bV s)
 ahead: ∀x∈acc,∀y,y∈o.drop a.toNat\/y∈t.drop q.toNat->bV s x y
variable {t acc:AH} {a:Int}
theorem aRw:MgI s o t [] 0 0:=⟨.refl _, .nil,λx hx=>by cases hx⟩
theorem MgI.len (h:MgI s o t acc a q) (a0:0<=a) (ha:a<=o.length) (q0:0<=q) (hq:q<=t.length):(acc.length:Int)=a+q:=by
 rw[h.perm.length_eq,ai,ax,ax];omega
theorem aFl {r:Int->Int->Prop} {l:AH} {x:Int} (h:l.Pairwise r) (hx: ∀y∈l,r y x):(l++[x]).Pairwise r:=by
 rw[ow];exact⟨h,rz _ _,λy hy z hz=>by rw[jb.1 hz];exact hx y hy⟩
theorem MgI.left (h:MgI s o t acc a q) (ho:o.Pairwise (bV s)) (ht:t.Pairwise (bV s)) (a0:0<=a) (ha:a<o.length) (q0:0<=q) (hq:q<t.length) (hl:bV s (rd o a) (rd t q)):MgI s o t (acc++[rd o a]) (a+1) q:=by
 have eo:=gM (s:=o) a0 ha;have et:=gM (s:=t) q0 hq;refine⟨?_,aFl h.sorted λy hy=>h.ahead y hy _ (.inl (by rw[eo];simp)),λx hx y hy=> ?_⟩
 ·rw [dF a0 ha];refine(h.perm.append_right _).trans ?_;rw[ek,ek];exact xk _ rf
 ·rcases fo.1 hx with hx|hx
  ·exact h.ahead x hx y (hy.imp_left λhy=>by rw[eo];exact fw _ hy)
  ·rw [jb.1 hx];have so:(o.drop a.toNat).Pairwise (bV s):=ho.sublist (yj _ _);have st:(t.drop q.toNat).Pairwise (bV s):=ht.sublist (yj _ _);rw[eo,il] at so;rw[et,il] at st;rcases hy with hy|hy
   ·exact so.1 y hy
   ·rw [et] at hy;rcases iw.1 hy with rfl|hy
    ·exact hl
    ·exact KS _ _ _ hl (st.1 y hy)
theorem MgI.right (h:MgI s o t acc a q) (ho:o.Pairwise (bV s)) (ht:t.Pairwise (bV s)) (a0:0<=a) (q0:0<=q) (hq:q<t.length) (hl:a<o.length->bV s (rd t q) (rd o a)):MgI s o t (acc++[rd t q]) a (q+1):=by
 have et:=gM (s:=t) q0 hq;refine⟨?_,aFl h.sorted λy hy=>h.ahead y hy _ (.inr (by rw[et];simp)),λx hx y hy=> ?_⟩
 ·rw [dF q0 hq,<-ek];exact h.perm.append_right _
 ·rcases fo.1 hx with hx|hx
  ·exact h.ahead x hx y (hy.imp_right λhy=>by rw[et];exact fw _ hy)
  ·rw [jb.1 hx];have st:(t.drop q.toNat).Pairwise (bV s):=ht.sublist (yj _ _);rw[et,il] at st;rcases hy with hy|hy
   ·rcases bu a o.length with c|c
    ·have eo:=gM (s:=o) a0 c;have so:(o.drop a.toNat).Pairwise (bV s):=ho.sublist (yj _ _);rw[eo,il] at so;rw[eo] at hy;rcases iw.1 hy with rfl|hy
     ·exact hl c
     ·exact KS _ _ _ (hl c) (so.1 y hy)
    ·rw [qm G] at hy;cases hy
   ·exact st.1 y hy
theorem MgI.done (h:MgI s o t acc a q) (ho:o.Pairwise (bV s)) (hq:(t.length:Int)<=q) (hp:o.Perm (smp s.length)) (tp:t.Perm (plc s.length 0)):(acc++o.drop a.toNat).Perm (iota s.length)/\(acc++o.drop a.toNat).Pairwise (bV s):=by
 refine⟨?_,?_⟩
 ·have h1:=h.perm;rw[bi (l:=t) G] at h1;refine((h1.append_right _).trans ?_).trans (((hp.append_right _).trans (tp.append_left _)).trans (aXa _));refine(rf.append_right _).trans ?_;rw[ek,ik];exact rf
 ·rw [ow];exact⟨h.sorted,ho.sublist (yj _ _),λx hx y hy=>h.ahead x hx y (.inl hy)⟩
end
def thr (s:AH) (m:Int):AH:=(List.range (m+1).toNat).map λc:Nat=>if (c:Int)∈s then 1 else 0
theorem jT (s:AH) (m:Int):(thr s m).length=(m+1).toNat:=by simp[thr]
theorem JV {s:AH} {m c:Int} (h0:0<=c) (h:c<=m):rd (thr s m) c=if c∈s then 1 else 0:=by
 unfold thr;rw[iF h0 G,show((c.toNat:Nat):Int)=c by omega]
theorem aWr (m:Int):thr [] m=List.replicate (m+1).toNat 0:=by
 refine bE (by rw[jT,cz]) λj h0 h1=> ?_;rw[jT] at h1;rw[JV h0 G,tZ];rfl
theorem aOs {s:AH} {m x:Int} (h0:0<=x) (h:x<=m):upd (thr s m) x 1=thr (s++[x]) m:=by
 refine bE (by rw[aT,jT,jT]) λj j0 j1=> ?_;rw[aT,jT] at j1;rw[gG h0 j0 (by rw[jT];omega),JV j0 G,JV j0 G];by_cases e:j=x
 ·rw[di e,di (by rw[e];simp)]
 ·rw [df e];by_cases c:j∈s
  ·rw[di c,di (Fu _ c)]
  ·rw[df c,df (by rw[fo,jb];exact λh=>h.elim c e)]
theorem aOt (s:AH) (m:Int): ∀x∈thr s m,0<=x:=by
 intro x hx;obtain⟨c,_,rfl⟩:=gz.1 hx;split<;>omega
theorem aQt {s:AH} {m:Int}: ∀x:Nat,(x:Int)<=m+1->ps (thr s m) x=((List.range x).filter λc:Nat=>decide ((c:Int)∈s)).length
 |0,_=>rfl
 | x+1,h=>by
  rw[show((x+1:Nat):Int)=(x:Int)+1 by omega,mP G (by rw[jT];omega),aQt x G,JV G G,zk,sj,ai];by_cases c:(x:Int)∈s
  ·rw [di c,ni (by simpa using c)];simp
  ·rw [df c,kg (by simpa using c)];simp
theorem aYc {L:AH} (h: ∀x∈L,0<=x) {a b:Int} (h0:0<=a) (vt:a<=b) (hb:b<=L.length):ps L a<=ps L b:=by
 obtain⟨d,rfl⟩: ∃d:Nat,b=a+d:=⟨(b-a).toNat,G⟩
 induction d with
 |zero=>simp
 |succ d ih=>
  have:=ih G G;rw[show a+((d+1:Nat):Int)=a+(d:Int)+1 by omega,mP G G];have:=h _ (bF (L:=L) (k:=a+d) G G);omega
theorem aFj {s:AH} {m x y:Int} (hx:x∈s) (x0:0<=x) (Mz:x<y) (hy:y<=m):ps (thr s m) x<ps (thr s m) y:=by
 have h1:=mP (L:=thr s m) (k:=x) x0 (by rw[jT];omega);rw[JV x0 G,di hx] at h1;have h2:=aYc (aOt s m) (a:=x+1) (b:=y) G G (by rw[jT];omega);omega
theorem bGq {s:AH} {m x:Int} (hx:x∈s) (x0:0<=x) (hm:x<=m):0<=ps (thr s m) x/\ps (thr s m) x<s.length:=by
 have e:ps (thr s m) x=((List.range x.toNat).filter λc:Nat=>decide ((c:Int)∈s)).length:=by
  have:=aQt (s:=s) (m:=m) x.toNat G;rwa[show((x.toNat:Nat):Int)=x by omega] at this
 rw[e];have hl:=nY (l:=(((List.range x.toNat).filter λc:Nat=>decide ((c:Int)∈s)).map λc:Nat=>(c:Int))++[x]) (m:=s) ?_ ?_
 ·rw [ai,az,ii] at hl;omega
 ·refine xc.2 ⟨ib.2 ((vz.sublist ui).imp λ{x y} h hh=>h G),rz _ _,λa ha b hb e=> ?_⟩;obtain⟨c,hc,rfl⟩:=gz.1 ha;have:=jm.1 (mr.1 hc).1;rw[jb] at hb;omega
 ·intro z hz;rcases fo.1 hz with hz|hz
  ·obtain ⟨c,hc,rfl⟩:=gz.1 hz;simpa using (mr.1 hc).2
  ·rw[jb.1 hz];exact hx
def sqz (s:AH) (m:Int):AH:=s.map λx=>ps (thr s m) x
theorem GU (s:AH) (m:Int):(sqz s m).length=s.length:=by simp[sqz]
theorem bDj {s:AH} {m:Int} (hs: ∀x∈s,0<=x/\x<=m): ∀x∈sqz s m,0<=x/\x<s.length:=by
 intro y hy;obtain⟨x,hx,rfl⟩:=gz.1 hy;exact bGq hx (hs x hx).1 (hs x hx).2
theorem ML {P:Int->Prop} {f:Int->Int} (hf: ∀x y:Int,P x->P y->(x<y↔f x<f y)): ∀a b:AH,(∀x∈a,P x)->(∀x∈b,P x)->cmpL (a.map f) (b.map f)=cmpL a b
 |[],[],_,_=>rfl
 |[],b::v,_,_=>rfl
 |a::u,[],_,_=>rfl
 |a::u,b::v,ha,hb=>by
  have pa:=ha a cD;have pb:=hb b cD;simp only[jq,cmpL,<-hf a b pa pb,<-hf b a pb pa];rw[ML hf u v (λx hx=>ha x (fw _ hx)) λx hx=>hb x (fw _ hx)]
theorem aWw {s:AH} {m:Int} (hs: ∀x∈s,0<=x/\x<=m) {x y:Int}:bV (sqz s m) x y↔bV s x y:=by
 rw[<-iU,<-iU];unfold sqz;rw[<-Ip,<-Ip,ML (P:=λx=>x∈s) (λx y hx hy=>⟨λh=>aFj hx (hs x hx).1 h (hs y hy).2,λh=> ?_⟩) _ _ (λx hx=>ng hx) λx hx=>ng hx];refine Int.not_le.1 λc=> ?_;rcases bu y x with d|d
 ·have:=aFj hy (hs y hy).1 d (hs x hx).2;omega
 ·rw [show x=y by omega] at h;omega
theorem aJf {s b:AH} {m:Int} (hs: ∀x∈s,0<=x/\x<=m) (hp:b.Perm (iota (sqz s m).length)) (ho:b.Pairwise (bV (sqz s m))):b.Perm (iota s.length)/\b.Pairwise (bV s):=by
 rw[GU] at hp;exact⟨hp,ho.imp λh=>(aWw hs).1 h⟩
def bDf (s:AH) (k:Int):Nat->AH
 |0=>smp s.length
 |j+1=>bW (bDf s k j) (fQ s (2-(j:Int))) (k+1).toNat
theorem DD {s:AH} {k:Int} (hs: ∀x∈s,0<=x/\x<k) (hk:0<=k): ∀j:Nat,j<=3->(bDf s k j).Perm (smp s.length)
 |0,_=> .refl _
 |j+1,h=>(pY hs hk G λx hx=>nI ((DD hs hk j G).subset hx)).trans (DD hs hk j G)
def NY (s:AH) (i j:Int):Prop:=iO s (i+0)=iO s (j+0)/\iO s (i+1)=iO s (j+1)/\iO s (i+2)=iO s (j+2)
instance (s:AH) (i j:Int):Decidable (NY s i j):=by unfold NY;exact inferInstance
theorem aAc {s:AH} (nn:Nn s) {i j:Int} (i0:0<=i) (j0:0<=j):NY s i j↔EqH 3 (eu s i.toNat) (eu s j.toNat):=by
 have e: ∀(z:Int) (b:Nat),0<=z->iO s (z+b)=eu s z.toNat b:=λz b hz=>by rw[uJ nn];congr 1;omega
 have a0:iO s (i+0)=eu s i.toNat 0:=e i 0 i0;have a1:iO s (i+1)=eu s i.toNat 1:=e i 1 i0;have a2:iO s (i+2)=eu s i.toNat 2:=e i 2 i0;have b0:iO s (j+0)=eu s j.toNat 0:=e j 0 j0;have b1:iO s (j+1)=eu s j.toNat 1:=e j 1 j0;have b2:iO s (j+2)=eu s j.toNat 2:=e j 2 j0;unfold NY;rw[a0,a1,a2,b0,b1,b2];constructor
 ·rintro ⟨h0,h1,h2⟩ d hd
  match d,hd with
  |0,_=>exact h0
  |1,_=>exact h1
  |2,_=>exact h2
 ·intro h;exact⟨h 0 G,h 1 G,h 2 G⟩
theorem bAu {s:AH} {i j:Int} (h: ∀c:Int,0<=c->c<3->iO s (i+c)=iO s (j+c)):NY s i j:=⟨h 0 G G,h 1 G G,h 2 G G⟩
theorem aVx {s:AH} {i j c:Int} (c0:0<=c) (c3:c<3) (h:iO s (i+c)≠iO s (j+c)): ¬NY s i j:=by
 rintro⟨h0,h1,h2⟩;rcases(by omega:c=0\/c=1\/c=2) with rfl|rfl|rfl
 ·exact h h0
 ·exact h h1
 ·exact h h2
section
variable {s o V:AH} {q n:Int}
theorem bEi (nn:Nn s) (hp:o.Perm (smp s.length)) (hs:o.Pairwise λx y=> ¬LtH 3 (eu s y.toNat) (eu s x.toNat)) (q0:0<=q) (hq:q<o.length) (h:q=0\/ ¬NY s (rd o (q-1)) (rd o q)):
  q=0\/LtH 3 (eu s (rd o (q-1)).toNat) (eu s (rd o q).toNat):=by
 rcases bu 0 q with c|c
 ·rcases h with h|h
  ·exact .inl h
  ·have dv: ∀p:Int,0<=p->p<o.length->0<=rd o p:=λp a b=>(nI (hp.subset (bF a b))).1;rw[aAc nn (dv (q-1) G G) (dv q q0 hq)] at h;have g:=eG hs (i:=q-1) (j:=q) G G hq;rcases tri 3 (eu s (rd o (q-1)).toNat) (eu s (rd o q).toNat) with a|a|a
   ·exact .inr a
   ·exact absurd a h
   ·exact absurd a g
 ·exact .inl G
theorem bEf (nn:Nn s) (hp:o.Perm (smp s.length)) (q0:0<=q) (hq:q<o.length) (h: ¬(q=0\/ ¬NY s (rd o (q-1)) (rd o q))):0<q/\EqH 3 (eu s (rd o (q-1)).toNat) (eu s (rd o q).toNat):=by
 have c:0<q:=G
 have dv: ∀p:Int,0<=p->p<o.length->0<=rd o p:=λp a b=>(nI (hp.subset (bF a b))).1;refine⟨c,(aAc nn (dv (q-1) G G) (dv q q0 hq)).1 (yh.1 λg=>h (.inr g))⟩
theorem RkI.short (h:RkI s o V o.length n) (hp:o.Perm (smp s.length)) (h2:2<=s.length) (h3:s.length<=3):n=o.length:=by
 have hl:o.length=(s.length+1)/3+s.length/3:=by rw[hp.length_eq,zU]
 have dv: ∀p:Int,0<=p->p<o.length->(0<=rd o p/\rd o p<s.length/\rd o p%3≠0):=λp a b=>lI.1 (hp.subset (bF a b));have hnq:=h.nq;have b0:=h.bd 0 G G;rcases(by omega:o.length=1\/o.length=2) with e|e
 ·omega
 ·have b1:=h.bd 1 G G;have i0:=dv 0 G G;have i1:=dv 1 G G;rcases h.lt 0 1 G G G with⟨a,_⟩|⟨_,a⟩
  ·exfalso;have cg:rd o 0≠rd o 1:=λg=>by have:=jY (hp.symm.nodup (pX _)) (i:=0) (j:=1) G G G G g;omega
   have:=uK (s:=s) (i:=(rd o 0).toNat) (j:=(rd o 1).toNat) G G G a;omega
  ·omega
theorem bFl {t:Int} (h0:0<=t) (h:t<(plc s.length 1).length):rd (plc s.length 1) t=bk s t:=by
 unfold bk;rw[di h,SX h0 h];rfl
theorem bFk {t:Int} (h:(plc s.length 1).length<t) (ht:t-1<(smp s.length).length):rd (smp s.length) (t-1)=bk s t:=by
 unfold bk;rw[df G];unfold smp at ht ⊢;rw[ai] at ht;rw[gY G,SX G G];omega
theorem aKh (h:s.length<2):plc s.length 0=iota s.length:=by
 rcases(by omega:s.length=0\/s.length=1) with e|e<;>rw[e]<;>rfl
theorem bDu (h:s.length<2):(iota s.length).Pairwise (bV s):=by
 rcases(by omega:s.length=0\/s.length=1) with e|e
 ·rw[e];exact .nil
 ·rw[e];exact rz _ _
theorem bFo {W:AH} (hl:W.length=s.length) (h: ∀j:Int,0<=j->j<s.length->rd W j=rd V (j+1)):W=bhd s V:=
 bE (hl.trans (aIg s V).symm) λj h0 h1=>by rw[aBx h0 G];exact h j h0 G
theorem aSp {W:AH} {b:Int} (hl:W.length=s.length) (h: ∀j:Int,0<=j->j<s.length->rd W j=iO s (j+b)):W=fQ s b:=
 bE (hl.trans (DZ s b).symm) λj h0 h1=>by rw[AQ h0 G];exact h j h0 G
end
theorem JB: ∀ {L:AH},(∀x∈L,x<=1)->L.sum<=L.length
 |[],_=>cD
 |a::L,h=>by
  have:=JB (L:=L) λx hx=>h x (fw _ hx);have:=h a cD;rw[ug,dm];omega
theorem aWq (s:AH) (m:Int):(thr s m).sum<=(m+1).toNat:=by
 rw[<-jT s m];refine JB λx hx=> ?_;obtain⟨c,_,rfl⟩:=gz.1 hx;split<;>omega
theorem bDi {s W:AH} {m:Int} (hs: ∀x∈s,0<=x/\x<=m) (hl:W.length=s.length) (h: ∀j:Int,0<=j->j<s.length->rd W j=rd (cK (thr s m)) (rd s j)):W=sqz s m:=
 bE (hl.trans (GU s m).symm) λj h0 h1=>by
  have hm:=hs _ (bF (L:=s) h0 G);unfold sqz;rw[vL h0 G,h j h0 G,nN hm.1 (by rw[jT];omega)]
def ED (s:AH) (i j:Nat) (d:Nat):Prop:=(i+d<s.length/\j+d<s.length)/\lt s (i+d)=lt s (j+d)
instance (s:AH) (i j d:Nat):Decidable (ED s i j d):=by unfold ED;exact inferInstance
def ZH (s:AH):Nat->Nat->Nat->Nat
 |0,_,_=>0
 |f+1,i,j=>if ED s i j 0 then ZH s f (i+1) (j+1)+1 else 0
def com (s:AH) (i j:Int):Nat:=ZH s s.length i.toNat j.toNat
theorem YJ {s:AH} {i j m d:Nat}:ED s (i+m) (j+m) d↔ED s i j (m+d):=by
 unfold ED;rw[qi,qi]
theorem ZG {s:AH}: ∀(f i j:Nat),∀d,d<ZH s f i j->ED s i j d
 |0,i,j,d,h=>by simp[ZH] at h
 | f+1,i,j,d,h=>by
  unfold ZH at h;split at h
  ·rename_i c;cases d with
   |zero=>exact c
   |succ d=>
    have:=ZG (s:=s) f (i+1) (j+1) d G;rwa[YJ,ut] at this
  ·omega
theorem ZF {s:AH}: ∀(f i j:Nat),s.length<=i+f-> ¬ED s i j (ZH s f i j)
 |0,i,j,h=>by
  unfold ZH ED;omega
 | f+1,i,j,h=>by
  unfold ZH;by_cases c:ED s i j 0
  ·rw [di c];have:=ZF (s:=s) f (i+1) (j+1) G;rwa[YJ,ut] at this
  ·rw[df c];exact c
theorem aHy {s:AH} {i j:Int}: ∀d,d<com s i j->ED s i.toNat j.toNat d:=ZG _ _ _
theorem bAd {s:AH} {i j:Int}: ¬ED s i.toNat j.toNat (com s i j):=ZF _ _ _ G
theorem bFe {s:AH} {i j:Int} {n:Nat}:n<=com s i j↔ ∀d,d<n->ED s i.toNat j.toNat d:=by
 refine⟨λh d hd=>aHy d G,λh=>Jk.1 λc=> ?_⟩;exact bAd (h _ c)
theorem bFf {s:AH} {i j:Int} (i0:0<=i) (hi:i<=s.length) (j0:0<=j) (hj:j<=s.length):i+com s i j<=s.length/\j+com s i j<=s.length:=by
 rcases fe (com s i j) with z|z
 ·omega
 ·have:=(aHy (s:=s) (i:=i) (j:=j) (com s i j-1) G).1;omega
theorem aHx {s:AH} {i j:Int} {n:Nat} (hi:0<=i/\i<s.length) (hj:0<=j/\j<s.length) (pe:i≠j):n<=com s i j↔EqH n (eu s i.toNat) (eu s j.toNat):=by
 rw[bFe];constructor
 ·intro h d hd;obtain⟨⟨a,b⟩,c⟩:=h d hd;unfold eu;rw[di a,di b,c]
 ·intro h d hd;have r1:=uK (s:=s) (i:=i.toNat) (j:=j.toNat) G G G h;have r2:=uK (s:=s) (i:=j.toNat) (j:=i.toNat) G G G h.symm;refine⟨⟨G,G⟩,?_⟩;have:=h d hd;unfold eu at this;rw[di G,di G] at this;omega
theorem eq_between {n:Nat} {U V W:Nat->Int} (e:EqH n U W) (h1: ¬LtO V U) (h2: ¬LtO W V):EqH n U V:=by
 rcases tri n U V with a|a|a
 ·exact absurd (yU (e.symm.ltH a)) h2
 ·exact a
 ·exact absurd (yU a) h1
structure uO (s a R:AH):Prop where
 perm:a.Perm (iota s.length)
 sorted:a.Pairwise (bV s)
 len:R.length=s.length
 inv: ∀r:Int,0<=r->r<s.length->rd R (rd a r)=r
section
variable {s a R:AH}
theorem uO.alen (h:uO s a R):a.length=s.length:=by rw[h.perm.length_eq,bC]
theorem uO.ain (h:uO s a R) {r:Int} (r0:0<=r) (hr:r<s.length):0<=rd a r/\rd a r<s.length:=aV.1 (h.perm.subset (bF r0 (by rw[h.alen];exact hr)))
theorem uO.at_ (h:uO s a R) {i:Int} (i0:0<=i) (hi:i<s.length):(0<=rd R i/\rd R i<s.length)/\rd a (rd R i)=i:=by
 obtain⟨p,p0,p1,e⟩:=aCy (h.perm.symm.subset (aV.2 ⟨i0,hi⟩));rw[h.alen] at p1;have:=h.inv p p0 p1;rw[e] at this;rw[this];exact⟨⟨p0,p1⟩,e⟩
theorem uO.ord (h:uO s a R) {p q:Int} (p0:0<=p) (hpq:p<q) (hq:q<s.length):bV s (rd a p) (rd a q):=eG h.sorted p0 hpq (by rw[h.alen];exact hq)
theorem uO.rank (h:uO s a R) {i j:Int} (hi:0<=i/\i<s.length) (hj:0<=j/\j<s.length):rd R i<rd R j↔bV s i j:=by
 obtain⟨a1,a2⟩:=h.at_ hi.1 hi.2;obtain⟨b1,b2⟩:=h.at_ hj.1 hj.2;constructor
 ·intro c;have:=h.ord a1.1 c b1.2;rwa[a2,b2] at this
 ·intro c;rcases je (rd R i) (rd R j) with d|d|d
  ·exact d
  ·rw [d,b2] at a2;rw[a2] at c;exact absurd c (fU _ _ c)
  ·have:=h.ord b1.1 d a1.2;rw[a2,b2] at this;exact absurd c (fU _ _ this)
theorem aCt (h:uO s a R) {i:Int} (i0:0<=i) (hi:i+1<s.length) (h1:0<rd R i) (h2:0<rd R (i+1)):
  com s i (rd a (rd R i-1))-1<=com s (i+1) (rd a (rd R (i+1)-1)):=by
 rcases gu 1 (com s i (rd a (rd R i-1))) with c|c
 ·obtain ⟨ra,rb⟩:=h.at_ i0 G;obtain⟨sa,sb⟩:=h.at_ (i:=i+1) G hi;generalize hj:rd a (rd R i-1)=j at c ⊢;generalize hp:rd a (rd R (i+1)-1)=p;have jin:=h.ain (r:=rd R i-1) G G;have pin:=h.ain (r:=rd R (i+1)-1) G G;rw[hj] at jin;rw[hp] at pin;have Vp:=h.ord (p:=rd R i-1) (q:=rd R i) G G ra.2;rw[hj,rb] at Vp;have Vq:=h.ord (p:=rd R (i+1)-1) (q:=rd R (i+1)) G G sa.2;rw[hp,sb] at Vq;have o9:j≠i:=λe=>by rw[e] at Vp;exact fU _ _ Vp Vp
  have Rj:p≠i+1:=λe=>by rw[e] at Vq;exact fU _ _ Vq Vq
  have bj:=bFf (s:=s) (i:=i) (j:=j) G G G G;have Pn:j+1<s.length:=G
  have e:=(aHx (n:=com s i j) ⟨i0,G⟩ jin (Ic o9)).1 (dn _);have e1:EqH 1 (eu s j.toNat) (eu s i.toNat):=(e.mono G).symm
  have o1:LtO (eu s (j+1).toNat) (eu s (i+1).toNat):=by
   rw[show(j+1).toNat=j.toNat+1 by omega,show(i+1).toNat=i.toNat+1 by omega,LD e1];exact nS.1 Vp
  have r1:=(h.rank (i:=j+1) (j:=i+1) ⟨G,Pn⟩ ⟨G,hi⟩).2 (nS.2 o1);obtain⟨ta,tb⟩:=h.at_ (i:=j+1) G Pn
  have e2:EqH (com s i j-1) (eu s (i+1).toNat) (eu s (j+1).toNat):=λd hd=>by
   have:=e (d+1) G;rw[show(j+1).toNat=j.toNat+1 by omega,show(i+1).toNat=i.toNat+1 by omega,wB,wB,ut 1 d];exact this
  refine(aHx ⟨G,hi⟩ pin (Ic Rj)).2 ?_
  have mw:j+1=p\/bV s (j+1) p:=by
   rcases bu (rd R (j+1)) (rd R (i+1)-1) with d|d
   ·have:=h.ord ta.1 d G;rw[tb,hp] at this;exact .inr this
   ·refine .inl ?_;rw[<-tb,<-hp];congr 1;omega
  rcases mw with rfl|mw
  ·exact e2
  ·refine e2.trans' (eq_between e2.symm (λg=> ?_) λg=> ?_)
   ·exact fU _ _ mw (nS.2 g)
   ·exact fU _ _ Vq (nS.2 g)
 ·omega
def aLd (s a:AH):AH:=(List.range a.length).map λr:Nat=>if r=0 then 0 else(com s (rd a r) (rd a ((r:Int)-1)):Int)
theorem aSj (s a:AH):(aLd s a).length=a.length:=by simp[aLd]
theorem aFy {r:Int} (h0:0<=r) (h:r<a.length):rd (aLd s a) r=if r=0 then 0 else(com s (rd a r) (rd a (r-1)):Int):=by
 unfold aLd;rw[iF h0 G,show((r.toNat:Nat):Int)=r by omega];by_cases c:r=0
 ·rw[di c,di G]
 ·rw[df c,df G]
structure aAg (s a R V:AH) (i n:Int):Prop where
 len:V.length=s.length
 n0:0<=n
 nl:i<s.length->0<rd R i->n.toNat<=com s i (rd a (rd R i-1))
 val: ∀p:Int,0<=p->p<i->rd V (rd R p)=rd (aLd s a) (rd R p)
 zero:0<s.length->rd V 0=0
variable {V:AH} {i n:Int}
theorem aAg.skip (k:aAg s a R V i n) (h:uO s a R) (i0:0<=i) (hi:i<s.length) (hr:rd R i=0):aAg s a R V (i+1) 0:=by
 refine⟨k.len,G,λ_ _=>qh _,λp p0 p1=> ?_,k.zero⟩;rcases bu p i with c|c
 ·exact k.val p p0 c
 ·rw [show p=i by omega,hr,aFy G (by rw[h.alen];omega),di rfl];exact k.zero G
theorem aAg.put (k:aAg s a R V i n) (h:uO s a R) (i0:0<=i) (hi:i<s.length) (hr:rd R i≠0) {m:Int} (hm:m=com s i (rd a (rd R i-1))):aAg s a R (upd V (rd R i) m) (i+1) (max (m-1) 0):=by
 obtain⟨ra,rb⟩:=h.at_ i0 hi;have hl:=k.len;refine⟨by rw[aT];exact hl,G,λh1 h2=> ?_,λp p0 p1=> ?_,λhs=> ?_⟩
 ·have:=aCt h i0 h1 G h2;omega
 ·obtain ⟨pa,pb⟩:=h.at_ p0 (show p<s.length by omega);rcases bu p i with c|c
  ·rw [fE ra.1 pa.1 λe=>by rw[<-e,rb] at pb;omega];exact k.val p p0 c
  ·rw[show p=i by omega,eT ra.1 G,aFy ra.1 (by rw[h.alen];exact ra.2),df hr,rb,hm]
 ·rw [fE ra.1 G hr];exact k.zero hs
theorem aAg.done (k:aAg s a R V s.length n) (h:uO s a R):V=aLd s a:=by
 refine bE (by rw[k.len,aSj,h.alen]) λj j0 j1=> ?_;rw[k.len] at j1;have e:=k.val (rd a j) (h.ain j0 j1).1 (h.ain j0 j1).2;rwa[h.inv j j0 j1] at e
def KG (s a R:AH):AH:=(List.range s.length).map λi:Nat=>if rd R i=0 then 0 else(com s i (rd a (rd R i-1)):Int)
theorem aKg:(KG s a R).length=s.length:=by simp[KG]
theorem aQn (h0:0<=i) (h:i<s.length):rd (KG s a R) i=if rd R i=0 then 0 else(com s i (rd a (rd R i-1)):Int):=by
 unfold KG;rw[iF h0 G,show((i.toNat:Nat):Int)=i by omega]
theorem uO.next (h:uO s a R) {r:Int} (r0:1<=r) (hr:r<s.length):rd s (rd a (r-1))<rd s (rd a r)\/rd s (rd a (r-1))=rd s (rd a r)/\
  ((rd a (r-1)+1=s.length/\rd a r+1<s.length)\/(rd a (r-1)+1<s.length/\rd a r+1<s.length/\rd R (rd a (r-1)+1)<rd R (rd a r+1))):=by
 have o:=h.ord (p:=r-1) (q:=r) G G hr;have x:=h.ain (r:=r-1) G G;have y:=h.ain (r:=r) G hr;generalize rd a (r-1)=p at o x ⊢;generalize rd a r=q at o y ⊢;rw[nS] at o
 have e0: ∀z:Int,0<=z->z<s.length->eu s z.toNat 0=rd s z-lo s+1:=λz z0 z1=>by
  unfold eu;rw[di G];rfl
 obtain⟨k,h1,h2⟩:=o;cases k with
 |zero=>rw[e0 p x.1 x.2,e0 q y.1 y.2] at h2;exact .inl G
 | succ k=>
  have e:=h1 0 G;rw[e0 p x.1 x.2,e0 q y.1 y.2] at e;refine .inr ⟨G,?_⟩
  have hq:q+1<s.length:=by
   rcases gu (q.toNat+(k+1)) s.length with c|c
   ·omega
   ·rw [jA c] at h2;have:=aTn s p.toNat (k+1);omega
  rcases bu (p+1) s.length with c|c
  ·refine .inr ⟨c,hq,(h.rank ⟨G,c⟩ ⟨G,hq⟩).2 (nS.2 ?_)⟩;rw[show(p+1).toNat=p.toNat+1 by omega,show(q+1).toNat=q.toNat+1 by omega,LD (λd hd=>by rw[show d=0 by omega];exact h1 0 G)];exact⟨k+1,h1,h2⟩
  ·exact .inl ⟨G,hq⟩
end
structure UQ (a V:AH) (B:List Bool) (q:Int):Prop where
 len:V.length=a.length
 blen:B.length=a.length
 val: ∀p:Int,0<=p->p<q->rd V (rd a p)=p
 seen: ∀x:Int,0<=x->x<a.length->(rdb B x=true↔ ∃p:Int,0<=p/\p<q/\rd a p=x)
theorem UQ.fresh {a V:AH} {B:List Bool} {q:Int} (h:UQ a V B q) (hp:a.Perm (iota a.length)) (q0:0<=q) (hq:q<a.length):(0<=rd a q/\rd a q<a.length)/\ ¬rdb B (rd a q)=true:=by
 have dv:=aV.1 (hp.subset (bF q0 hq));refine⟨dv,λhs=> ?_⟩;obtain⟨p,p0,p1,e⟩:=(h.seen _ dv.1 dv.2).1 hs;have:=jY (hp.symm.nodup (fG _)) p0 G q0 hq e;omega
theorem UQ.step {a V:AH} {B:List Bool} {q:Int} (h:UQ a V B q) (hp:a.Perm (iota a.length)) (q0:0<=q) (hq:q<a.length):UQ a (upd V (rd a q) q) (qH B (rd a q) true) (q+1):=by
 obtain⟨⟨x0,x1⟩,_⟩:=h.fresh hp q0 hq;have hl:=h.len;have hb:=h.blen;have hnd:=hp.symm.nodup (fG a.length);refine⟨by rw[aT];exact hl,by rw[kZ];exact hb,λp p0 p1=> ?_,λx h0 h1=> ?_⟩
 ·rcases bu p q with c|c
  ·have dv:=aV.1 (hp.subset (bF (L:=a) p0 G));rw[fE x0 dv.1 λe=>by have:=jY hnd q0 hq p0 G e;omega];exact h.val p p0 c
  ·rw[show p=q by omega,eT x0 G]
 ·rw [xH x0 G h0];by_cases c:x=rd a q
  ·rw [di c];exact⟨λ_=>⟨q,q0,G,c.symm⟩,λ_=>rfl⟩
  ·rw [df c,h.seen x h0 h1];exact⟨λ⟨p,p0,p1,e⟩=>⟨p,p0,G,e⟩,λ⟨p,p0,p1,e⟩=>⟨p,p0,(bu p q).elim id λd=>absurd (by rw[<-e,show p=q by omega]) c,e⟩⟩
theorem UQ.done {s a V:AH} {B:List Bool} (h:UQ a V B a.length) (hp:a.Perm (iota s.length)) (hs:a.Pairwise (bV s)):uO s a V:=by
 have hl:a.length=s.length:=by rw[hp.length_eq,bC]
 exact⟨hp,hs,by rw[h.len,hl],λr r0 hr=>h.val r r0 G⟩
def bFv (a V:AH):Prop:=V.length=a.length/\ ∀r:Int,0<=r->r<a.length->rd V (rd a r)=r
theorem UQ.all {a V:AH} {B:List Bool} (h:UQ a V B a.length):bFv a V:=⟨h.len,h.val⟩
theorem bFv.ord {s a V:AH} (h:bFv a V) (hp:a.Perm (iota s.length)) (hs:a.Pairwise (bV s)):uO s a V:=by
 have hl:a.length=s.length:=by rw[hp.length_eq,bC]
 exact⟨hp,hs,by rw[h.1,hl],λr r0 hr=>h.2 r r0 G⟩
section
variable {s a R:AH}
structure AhI (a V:AH) (q l:Int):Prop where
 len:V.length=a.length
 last:l=if q=0 then -1 else rd a (q-1)
 val: ∀p:Int,0<=p->p<q->rd V (rd a p)=if p=0 then -1 else rd a (p-1)
def AhF (a V:AH):Prop:=V.length=a.length/\ ∀p:Int,0<=p->p<a.length->rd V (rd a p)=if p=0 then -1 else rd a (p-1)
variable {V:AH} {q l:Int}
theorem AhI.step (h:AhI a V q l) (hp:a.Perm (iota a.length)) (q0:0<=q) (hq:q<a.length):AhI a (upd V (rd a q) l) (q+1) (rd a q):=by
 have dv:=aV.1 (hp.subset (bF q0 hq));have hnd:=hp.symm.nodup (fG a.length);have hl:=h.len;refine⟨by rw[aT];exact hl,by rw[df G,show q+1-1=q by omega],λp p0 p1=> ?_⟩;rcases bu p q with c|c
 ·have ip:=aV.1 (hp.subset (bF (L:=a) p0 G));rw[fE dv.1 ip.1 λe=>by have:=jY hnd q0 hq p0 G e;omega];exact h.val p p0 c
 ·rw [show p=q by omega,eT dv.1 G];exact h.last
theorem AhI.done (h:AhI a V a.length l):AhF a V:=⟨h.len,h.val⟩
theorem AhF.at_ (h:AhF a V) (o:uO s a R) {i:Int} (h0:0<=i) (hi:i<s.length):rd V i=if rd R i=0 then -1 else rd a (rd R i-1):=by
 obtain⟨x,y⟩:=o.at_ h0 hi;have:=h.2 (rd R i) x.1 (by rw[o.alen];exact x.2);rwa[y] at this
structure PlI (s a R V:AH) (i n:Int):Prop where
 len:V.length=s.length
 n0:0<=n
 nl:i<s.length->0<rd R i->(n-1).toNat<=com s i (rd a (rd R i-1))
 val: ∀p:Int,0<=p->p<i->rd V p=rd (KG s a R) p
variable {i n:Int}
theorem PlI.put (k:PlI s a R V i n) (i0:0<=i) (hi:i<s.length) {m:Int} (hm:m=rd (KG s a R) i) (h0:0<=m) (hn:i+1<s.length->0<rd R (i+1)->(m-1).toNat<=com s (i+1) (rd a (rd R (i+1)-1))):PlI s a R (upd V i m) (i+1) m:=by
 have hl:=k.len;refine⟨by rw[aT];exact hl,h0,hn,λp p0 p1=> ?_⟩;rcases bu p i with c|c
 ·rw [fE i0 p0 G];exact k.val p p0 c
 ·rw [show p=i by omega,eT i0 G];exact hm
theorem PlI.zero (k:PlI s a R V i n) (i0:0<=i) (hi:i<s.length) (hr:rd R i=0):PlI s a R (upd V i 0) (i+1) 0:=
 k.put i0 hi (by rw[aQn i0 hi,di hr]) G λ_ _=>qh _
theorem PlI.done (k:PlI s a R V s.length n):V=KG s a R:=
 bE (by rw[k.len,aKg]) λj j0 j1=>k.val j j0 (by have:=k.len;omega)
end
variable {l b:AH} {k c i:Int}
def mtf (l:AH) (k:Int):AH:=rd l k::(l.take k.toNat++l.drop (k.toNat+1))
def idx (l:AH) (c:Int):Int:=(l.findIdx (λx=>x==c):Nat)
def bS (l:AH):AH->AH
 |[]=>[]
 |c::b=>idx l c::bS (mtf l (idx l c)) b
def zW (l:AH):AH->AH
 |[]=>l
 |c::b=>zW (mtf l (idx l c)) b
def oK (l:AH):AH->AH
 |[]=>[]
 |k::b=>rd l k::oK (mtf l k) b
def FV (l:AH):AH->AH
 |[]=>l
 |k::b=>FV (mtf l k) b
theorem PI (c:Int): ∀(b l:AH),zW l (b++[c])=mtf (zW l b) (idx (zW l b) c)
 |[],l=>rfl
 |x::b,l=>by simp only[ja,zW,PI c b]
theorem PE (k:Int): ∀(b l:AH),FV l (b++[k])=mtf (FV l b) k
 |[],l=>rfl
 |x::b,l=>by simp only[ja,FV,PE k b]
theorem kQ: ∀(b l:AH),(bS l b).length=b.length
 |[],_=>rfl
 |x::b,l=>by simp only[bS,dm,kQ b]
theorem DC: ∀(b l:AH),(oK l b).length=b.length
 |[],_=>rfl
 |x::b,l=>by simp only[oK,dm,DC b]
theorem BG (h0:0<=k) (h:k<l.length):(mtf l k).Perm l:=by
 have e:=gM (s:=l) h0 h;rw[show(k+1).toNat=k.toNat+1 by omega] at e;unfold mtf
 conv=>rhs;rw[<-ik k.toNat l,e]
 exact List.perm_middle.symm
theorem yX (h:c∈l):0<=idx l c/\idx l c<l.length:=by
 unfold idx;have:=List.findIdx_lt_length_of_exists (xs:=l) (p:=λx=>x==c) ⟨c,h,cD⟩;omega
theorem aQp (h:c∈l):rd l (idx l c)=c:=by
 have hi:=yX h;have bo:l.findIdx (λx=>x==c)<l.length:=by unfold idx at hi;omega
 have:=Fq (xs:=l) (p:=λx=>x==c) (w:=bo);unfold idx;rw[iM bo];simpa using this
theorem PK: ∀(b l:AH),(∀c∈b,c∈l)->(zW l b).Perm l
 |[],l,_=> .refl _
 |c::b,l,h=>by
  have hc:=yX (h c cD);have hp:=BG hc.1 hc.2;exact(PK b _ λx hx=>hp.symm.subset (h x (fw _ hx))).trans hp
theorem PH: ∀(b l:AH),(∀k∈b,0<=k/\k<l.length)->(FV l b).Perm l
 |[],l,_=> .refl _
 |k::b,l,h=>by
  have hk:=h k cD;have hp:=BG hk.1 hk.2;exact(PH b _ λx hx=>by rw[hp.length_eq];exact h x (fw _ hx)).trans hp
theorem XJ: ∀(b l:AH),(∀c∈b,c∈l)-> ∀k∈bS l b,0<=k/\k<l.length
 |[],l,_=>λk hk=>by cases hk
 | c::b,l,h=>by
  have hc:=yX (h c cD);have hp:=BG hc.1 hc.2;intro k hk;rcases iw.1 hk with rfl|hk
  ·exact hc
  ·have:=XJ b _ (λx hx=>hp.symm.subset (h x (fw _ hx))) k hk;rwa[hp.length_eq] at this
theorem OI: ∀(b l:AH),(∀c∈b,c∈l)->oK l (bS l b)=b
 |[],_,_=>rfl
 |c::b,l,h=>by
  have hc:=yX (h c cD);have hp:=BG hc.1 hc.2;simp only[bS,oK];rw[aQp (h c cD),OI b _ λx hx=>hp.symm.subset (h x (fw _ hx))]
def bD:AH:=iota 256
theorem yP:bD.length=256:=bC _
theorem yO {b:AH} (h:aL b): ∀c∈b,c∈bD:=λc hc=>by
 have:=h c hc;exact aV.2 G
theorem qP (h:aL b):aL (bS bD b):=λk hk=>by
 have:=XJ b _ (yO h) k hk;rw[yP] at this;omega
theorem tX (h:aL b):oK bD (bS bD b)=b:=OI b _ (yO h)
theorem PV: ∀(x y l:AH),bS l (x++y)=bS l x++bS (zW l x) y
 |[],_,_=>rfl
 |c::x,y,l=>by simp only[ja,bS,zW,PV x y]
theorem OJ: ∀(x y l:AH),oK l (x++y)=oK l x++oK (FV l x) y
 |[],_,_=>rfl
 |c::x,y,l=>by simp only[ja,oK,FV,OJ x y]
theorem aQo (h0:0<=i) (h:i<b.length):rd (bS l b) i=idx (zW l (b.take i.toNat)) (rd b i):=by
 have e:b=b.take i.toNat++(rd b i::b.drop (i+1).toNat):=by rw[<-gM h0 h,ik]
 have hl:((bS l (b.take i.toNat)).length:Int)=i:=by rw[kQ,ax];omega
 conv=>lhs;rw[e,PV]
 rw[gY G,hl,Jh];rfl
theorem aQm (h0:0<=i) (h:i<b.length):rd (oK l b) i=rd (FV l (b.take i.toNat)) (rd b i):=by
 have e:b=b.take i.toNat++(rd b i::b.drop (i+1).toNat):=by rw[<-gM h0 h,ik]
 have hl:((oK l (b.take i.toNat)).length:Int)=i:=by rw[DC,ax];omega
 conv=>lhs;rw[e,OJ]
 rw[gY G,hl,Jh];rfl
theorem aJy (h0:0<=i) (h:i<b.length):zW l (b.take (i+1).toNat)=mtf (zW l (b.take i.toNat)) (idx (zW l (b.take i.toNat)) (rd b i)):=by
 rw[dF h0 h,PI]
theorem aJx (h0:0<=i) (h:i<b.length):FV l (b.take (i+1).toNat)=mtf (FV l (b.take i.toNat)) (rd b i):=by
 rw[dF h0 h,PE]
theorem bEk (h0:0<=k) (h:k<l.length):upd (l.take 1++(l.take k.toNat).take (min k.toNat (l.length-1))++l.drop (1+min k.toNat (l.length-1))) 0 (rd l k)=mtf l k:=by
 have e:min k.toNat (l.length-1)=k.toNat:=G
 rw[e,List.take_take,Nat.min_self,ut 1];unfold mtf upd;cases l with
 |nil=>simp at h;omega
 |cons x l=>simp
theorem aPn (hb:aL b) (k:Nat):(zW bD (b.take k)).Perm bD:=PK _ _ λc hc=>yO hb c (ll hc)
theorem aPm (hb:aL b) (k:Nat):(FV bD (b.take k)).Perm bD:=PH _ _ λc hc=>by
 have:=hb c (ll hc);rw[yP];omega
theorem PD {V:AH} (h:V.Perm bD):V.length=256/\aL V/\ ∀c:Int,0<=c->c<256->c∈V/\0<=idx V c/\idx V c<256:=by
 have hl:V.length=256:=by rw[h.length_eq,yP]
 refine⟨hl,λx hx=>by have:=aV.1 (h.subset hx);omega,λc c0 c1=> ?_⟩;have hm:c∈V:=h.symm.subset (aV.2 ⟨c0,c1⟩);have:=yX hm;exact⟨hm,this.1,G⟩
def EU:Nat->Nat->AH
 |0,_=>[]
 |f+1,n=>if n=0 then [] else(((n-1)%2:Nat):Int)::EU f ((n-1)/2)
def iZ (n:Nat):AH:=EU n n
theorem VL: ∀(f g n:Nat),n<=f->n<=g->EU f n=EU g n
 |0,0,n,_,_=>rfl
 |0,g+1,n,h,_=>by
  have:n=0:=G
  simp[EU,this]
 |f+1,0,n,_,h=>by
  have:n=0:=G
  simp[EU,this]
 |f+1,g+1,n,h1,h2=>by
  simp only[EU];by_cases z:n=0
  ·rw[di z,di z]
  ·rw[df z,df z,VL f g _ G G]
theorem OM:iZ 0=[]:=rfl
theorem zO {n:Nat} (h:0<n):iZ n=(((n-1)%2:Nat):Int)::iZ ((n-1)/2):=by
 obtain⟨m,rfl⟩: ∃m,n=m+1:=⟨n-1,G⟩;unfold iZ;rw[EU,df G];congr 1;exact VL _ _ _ G (dn _)
theorem SF: ∀(m n:Nat),n<=m-> ∀x∈iZ n,0<=x/\x<=1
 |0,n,h=>by
  have:n=0:=G
  subst this;intro x hx;cases hx
 | m+1,n,h=>by
  rcases fe n with z|z
  ·subst z;intro x hx;cases hx
  ·rw [zO z];intro x hx;rcases iw.1 hx with rfl|hx
   ·omega
   ·exact SF m _ G x hx
theorem zP: ∀(m n:Nat),n<=m->(iZ n).length<=n
 |0,n,h=>by
  have:n=0:=G
  subst this;exact dn _
 | m+1,n,h=>by
  rcases fe n with z|z
  ·subst z;exact dn _
  ·rw [zO z,dm];have:=zP m ((n-1)/2) G;omega
def cB:Nat->AH->AH
 |n,[]=>iZ n
 |n,c::b=>if c=0 then cB (n+1) b else iZ n++((c+1)::cB 0 b)
theorem qI: ∀(b:AH) (n:Nat),(cB n b).length<=n+b.length
 |[],n=>by
  have:=zP n n (dn _);simp only[cB,jg];omega
 | c::b,n=>by
  simp only[cB];split
  ·have:=qI b (n+1);simp only[dm];omega
  ·have:=qI b 0;have:=zP n n (dn _);rw[ai,dm,dm];omega
theorem GN: ∀(b:AH) (n:Nat),aL b-> ∀x∈cB n b,0<=x/\x<=256
 |[],n,_=>λx hx=>by have:=SF n n (dn _) x hx;omega
 | c::b,n,h=>by
  have hc:=h c cD;have hb:aL b:=λx hx=>h x (fw _ hx);intro x hx;simp only[cB] at hx;split at hx
  ·exact GN b _ hb x hx
  ·rcases fo.1 hx with hx|hx
   ·have:=SF n n (dn _) x hx;omega
   ·rcases iw.1 hx with rfl|hx
    ·omega
    ·exact GN b _ hb x hx
def bkL (dt:Int):AH->AH->Int->Option (AH)
 |[],out,_=>some out
 |x::l,out,p=>if x<0\/257<=x then none else
  if 2<=x then(if dt<out.length+1 then none else bkL dt l (out++[x-1]) 1)
  else if dt<p\/dt-out.length<(x+1)*p then none else bkL dt l (out++List.replicate ((x+1)*p).toNat 0) (p*2)
theorem UD (dt:Int) (t:AH): ∀(m n:Nat),n<=m-> ∀(out:AH) (p:Nat),0<p->(out.length:Int)+n*p<=dt->
  ∃p':Nat,0<p'/\bkL dt (iZ n++t) out p=bkL dt t (out++List.replicate (n*p) 0) p'
 |0,n,h=>by
  intro out p hp _;have:n=0:=G
  subst this;exact⟨p,hp,by simp[OM]⟩
 | m+1,n,h=>by
  intro out p hp hm;rcases fe n with z|z
  ·subst z;exact⟨p,hp,by simp[OM]⟩
  ·rw [zO z,ja];have hd:n=((n-1)%2+1)+2*((n-1)/2):=G
   generalize ha:(n-1)%2=a at hd;generalize hb:(n-1)/2=b at hd;have ha1:a<=1:=G
   have hnp:n*p=(a+1)*p+b*(p*2):=by rw[hd,yg,zt 2 b,Nat.mul_assoc,zt 2 p]
   have hnp2:(n:Int)*p=((n*p:Nat):Int):=cD
   have h1:(((a:Nat):Int)+1)*p=(((a+1)*p:Nat):Int):=cD
   have wd:p<=(a+1)*p:=Dw _ G
   obtain⟨p',cv,e⟩:=UD dt t m b G (out++List.replicate ((a+1)*p) 0) (p*2) G (by
    rw[ai,cz];have:(b:Int)*((p*2:Nat):Int)=((b*(p*2):Nat):Int):=cD
    rw[this]
    omega)
   refine⟨p',cv,?_⟩;rw[bkL,df G,df G,df (by rw[h1];omega),h1,bq];have e2:((p:Nat):Int)*2=((p*2:Nat):Int):=cD
   rw[e2,e,ek,Em,<-hnp]
theorem UE (dt:Int): ∀(b:AH) (n:Nat) (out:AH),aL b->(out.length:Int)+n+b.length<=dt->bkL dt (cB n b) out 1=some (out++List.replicate n 0++b)
 |[],n,out,_,h=>by
  obtain⟨p',cv,e⟩:=UD dt [] n n (dn _) out 1 G (by simp only[jg] at h;omega);rw[ji,qg] at e;simp only[cB];have e1:((1:Nat):Int)=1:=rfl;rw[e1] at e;rw[e];simp[bkL]
 | c::b,n,out,hb,h=>by
  have hc:=hb c cD;have j7:aL b:=λx hx=>hb x (fw _ hx);simp only[dm] at h;simp only[cB];split
  ·rename_i z;rw[UE dt b (n+1) out j7 G,z,Fw];simp
  ·rename_i z;obtain⟨p',cv,e⟩:=UD dt ((c+1)::cB 0 b) n n (dn _) out 1 G G;have e1:((1:Nat):Int)=1:=rfl;rw[qg,e1] at e;rw[e,bkL,df G,di G,df (by rw[ai,cz];omega),UE dt b 0 _ j7 (by rw[ai,ai,cz,ii];omega)];rw[show c+1-1=c by omega];simp
theorem bFm {dt:Int} (hb:aL b) (h:b.length<=dt):bkL dt (cB 0 b) [] 1=some b:=by
 have:=UE dt b 0 [] hb (by simpa using h);simpa using this
variable {l V b C U:AH} {i v x x0 s t:Int}
def beL:Nat->Int->AH
 |0,_=>[]
 |k+1,N=>beL k (N/256)++[N%256]
theorem lL: ∀(k:Nat) (N:Int),(beL k N).length=k
 |0,_=>rfl
 |k+1,N=>by rw[beL,ai,lL k,ii]
theorem EN: ∀(k:Nat) (N:Int),aL (beL k N)
 |0,_=>λx h=>by cases h
 |k+1,N=>λx h=>by
  rw[beL] at h;rcases fo.1 h with h|h
  ·exact EN k _ x h
  ·rw[jb.1 h];omega
def aVy:AH->Int->AH
 |[],_=>[]
 |d::l,x=>(x+d)%256::aVy l ((x+d)/256)
def GD (l:AH) (x:Int):AH:=(aVy l.reverse x).reverse
theorem RI (l:AH) (d x:Int):GD (l++[d]) x=GD l ((x+d)/256)++[(x+d)%256]:=by
 unfold GD;rw[List.reverse_append,List.reverse_singleton,ny,aVy,List.reverse_cons]
theorem RJ: ∀l:AH,aL l->aVy l 0=l
 |[],_=>rfl
 |d::l,h=>by
  have hd:=h d cD;rw[aVy,Int.zero_add,qj hd.1 hd.2,Int.ediv_eq_zero_of_lt hd.1 hd.2,RJ l λx hx=>h x (fw _ hx)]
theorem aNs (h:aL l):GD l 0=l:=by
 unfold GD;rw[RJ _ λx hx=>h x (xw.1 hx),Fx]
theorem UI: ∀(k:Nat) (N x:Int),GD (beL k N) x=beL k (N+x)
 |0,_,_=>rfl
 |k+1,N,x=>by
  rw[beL,RI,UI k,beL,show N/256+(x+N%256)/256=(N+x)/256 by omega,show(x+N%256)%256=(N+x)%256 by omega]
theorem aIv (i0:0<=i) (hi:i<V.length):upd V i v=V.take i.toNat++v::V.drop (i+1).toNat:=by
 unfold upd;rw[Dk,di G,show(i+1).toNat=i.toNat+1 by omega]
def aEu (b:AH) (x0:Int) (V:AH) (i x:Int):Prop:=V.length=b.length/\aL V/\GD (V.take (i+1).toNat) x++V.drop (i+1).toNat=GD b x0
theorem aNt (hb:aL b) (hi:i=b.length-1):aEu b x b i x:=by
 refine⟨rfl,hb,?_⟩;rw[bi G,zb G,ji]
theorem aEu.step {d y:Int} (h:aEu b x0 V i x) (i0:0<=i) (hi:i<b.length) (hd:d=(x+rd V i)%256) (hy:y=(x+rd V i)/256):aEu b x0 (upd V i d) (i-1) y:=by
 obtain⟨hl,hV,ha⟩:=h;have hs:=aIv (V:=V) (v:=d) i0 G
 have h1:(upd V i d).take i.toNat=V.take i.toNat:=by
  unfold upd;rw[List.take_set_of_le (dn _)]
 have h2:(upd V i d).drop i.toNat=d::V.drop (i+1).toNat:=by
  rw[hs,List.drop_append_of_le_length (by rw[ax];omega),zb (by rw[ax];omega),ig]
 refine⟨by rw[aT];exact hl,λc hc=> ?_,?_⟩
 ·rw [hs] at hc;rcases fo.1 hc with hc|hc
  ·exact hV c (ll hc)
  ·rcases iw.1 hc with rfl|hc
   ·omega
   ·exact hV c (ng hc)
 ·rw [Int.sub_add_cancel,h1,h2,<-ha,dF i0 G,RI,hd,hy,ek];rfl
theorem aEu.stop (h:aEu b x0 V i x) (hx:x=0\/i<0):V=GD b x0:=by
 obtain⟨hl,hV,ha⟩:=h;rw[<-ha];rcases hx with rfl|hx
 ·rw[aNs (λc hc=>hV c (ll hc)),ik]
 ·rw [show(i+1).toNat=0 by omega];rfl
theorem bAq: ∀(k:Nat) (N:Int),beL (k+4) N=beL k (N/4294967296)++[N%4294967296/16777216,N%16777216/65536,N%65536/256,N%256]:=λk N=>by
 rw[beL,beL,beL,beL,ek,ek,ek];rw[show N/256/256/256/256=N/4294967296 by omega,show N/256/256/256%256=N%4294967296/16777216 by omega,show N/256/256%256=N%16777216/65536 by omega,show N/256%256=N%65536/256 by omega];rfl
theorem SV {k:Int} (h0:0<=i) (h:i<k):rd (l.take k.toNat) i=rd l i:=by
 unfold rd;rw[af,af,qw G]
def aR (l:AH):Int:=l.sum
theorem sH (x:Int) (l:AH):aR (x::l)=x+aR l:=ug
theorem EY (x y:AH):aR (x++y)=aR x+aR y:=Cn
theorem aJe (l:AH) (x:Int):aR (l++[x])=aR l+x:=by rw[EY];simp[aR]
theorem sF (h0:0<=i) (h:i<l.length):aR (l.take (i+1).toNat)=aR (l.take i.toNat)+rd l i:=by rw[dF h0 h,aJe]
theorem aWu {l:AH} (h: ∀c∈l,1<=c):(l.length:Int)<=aR l:=by
 induction l with
 |nil=>simp[aR]
 |cons x l ih=>
  have:=ih λc hc=>h c (fw _ hc);have:=h x cD;rw[sH,dm];omega
theorem vD {l:AH} (h: ∀c∈l,1<=c):0<=aR l:=by have:=aWu h;omega
theorem yN (h0:0<=i) (h:i<l.length):aR l=aR (l.take i.toNat)+rd l i+aR (l.drop (i+1).toNat):=by
 conv=>lhs;rw[<-ik i.toNat l,gM h0 h]
 rw[EY,sH];omega
theorem aOy {l:AH} (h: ∀c∈l,1<=c) (k:Nat): ∀c∈l.take k,1<=c:=λc hc=>h c (ll hc)
theorem aUl {l:AH} (h: ∀c∈l,1<=c) (k:Nat): ∀c∈l.drop k,1<=c:=λc hc=>h c (ng hc)
theorem sG {l:AH} (hp: ∀c∈l,1<=c) (h0:0<=i) (h:i<l.length):0<=aR (l.take i.toNat)/\1<=rd l i/\aR (l.take i.toNat)+rd l i<=aR l:=by
 have h1:=yN h0 h;have h2:=vD (aUl hp (i+1).toNat);have h3:=vD (aOy hp i.toNat);have h4:=hp _ (bF h0 h);omega
theorem VS (h0:0<=i) (h:i<l.length):aR (upd l i v)=aR l-rd l i+v:=by
 have e1:=yN (l:=upd l i v) h0 (by rw[aT];exact h);have e2:=yN h0 h;rw[eT h0 h] at e1
 have e3:(upd l i v).take i.toNat=l.take i.toNat:=by
  unfold upd;rw[List.take_set_of_le (dn _)]
 have e4:(upd l i v).drop (i+1).toNat=l.drop (i+1).toNat:=by
  unfold upd;rw[List.drop_set_of_lt G]
 rw[e3,e4] at e1;omega
theorem OV {l:AH} (h: ∀c∈l,1<=c):2*aR (l.map λn=>(n+1)/2)<=aR l+l.length:=by
 induction l with
 |nil=>simp[aR]
 |cons x l ih=>
  have:=ih λc hc=>h c (fw _ hc);rw[jq,sH,sH,dm];omega
def mH (C:AH):Prop:=C.length=258/\(∀c∈C,1<=c)/\aR C<=65504
def yS:AH:=List.replicate 258 1
theorem JC (n:Nat) (x:Int):aR (List.replicate n x)=n*x:=by
 induction n with
 |zero=>simp[aR]
 |succ n ih=>rw[List.replicate_succ,sH,ih];rw[Int.natCast_succ,Ke];omega
theorem TD:mH yS:=⟨cz,λc hc=>by rw[Ce hc];omega,by unfold yS;rw[JC];omega⟩
def pF (C:AH):AH:=C.map λn=>(n+1)/2
def mI (C:AH) (s:Int):AH:=if 65504<aR (upd C s (rd C s+32)) then pF (upd C s (rd C s+32)) else upd C s (rd C s+32)
theorem aFe {C:AH} {s v:Int} (h: ∀c∈C,1<=c) (hv:1<=v): ∀c∈upd C s v,1<=c:=λc hc=>by
 unfold upd at hc;rcases List.mem_or_eq_of_mem_set hc with h1|h1
 ·exact h c h1
 ·omega
theorem aXd (h:mH C) (h0:0<=s) (hs:s<258):mH (mI C s):=by
 obtain⟨hl,hp,ht⟩:=h;have h1:=hp _ (bF (L:=C) (k:=s) h0 G);have hu:=VS (l:=C) (i:=s) (v:=rd C s+32) h0 G;have hq:=aFe (C:=C) (s:=s) (v:=rd C s+32) hp G;unfold mI;split
 ·refine ⟨by unfold pF;rw[az,aT];exact hl,λc hc=> ?_,?_⟩
  ·obtain ⟨x,hx,rfl⟩:=gz.1 hc;have:=hq x hx;omega
  ·have:=OV hq;rw[aT,hl] at this;unfold pF;omega
 ·exact⟨by rw[aT];exact hl,hq,G⟩
theorem aQq (h0:0<=i) (h:i<C.length):rd (pF C) i=(rd C i+1)/2:=by
 unfold pF;rw[fB h0 (by rw[az];exact h),fB h0 h,xu]
theorem DL {n:Nat} (h0:0<=i) (h:i<n):rd (List.replicate n x) i=x:=by
 rw[fB h0 (by rw[cz];exact h),List.getElem_replicate]
theorem bEl (hl:V.length=258) (h: ∀j:Int,0<=j->j<258->rd V j=1):V=yS:=
 bE (by rw[hl];exact cz.symm) λj j0 j1=>by
  unfold yS;rw[h j j0 G,DL j0 G]
def RP (C:AH):Prop:=C.length=258/\(∀c∈C,1<=c)/\aR C<=65536
theorem mH.le (h:mH C):RP C:=⟨h.1,h.2.1,by have:=h.2.2;omega⟩
theorem RP.part (h:RP C) (h0:0<=i) (hi:i<258):(0<=aR (C.take i.toNat)/\aR (C.take i.toNat)<=65536)/\(1<=rd C i/\rd C i<=65536)/\aR (C.take i.toNat)+rd C i<=65536:=by
 have:=sG (i:=i) h.2.1 h0 (by rw[h.1];omega);have:=h.2.2;omega
theorem mH.up (h:mH C) (h0:0<=s) (hs:s<258):RP (upd C s (rd C s+32))/\aR (upd C s (rd C s+32))=aR C+32:=by
 have hp:=h.le.part h0 hs;have hu:=VS (l:=C) (i:=s) (v:=rd C s+32) h0 (by rw[h.1];omega);have:=h.2.2;exact⟨⟨by rw[aT];exact h.1,aFe h.2.1 G,G⟩,G⟩
theorem RP.half (h:RP C):mH (pF C):=by
 have:=OV h.2.1;rw[h.1] at this;have hl:=h.2.2;refine⟨by unfold pF;rw[az];exact h.1,λc hc=> ?_,by unfold pF;omega⟩;obtain⟨x,hx,rfl⟩:=gz.1 hc;have:=h.2.1 x hx;omega
structure NH (U V:AH) (i:Int) (t:Int):Prop where
 len:V.length=258
 done: ∀j:Int,0<=j->j<i->rd V j=rd (pF U) j
 left: ∀j:Int,i<=j->j<258->rd V j=rd U j
 sum:t=aR ((pF U).take i.toNat)
theorem aDa (h:U.length=258):NH U U 0 0:=⟨h,λj h1 h2=>G,λj _ _=>rfl,rfl⟩
theorem NH.step (h:NH U V i t) (hU:U.length=258) (h0:0<=i) (hi:i<258):NH U (upd V i ((rd V i+1)/2)) (i+1) (t+rd (upd V i ((rd V i+1)/2)) i):=by
 have hl:=h.len;have e:(rd V i+1)/2=rd (pF U) i:=by rw[h.left i G hi,aQq h0 G]
 refine⟨by rw[aT];exact hl,λj j0 j1=> ?_,λj j0 j1=> ?_,?_⟩
 ·rw [gG h0 j0 G];by_cases c:j=i
  ·rw[di c,e,c]
  ·rw[df c];exact h.done j j0 G
 ·rw[gG h0 G G,df G];exact h.left j G j1
 ·rw[sF h0 (by unfold pF;rw[az];omega),<-h.sum,eT h0 G,e]
theorem NH.done_all (h:NH U V 258 t) (hU:U.length=258):V=pF U/\t=aR (pF U):=by
 have hh:(pF U).length=258:=by unfold pF;rw[az];exact hU
 refine⟨bE (by rw[h.len,hh]) λj j0 j1=>h.done j j0 (by have:=h.len;omega),?_⟩;rw[h.sum,bi (by rw[hh];decide)]
def shN (R:Int):Nat:=if 16777216<=R then 0 else if 65536<=R then 1 else if 256<=R then 2 else 3
theorem JG (R:Int):shN R<=3:=by unfold shN;split<;>(try split)<;>(try split)<;>omega
theorem JF {R:Int} {j:Nat} (h1:1<=R) (hj:j<=shN R) (h:R*256^j<16777216):j+1<=shN R:=by
 have:=JG R;rcases(by omega:j=0\/j=1\/j=2\/j=3) with rfl|rfl|rfl|rfl<;>unfold shN at* <;>(split<;>(try split)<;>(try split)<;>omega)
variable {R low size total o x:Int} {j:Nat} {b:AH}
theorem SI (h1:1<=R) (hj:j<=shN R) (h:16777216<=R*256^j):j=shN R:=by
 have:=JG R;rcases(by omega:j=0\/j=1\/j=2\/j=3) with rfl|rfl|rfl|rfl<;>unfold shN at* <;>(split at hj<;>(try split at hj)<;>(try split at hj)<;>split<;>(try split)<;>(try split)<;>omega)
theorem KE (h:1<=R):1<=R*256^j:=by
 have h1:(0:Int)<256^j:=Fp G;have:=Int.mul_pos (show 0<R by omega) h1;omega
theorem aJq (h:256<=R):shN R<=2:=by unfold shN;split<;>(try split)<;>(try split)<;>omega
theorem aJp (h:256<=R) (hl:R<4294967296):16777216<=R*256^shN R/\R*256^shN R<4294967296:=by
 unfold shN;split
 ·omega
 ·split
  ·omega
  ·omega
structure CdS where
 N:Int
 R:Int
 k:Nat
def cd0:CdS:=⟨0,4294967295,0⟩
def iN (s:CdS) (low size total:Int):CdS:=⟨(s.N+s.R/total*low)*256^shN (s.R/total*size),s.R/total*size*256^shN (s.R/total*size),s.k+shN (s.R/total*size)⟩
def aAj (s:CdS):Prop:=16777216<=s.R/\s.R<4294967296/\0<=s.N/\s.N+s.R<=256^(s.k+4)
theorem bFi:aAj cd0:=by unfold aAj cd0;dsimp only;omega
def wU (low size total:Int):Prop:=0<=low/\1<=size/\low+size<=total/\total<=65536
theorem qJ (h:wU low size total) (hR:16777216<=R/\R<4294967296):
  256<=R/total/\R/total<=R/\0<=R/total*low/\R/total<=R/total*size/\R/total*low+R/total*size<=R:=by
 obtain⟨h0,h1,h2,h3⟩:=h;have hq:256<=R/total:=(Ai G).2 G;have hm:R/total*total<=R:=Int.ediv_mul_le R G;have a1:0<=R/total*low:=Ab G h0;have a2:R/total*1<=R/total*size:=Fj h1 G;have a3:R/total*(low+size)<=R/total*total:=Fj h2 G;rw[Kg] at a3;refine⟨hq,?_,a1,G,G⟩;exact Es _ G
theorem aYa {s:CdS} (h:aAj s) (hs:wU low size total):aAj (iN s low size total)/\(iN s low size total).k<=s.k+2:=by
 obtain⟨r0,r1,n0,nr⟩:=h;obtain⟨f1,f2,f3,f4,f5⟩:=qJ hs ⟨r0,r1⟩;have hw:=aJp (R:=s.R/total*size) G G;have hj:=aJq (R:=s.R/total*size) G;unfold iN;generalize hq:s.R/total*size=R1 at*;generalize hl:s.R/total*low=x at*;generalize shN R1=j at*;refine⟨⟨hw.1,hw.2,Ab G (uz G),?_⟩,by dsimp only;omega⟩;show(s.N+x)*256^j+R1*256^j<=256^(s.k+j+4);rw[<-Ke,show s.k+j+4=s.k+4+j by omega,zo];exact og G (uz G)
theorem ZY (m:Nat) (M:Int):beL (m+1) (M*256/4294967296)=beL m (M/4294967296)++[M%4294967296/16777216%256]:=by
 rw[beL,show M*256/4294967296/256=M/4294967296 by omega,show M*256/4294967296%256=M%4294967296/16777216%256 by omega]
theorem bAr (m:Nat) (M x:Int) (hx:x=M%4294967296):beL m (M/4294967296)++[x/16777216%256]++[x/65536%256]++[x/256%256]++[x/1%256]=beL (m+4) M:=by
 rw[bAq,show x/16777216%256=M%4294967296/16777216 by omega,show x/65536%256=M%16777216/65536 by omega,show x/256%256=M%65536/256 by omega,show x/1%256=M%256 by omega];simp
structure PpS where
 c0:AH
 c1:AH
 c2:AH
 cls:Int
 cd:CdS
def pp0:PpS:=⟨yS,yS,yS,0,cd0⟩
def mG (s:Int):Int:=if s<2 then 0 else if s<6 then 1 else 2
theorem aUx (s:Int):0<=mG s/\mG s<=2:=by unfold mG;split<;>(try split)<;>omega
def vG (o:Int) (s:PpS):AH:=if s.cls*o=0 then s.c0 else if s.cls*o=1 then s.c1 else s.c2
def aJr (o:Int) (s:PpS) (C:AH) (cls:Int) (cd:CdS):PpS:=if s.cls*o=0 then⟨C,s.c1,s.c2,cls,cd⟩ else if s.cls*o=1 then⟨s.c0,C,s.c2,cls,cd⟩ else⟨s.c0,s.c1,C,cls,cd⟩
def uQ (c:CdS) (C:AH) (x:Int):CdS:=iN c (aR (C.take x.toNat)) (rd C x) (aR C)
def kU (o:Int) (s:PpS) (x:Int):PpS:=aJr o s (mI (vG o s) x) (mG x) (uQ s.cd (vG o s) x)
def encP (o:Int) (l:AH):PpS:=l.foldl (kU o) pp0
theorem aMj (o:Int) (l:AH) (x:Int):encP o (l++[x])=kU o (encP o l) x:=by unfold encP;rw[Hw];rfl
def bI (b:AH):AH:=cB 0 (bS bD b)++[257]
def bX (b:AH) (o:Int):AH:=beL ((encP o (bI b)).cd.k+4) (encP o (bI b)).cd.N
def NZ (s:PpS):Prop:=(mH s.c0/\mH s.c1/\mH s.c2)/\(0<=s.cls/\s.cls<=2)/\aAj s.cd
theorem bDw:NZ pp0:=⟨⟨TD,TD,TD⟩,by unfold pp0;dsimp only;omega,bFi⟩
theorem GX {s:PpS} (h:NZ s):mH (vG o s):=by
 unfold vG;split
 ·exact h.1.1
 ·split
  ·exact h.1.2.1
  ·exact h.1.2.2
theorem mR {C:AH} (h:mH C) (h0:0<=x) (hx:x<258):wU (aR (C.take x.toNat)) (rd C x) (aR C):=by
 obtain⟨hl,hp,ht⟩:=h;have:=sG (i:=x) hp h0 G;exact⟨G,G,G,G⟩
theorem JD {s:PpS} (h:NZ s) (h0:0<=x) (hx:x<258):NZ (kU o s x)/\(kU o s x).cd.k<=s.cd.k+2:=by
 have hm:=aXd (GX (o:=o) h) h0 hx;have hc:=aYa h.2.2 (mR (GX (o:=o) h) h0 hx);have hb:=aUx x;unfold kU aJr;split
 ·exact⟨⟨⟨hm,h.1.2.1,h.1.2.2⟩,hb,hc.1⟩,hc.2⟩
 ·split
  ·exact⟨⟨⟨h.1.1,hm,h.1.2.2⟩,hb,hc.1⟩,hc.2⟩
  ·exact⟨⟨⟨h.1.1,h.1.2.1,hm⟩,hb,hc.1⟩,hc.2⟩
def aEr (l:AH):Prop:= ∀x∈l,0<=x/\x<258
theorem sD (h:aL b):aEr (bI b):=λx hx=>by
 unfold bI at hx;rcases fo.1 hx with hx|hx
 ·have:=GN (bS bD b) 0 (qP h) x hx;omega
 ·rw[jb.1 hx];omega
theorem OT (b:AH):(bI b).length<=b.length+1:=by
 unfold bI;have:=qI (bS bD b) 0;rw[kQ] at this;rw[ai,ii];omega
theorem aHa {o:Int}: ∀(l:AH) (s:PpS),aEr l->NZ s->NZ (l.foldl (kU o) s)/\(l.foldl (kU o) s).cd.k<=s.cd.k+2*l.length
 |[],s,_,h=>⟨h,dn _⟩
 |x::l,s,hl,h=>by
  have hx:=hl x cD;have h1:=JD (o:=o) h hx.1 hx.2;have h2:=aHa (o:=o) l (kU o s x) (λy hy=>hl y (fw _ hy)) h1.1;rw[List.foldl_cons,dm];exact⟨h2.1,G⟩
theorem BU {l:AH} (h:aEr l):NZ (encP o l)/\(encP o l).cd.k<=2*l.length:=by
 have:=aHa (o:=o) l pp0 h bDw;unfold encP;have e:pp0.cd.k=0:=rfl;rw[e] at this;exact⟨this.1,G⟩
theorem lV (h:aL b):(bX b o).length<=2*b.length+6:=by
 unfold bX;rw[lL];have:=(BU (o:=o) (sD h)).2;have:=OT b;omega
theorem fK (b:AH) (o:Int):aL (bX b o):=EN _ _
variable {v:Int}
def KC:Nat->Int->AH
 |0,v=>[v]
 |f+1,v=>if v<128 then [v] else(v%128+128)::KC f (v/128)
def aU (v:Int):AH:=KC v.toNat v
theorem HV: ∀(f g:Nat) (v:Int),v.toNat<=f->v.toNat<=g->KC f v=KC g v
 |0,0,v,_,_=>rfl
 |0,g+1,v,h,_=>by rw[KC,KC,di G]
 |f+1,0,v,_,h=>by rw[KC,KC,di G]
 |f+1,g+1,v,h1,h2=>by
  simp only[KC];by_cases z:v<128
  ·rw[di z,di z]
  ·rw[df z,df z,HV f g _ G G]
theorem kC (h:v<128):aU v=[v]:=by
 rw[aU,HV v.toNat (v.toNat+1) v G G,KC,di h]
theorem sK (h:128<=v):aU v=(v%128+128)::aU (v/128):=by
 rw[aU,HV v.toNat (v.toNat+1) v G G,KC,df G,aU,HV v.toNat (v/128).toNat _ G G]
theorem aKf {v0:Int} {acc:AH} (h:aU v0=acc++aU v) (hv:128<=v) {d q:Int} (hd:d=v%128+128) (hq:q=v/128):aU v0=(acc++[d])++aU q:=by
 rw[h,sK hv,<-hd,<-hq,ek];rfl
theorem dA: ∀(k:Nat) (v:Int),v<128^(k+1)->(aU v).length<=k+1
 |0,v,h=>by rw[kC G];exact dn _
 | k+1,v,h=>by
  by_cases z:v<128
  ·rw[kC z];simp
  ·rw [sK G,dm]
   have:v/128<128^(k+1):=by
    rw[xx] at h;exact zi G h
   have:=dA k (v/128) this;omega
theorem KA: ∀(k:Nat) (v:Int),v.toNat<=k->0<=v->aL (aU v)
 |0,v,h,h0=>by
  rw[kC G];intro x hx;rw[jb.1 hx];omega
 | k+1,v,h,h0=>by
  by_cases z:v<128
  ·rw [kC z];intro x hx;rw[jb.1 hx];omega
  ·rw [sK G];intro x hx;rcases iw.1 hx with rfl|hx
   ·omega
   ·exact KA k (v/128) G G x hx
theorem bZ (h:0<=v):aL (aU v):=KA _ v (dn _) h
def fM (v:Int):AH:=[v/1%256,v/256%256,v/65536%256,v/16777216%256]
theorem gZ (v:Int):aL (fM v):=λx hx=>by
 simp only[fM,iw,uq,Hq] at hx;omega
end Go.Pure
namespace Go.Eng
open Go Go.RowKit Go.Pure
section
variable {P:Program} {n:Nd} {B:Nat} {w0:World} {L:Env} {R:List Row} {ty:TypeId}
theorem UL {f:FuncId} {An:List Operand} {ts:Array TypeId} {vs:AG} {Post:Value->List Row->Prop} (ha:evs L An=some vs)
  (hx: ∀w,Hp B w0 w R-> ∃v w' R',(callFunc f vs.toArray).run P w= .ok (.value v) w'/\Hp B w0 w' R'/\Post v R'):
  Ac P n B w0 (.call {callee:= .value (.func f),args:=An.toArray,argTypes:=ts}) ty L R Post:=by
 intro a w o K Q ho _ hs hp hk;have e1:=hs.evs ha;obtain⟨v,w',R',hr,cv,hv⟩:=hx w hp;have hf:a.eval (.func f)= .func (.func f) #[] #[]:=hs.ev rfl;unfold Oper.wp;simp only[execOp,ho,resolve,hf,Deferred.ofValue,invoke,jl,nu,jo,tq,e1,uh,ig,ji,hr,Oper.upon];exact hk v w' R' cv hv
theorem ZO (u:AH):(Lib.bytesOf u).length=u.length:=by simp[Lib.bytesOf]
theorem QW: ∀ {u t:AH},aL u->aL t->Lib.compareBytes (Lib.bytesOf u) (Lib.bytesOf t)=cmpL u t
 |[],[],_,_=>rfl
 |[],_::_,_,_=>rfl
 |_::_,[],_,_=>rfl
 | x::u,y::t,hu,ht=>by
  have ih:=QW (u:=u) (t:=t) (λz hz=>hu z (fw _ hz)) λz hz=>ht z (fw _ hz);have hx:=hu x cD;have hy:=ht y cD
  have e: ∀z:Int,0<=z/\z<256->((z.toNat.toUInt8).toNat:Int)=z:=λz hz=>by
   rw[Nat.toUInt8,Ci (by simp[UInt8.size];omega)];omega
  have bo: ∀ {a b:Int},0<=a/\a<256->0<=b/\b<256->(a.toNat.toUInt8<b.toNat.toUInt8↔a<b):=λ{a b} ha hb=>by
   rw[UInt8.lt_iff_toNat_lt];have h1:=e a ha;have h2:=e b hb;omega
  show(if x.toNat.toUInt8<y.toNat.toUInt8 then -1 else if y.toNat.toUInt8<x.toNat.toUInt8 then 1 else Lib.compareBytes (Lib.bytesOf u) (Lib.bytesOf t))=cmpL (x::u) (y::t);rw[cmpL,ih];by_cases c:x<y
  ·rw[di c,di ((bo hx hy).2 c)]
  ·rw [df c,df (λh=>c ((bo hx hy).1 h))];by_cases d:y<x
   ·rw[di d,di ((bo hy hx).2 d)]
   ·rw[df d,df (λh=>d ((bo hy hx).1 h))]
theorem vH {w:World} {A:AF} {m c:Nat} {u:AH} (h:Rd w A m c 1 (ints .u8 u)):(Extern.Bytes.bytesOf (.slice A m c)).run P w= .ok ⟨(Lib.bytesOf u).toArray⟩ w:=by
 have hl:=h.lenI;rcases A with _|a
 ·have h0:u=[]:=by
   cases u with
   |nil=>rfl
   |cons y l'=>obtain⟨_,g,_⟩:=h.at_ 0 (.int .u8 y) (by simp[ints]);cases g
  subst h0;rfl
 ·have:=Lib.run_loadBytesX (P:=P) w u a .empty λj x hj=>by
   obtain⟨b,e,hc⟩:=h.at_ j (.int .u8 x) (by simp[ints,hj]);obtain rfl:=jd e;exact hc
  rw[<-hl] at this;show(Extern.Bytes.loadBytes a m .empty).run P w=_;rw[this];simp
theorem aXi {w:World} {A A2:AF} {m c m2 c2:Nat} {u t:AH} (h:Rd w A m c 1 (ints .u8 u)) (h2:Rd w A2 m2 c2 1 (ints .u8 t)) (hu:aL u) (ht:aL t):
  (Extern.BytealgCompare.compare #[.slice A m c, .slice A2 m2 c2]).run P w= .ok (.int .i64 (cmpL u t)) w:=by
 change Sem.run P (do pure (goInt (Extern.BytealgCompare.cmp (<-Extern.Bytes.bytesOf (.slice A m c)) (<-Extern.Bytes.bytesOf (.slice A2 m2 c2))))) w=_;simp only[jl,vH h,vH h2,jo,nu];rw[Lib.cmp_eq,QW hu ht];rfl
theorem bKc {f:FuncId} {fn:Func} {x y:Operand} {ts:Array TypeId} {A A2:AF} {m c m2 c2:Nat} {u t:AH} (hf:P.funcs[f]? =some fn) (c5:(fn.name== "runtime.NumGoroutine")=false) (hb:fn.body.isNone=true) (hn:Extern.findNext fn=none) (he:Extern.find fn=some Extern.BytealgCompare.compare)
  (hx:ev L x=some (.slice A m c)) (hy:ev L y=some (.slice A2 m2 c2)) (h:RdC B w0 R A m c 1 (ints .u8 u)) (h2:RdC B w0 R A2 m2 c2 1 (ints .u8 t)) (hu:aL u) (ht:aL t):
  Ac P n B w0 (.call {callee:= .value (.func f),args:=[x,y].toArray,argTypes:=ts}) ty L R (λv R'=>v= .int .i64 (cmpL u t)/\R'=R):=
 UL (vs:=[.slice A m c, .slice A2 m2 c2]) (by simp[evs,hx,hy]) λw hw=>⟨_,w,R,by
  rw[Gl hf c5 hb hn he];rw[show [Value.slice A m c,Value.slice A2 m2 c2].toArray= #[.slice A m c, .slice A2 m2 c2] from rfl,aXi (h w hw) (h2 w hw) hu ht]
  rfl,hw,rfl,rfl⟩
theorem bBl {x:Operand} {t e:TypeId} {A:AF} {m c:Nat} (ht:P.underlying t=some (.slice e)) (hx:ev L x=some (.slice A m c)):Yl P n B w0 (.call {callee:= .builtin .cap,args:= #[x],argTypes:= #[t]}) ty L R (.int .i64 (c:Int)):=by
 intro a w o ho _ hs _;simp[execOp,ho,resolve,invoke,builtin,Builtin.cap_,mo ht,hs.ev hx,goInt]
theorem UT {x z:Operand} {t e:TypeId} {A:AF} {m c sz:Nat} {k2:IntKind} (ht:P.underlying t=some (.slice e)) (hi:(P.info? e).map (·.size)=some sz) (hx:ev L x=some (.slice A m c)) (hz:ev L z=some (.int k2 0)):
  Yl P n B w0 (.slice t x none (some z) none) ty L R (.slice A 0 c):=by
 intro a w o ho _ hs hp;obtain⟨i0,bb,hsz0⟩:=iy.1 hi;have sg:P.elem t=e:=by simp[Program.elem,ht]
 have px:P.underlying t=some (.slice (P.elem t)):=by rw[sg];exact ht
 simp only[execOp,ho,jy,Az,hs.ev hx,hs.ev hz,jl,zx w t _ _ _ _ px,run_slice_h w t A m c px k2 0 (lq 0) G,sg]
 have:(if c=0 then A else Option.map (λx=>x.add 0) A)=A:=by
  split
  ·rfl
  ·exact AV A
 simp[sizeOf,typeInfo,bb,hsz0,sliced,this]
theorem Row.lies_cut {w:World} {e sz m c:Nat} {A:AF} {xs:AG} (h:Row.lies B w ⟨e,sz,A,m,c,xs,false⟩) {k:Nat} (hk:k<=m) (hA:A≠none):Row.lies B w ⟨e,sz,A,k,c,xs.take (k*sz),false⟩:=by
 have h1:=Row.lies_w h rfl;have mw:k*sz<=m*sz:=ul _ hk;unfold Row.lies;simp only;obtain⟨hl,h2⟩:=h1;simp only at hl h2;refine⟨by rw[ax];omega,?_⟩;rcases h2 with⟨hv,_⟩|⟨g,cap,cur,hv,hb,hg,hnc,pt,ie,ht⟩
 ·simp only[jv] at hv;exact absurd hv.1 hA
 ·simp only[jv] at hv;obtain⟨rfl,_,rfl⟩:=hv;refine .inr ⟨g,c,cur,rfl,hb,hg,G,pt,ie,?_⟩;rw[<-ht,List.take_take];congr 1;omega
theorem Hp.cut {w:World} {e sz m c:Nat} {A:AF} {xs:AG} (h:Hp B w0 w (⟨e,sz,A,m,c,xs,false⟩::R)) {k:Nat} (hk:k<=m) (hA:A≠none):Hp B w0 w (⟨e,sz,A,k,c,xs.take (k*sz),false⟩::R):=
 ⟨h.below,h.base,λr hr=>by
  rcases iw.1 hr with rfl|hr
  ·exact Row.lies_cut (h.own _ (.head _)) hk hA
  ·exact h.own r (.tail _ hr),by
  obtain⟨h1,h2⟩:=il.1 h.apart
  exact il.2 ⟨λr hr=>h1 r hr,h2⟩,h.late⟩
theorem Hp.newC {w:World} (h:Hp B w0 w R) (cs:Array Value) (e m:Nat) (hm:m<=cs.size) (hc:cs.size<=maxLen):Hp B w0 (w.alloc (.cells cs e)) (⟨e,1,some ⟨w.heap.size,0,none⟩,m,cs.size,cs.toList.take m,false⟩::R):=by
 have h1:=h.new cs e cs.size 1 hc G;have:=h1.cut (k:=m) hm cD;rwa[qg] at this
theorem bAv {x y:Operand} {t tn e:TypeId} {z:Value} {bytes:Nat} {kn:IntKind} {m:Nat} (ht:P.underlying t=some (.slice e)) (Qf:P.underlying tn=some (.int kn)) (dq:(P.info? e).map (λi=>(i.zero,i.size,i.bytes))=some (some z,1,bytes)) (hz:z.cells= #[z])
  (hx:ev L x=some (.slice none 0 0)) (hy:ev L y=some (.int .i64 (m:Int))) (h0:0<m) (hm:m<=9223372036854775807) (hb:m*bytes<=281474976710656):
  Ac P n B w0 (.call {callee:= .builtin .append,args:= #[x,y],argTypes:= #[t,tn]}) ty L R (λv R'=> ∃g c,v= .slice (some ⟨g,0,none⟩) m c/\R'=⟨e,1,some ⟨g,0,none⟩,m,c,List.replicate m z,false⟩::R):=by
 intro a w o K Q ho _ hs hp hk;obtain⟨i0,hi,yp⟩:=iy.1 dq;simp only[zz] at yp;obtain⟨wj,wk,w7⟩:=yp;have hr:=Lib.run_append_nil_zeros (P:=P) w t tn o.type e i0 z .i64 kn ht Qf hi wj m h0 G G (by rw[w7];exact hb)
 have Rr: ∀q,(Builtin.zeroCells z.cells q).toList=List.replicate q z:=λq=>by
  rw[hz];refine sw (by simp[Builtin.zeroCells]) λi h1 h2=> ?_;simp[Builtin.zeroCells,Nat.mod_one]
 unfold Oper.wp;simp only[execOp,ho,resolve,invoke,builtin,jl,nu,jo,tq,jq,qo,hs.ev hx,hs.ev hy,hr,Oper.upon];have Fo:=grownCap_ge w m 0 e;have mw:=Ho w m 0 e (by unfold maxLen;omega)
 have hsz:(Builtin.zeroCells z.cells m++Builtin.zeroCells z.cells (grownCap w m 0 e-m)).size=grownCap w m 0 e:=by
  rw[<-jr,uu,ai,Rr,Rr,cz,cz];omega
 have nf:=(hp.drawn (w.drawn+1) G).newC (Builtin.zeroCells z.cells m++Builtin.zeroCells z.cells (grownCap w m 0 e-m)) e m (by rw[hsz];exact Fo) (by rw[hsz];exact mw);rw[uu,Rr,Rr,Gi (by rw[cz]),hsz] at nf;exact hk _ _ _ nf ⟨_,_,rfl,rfl⟩
end
end Go.Eng
namespace Go.Eng
open Go Go.RowKit
section
variable {P:Program} {n:Nd} {B:Nat} {w0:World}
theorem GK {σ0 σ1 σ2 σ3 σ4 σ5 σ6 σ7:Type} {c:Code} {Q:eZ} {L:Env} {R:List Row} (Lx:σ0->σ1->σ2->σ3->σ4->σ5->σ6->σ7->Env) (Rx:σ0->σ1->σ2->σ3->σ4->σ5->σ6->σ7->List Row) (J:σ0->σ1->σ2->σ3->σ4->σ5->σ6->σ7->Prop) (μ:σ0->σ1->σ2->σ3->σ4->σ5->σ6->σ7->Nat)
  (h0: ∃x0 x1 x2 x3 x4 x5 x6 x7,J x0 x1 x2 x3 x4 x5 x6 x7/\Sub (Lx x0 x1 x2 x3 x4 x5 x6 x7) L/\ ∀w,Hp B w0 w R->Hp B w0 w (Rx x0 x1 x2 x3 x4 x5 x6 x7))
  (round: ∀x0 x1 x2 x3 x4 x5 x6 x7,J x0 x1 x2 x3 x4 x5 x6 x7->W P n B w0 c {Q with nrm:=λL' R'=> ∃y0 y1 y2 y3 y4 y5 y6 y7,J y0 y1 y2 y3 y4 y5 y6 y7/\μ y0 y1 y2 y3 y4 y5 y6 y7<μ x0 x1 x2 x3 x4 x5 x6 x7/\Sub (Lx y0 y1 y2 y3 y4 y5 y6 y7) L'/\ ∀w,Hp B w0 w R'->Hp B w0 w (Rx y0 y1 y2 y3 y4 y5 y6 y7)} (Lx x0 x1 x2 x3 x4 x5 x6 x7) (Rx x0 x1 x2 x3 x4 x5 x6 x7)):W P n B w0 (.loop c) Q L R:=by
 obtain⟨x0,x1,x2,x3,x4,x5,x6,x7,h1,h2,h3⟩:=h0;refine oZ (σ:=σ0 × σ1 × σ2 × σ3 × σ4 × σ5 × σ6 × σ7) (λp=>Lx p.1 p.2.1 p.2.2.1 p.2.2.2.1 p.2.2.2.2.1 p.2.2.2.2.2.1 p.2.2.2.2.2.2.1 p.2.2.2.2.2.2.2) (λp=>Rx p.1 p.2.1 p.2.2.1 p.2.2.2.1 p.2.2.2.2.1 p.2.2.2.2.2.1 p.2.2.2.2.2.2.1 p.2.2.2.2.2.2.2) (λp=>J p.1 p.2.1 p.2.2.1 p.2.2.2.1 p.2.2.2.2.1 p.2.2.2.2.2.1 p.2.2.2.2.2.2.1 p.2.2.2.2.2.2.2) (λp=>μ p.1 p.2.1 p.2.2.1 p.2.2.2.1 p.2.2.2.2.1 p.2.2.2.2.2.1 p.2.2.2.2.2.2.1 p.2.2.2.2.2.2.2) ⟨(x0,x1,x2,x3,x4,x5,x6,x7),h1,h2,h3⟩ λp hp=>iC (round p.1 p.2.1 p.2.2.1 p.2.2.2.1 p.2.2.2.2.1 p.2.2.2.2.2.1 p.2.2.2.2.2.2.1 p.2.2.2.2.2.2.2 hp) ?_ (λ_ _ h=>h) (λ_ _ _ h=>h);rintro L' R' ⟨y0,y1,y2,y3,y4,y5,y6,y7,g1,g2,g3,g4⟩;exact⟨(y0,y1,y2,y3,y4,y5,y6,y7),⟨g1,g2⟩,g3,g4⟩
theorem RZ {σ0 σ1 σ2 σ3 σ4 σ5 σ6 σ7 σ8:Type} {c:Code} {Q:eZ} {L:Env} {R:List Row} (Lx:σ0->σ1->σ2->σ3->σ4->σ5->σ6->σ7->σ8->Env) (Rx:σ0->σ1->σ2->σ3->σ4->σ5->σ6->σ7->σ8->List Row) (J:σ0->σ1->σ2->σ3->σ4->σ5->σ6->σ7->σ8->Prop) (μ:σ0->σ1->σ2->σ3->σ4->σ5->σ6->σ7->σ8->Nat)
  (h0: ∃x0 x1 x2 x3 x4 x5 x6 x7 x8,J x0 x1 x2 x3 x4 x5 x6 x7 x8/\Sub (Lx x0 x1 x2 x3 x4 x5 x6 x7 x8) L/\ ∀w,Hp B w0 w R->Hp B w0 w (Rx x0 x1 x2 x3 x4 x5 x6 x7 x8))
  (round: ∀x0 x1 x2 x3 x4 x5 x6 x7 x8,J x0 x1 x2 x3 x4 x5 x6 x7 x8->W P n B w0 c {Q with nrm:=λL' R'=> ∃y0 y1 y2 y3 y4 y5 y6 y7 y8,J y0 y1 y2 y3 y4 y5 y6 y7 y8/\μ y0 y1 y2 y3 y4 y5 y6 y7 y8<μ x0 x1 x2 x3 x4 x5 x6 x7 x8/\Sub (Lx y0 y1 y2 y3 y4 y5 y6 y7 y8) L'/\ ∀w,Hp B w0 w R'->Hp B w0 w (Rx y0 y1 y2 y3 y4 y5 y6 y7 y8)} (Lx x0 x1 x2 x3 x4 x5 x6 x7 x8) (Rx x0 x1 x2 x3 x4 x5 x6 x7 x8)):W P n B w0 (.loop c) Q L R:=by
 obtain⟨x0,x1,x2,x3,x4,x5,x6,x7,x8,h1,h2,h3⟩:=h0;refine oZ (σ:=σ0 × σ1 × σ2 × σ3 × σ4 × σ5 × σ6 × σ7 × σ8) (λp=>Lx p.1 p.2.1 p.2.2.1 p.2.2.2.1 p.2.2.2.2.1 p.2.2.2.2.2.1 p.2.2.2.2.2.2.1 p.2.2.2.2.2.2.2.1 p.2.2.2.2.2.2.2.2) (λp=>Rx p.1 p.2.1 p.2.2.1 p.2.2.2.1 p.2.2.2.2.1 p.2.2.2.2.2.1 p.2.2.2.2.2.2.1 p.2.2.2.2.2.2.2.1 p.2.2.2.2.2.2.2.2) (λp=>J p.1 p.2.1 p.2.2.1 p.2.2.2.1 p.2.2.2.2.1 p.2.2.2.2.2.1 p.2.2.2.2.2.2.1 p.2.2.2.2.2.2.2.1 p.2.2.2.2.2.2.2.2) (λp=>μ p.1 p.2.1 p.2.2.1 p.2.2.2.1 p.2.2.2.2.1 p.2.2.2.2.2.1 p.2.2.2.2.2.2.1 p.2.2.2.2.2.2.2.1 p.2.2.2.2.2.2.2.2) ⟨(x0,x1,x2,x3,x4,x5,x6,x7,x8),h1,h2,h3⟩ λp hp=>iC (round p.1 p.2.1 p.2.2.1 p.2.2.2.1 p.2.2.2.2.1 p.2.2.2.2.2.1 p.2.2.2.2.2.2.1 p.2.2.2.2.2.2.2.1 p.2.2.2.2.2.2.2.2 hp) ?_ (λ_ _ h=>h) (λ_ _ _ h=>h);rintro L' R' ⟨y0,y1,y2,y3,y4,y5,y6,y7,y8,g1,g2,g3,g4⟩;exact⟨(y0,y1,y2,y3,y4,y5,y6,y7,y8),⟨g1,g2⟩,g3,g4⟩
theorem UY {σ0 σ1 σ2 σ3 σ4 σ5 σ6 σ7 σ8 σ9:Type} {c:Code} {Q:eZ} {L:Env} {R:List Row} (Lx:σ0->σ1->σ2->σ3->σ4->σ5->σ6->σ7->σ8->σ9->Env) (Rx:σ0->σ1->σ2->σ3->σ4->σ5->σ6->σ7->σ8->σ9->List Row) (J:σ0->σ1->σ2->σ3->σ4->σ5->σ6->σ7->σ8->σ9->Prop) (μ:σ0->σ1->σ2->σ3->σ4->σ5->σ6->σ7->σ8->σ9->Nat)
  (h0: ∃x0 x1 x2 x3 x4 x5 x6 x7 x8 x9,J x0 x1 x2 x3 x4 x5 x6 x7 x8 x9/\Sub (Lx x0 x1 x2 x3 x4 x5 x6 x7 x8 x9) L/\ ∀w,Hp B w0 w R->Hp B w0 w (Rx x0 x1 x2 x3 x4 x5 x6 x7 x8 x9))
  (round: ∀x0 x1 x2 x3 x4 x5 x6 x7 x8 x9,J x0 x1 x2 x3 x4 x5 x6 x7 x8 x9->W P n B w0 c {Q with nrm:=λL' R'=> ∃y0 y1 y2 y3 y4 y5 y6 y7 y8 y9,J y0 y1 y2 y3 y4 y5 y6 y7 y8 y9/\μ y0 y1 y2 y3 y4 y5 y6 y7 y8 y9<μ x0 x1 x2 x3 x4 x5 x6 x7 x8 x9/\Sub (Lx y0 y1 y2 y3 y4 y5 y6 y7 y8 y9) L'/\ ∀w,Hp B w0 w R'->Hp B w0 w (Rx y0 y1 y2 y3 y4 y5 y6 y7 y8 y9)} (Lx x0 x1 x2 x3 x4 x5 x6 x7 x8 x9) (Rx x0 x1 x2 x3 x4 x5 x6 x7 x8 x9)):W P n B w0 (.loop c) Q L R:=by
 obtain⟨x0,x1,x2,x3,x4,x5,x6,x7,x8,x9,h1,h2,h3⟩:=h0;refine oZ (σ:=σ0 × σ1 × σ2 × σ3 × σ4 × σ5 × σ6 × σ7 × σ8 × σ9) (λp=>Lx p.1 p.2.1 p.2.2.1 p.2.2.2.1 p.2.2.2.2.1 p.2.2.2.2.2.1 p.2.2.2.2.2.2.1 p.2.2.2.2.2.2.2.1 p.2.2.2.2.2.2.2.2.1 p.2.2.2.2.2.2.2.2.2) (λp=>Rx p.1 p.2.1 p.2.2.1 p.2.2.2.1 p.2.2.2.2.1 p.2.2.2.2.2.1 p.2.2.2.2.2.2.1 p.2.2.2.2.2.2.2.1 p.2.2.2.2.2.2.2.2.1 p.2.2.2.2.2.2.2.2.2) (λp=>J p.1 p.2.1 p.2.2.1 p.2.2.2.1 p.2.2.2.2.1 p.2.2.2.2.2.1 p.2.2.2.2.2.2.1 p.2.2.2.2.2.2.2.1 p.2.2.2.2.2.2.2.2.1 p.2.2.2.2.2.2.2.2.2) (λp=>μ p.1 p.2.1 p.2.2.1 p.2.2.2.1 p.2.2.2.2.1 p.2.2.2.2.2.1 p.2.2.2.2.2.2.1 p.2.2.2.2.2.2.2.1 p.2.2.2.2.2.2.2.2.1 p.2.2.2.2.2.2.2.2.2) ⟨(x0,x1,x2,x3,x4,x5,x6,x7,x8,x9),h1,h2,h3⟩ λp hp=>iC (round p.1 p.2.1 p.2.2.1 p.2.2.2.1 p.2.2.2.2.1 p.2.2.2.2.2.1 p.2.2.2.2.2.2.1 p.2.2.2.2.2.2.2.1 p.2.2.2.2.2.2.2.2.1 p.2.2.2.2.2.2.2.2.2 hp) ?_ (λ_ _ h=>h) (λ_ _ _ h=>h);rintro L' R' ⟨y0,y1,y2,y3,y4,y5,y6,y7,y8,y9,g1,g2,g3,g4⟩;exact⟨(y0,y1,y2,y3,y4,y5,y6,y7,y8,y9),⟨g1,g2⟩,g3,g4⟩
theorem aOk {σ0 σ1 σ2 σ3 σ4 σ5 σ6 σ7 σ8 σ9 σ10 σ11 σ12 σ13:Type} {c:Code} {Q:eZ} {L:Env} {R:List Row} (Lx:σ0->σ1->σ2->σ3->σ4->σ5->σ6->σ7->σ8->σ9->σ10->σ11->σ12->σ13->Env) (Rx:σ0->σ1->σ2->σ3->σ4->σ5->σ6->σ7->σ8->σ9->σ10->σ11->σ12->σ13->List Row) (J:σ0->σ1->σ2->σ3->σ4->σ5->σ6->σ7->σ8->σ9->σ10->σ11->σ12->σ13->Prop) (μ:σ0->σ1->σ2->σ3->σ4->σ5->σ6->σ7->σ8->σ9->σ10->σ11->σ12->σ13->Nat)
  (h0: ∃x0 x1 x2 x3 x4 x5 x6 x7 x8 x9 wt wv wx xa,J x0 x1 x2 x3 x4 x5 x6 x7 x8 x9 wt wv wx xa/\Sub (Lx x0 x1 x2 x3 x4 x5 x6 x7 x8 x9 wt wv wx xa) L/\ ∀w,Hp B w0 w R->Hp B w0 w (Rx x0 x1 x2 x3 x4 x5 x6 x7 x8 x9 wt wv wx xa))
  (round: ∀x0 x1 x2 x3 x4 x5 x6 x7 x8 x9 wt wv wx xa,J x0 x1 x2 x3 x4 x5 x6 x7 x8 x9 wt wv wx xa->W P n B w0 c {Q with nrm:=λL' R'=> ∃y0 y1 y2 y3 y4 y5 y6 y7 y8 y9 s9 t6 t7 t8,J y0 y1 y2 y3 y4 y5 y6 y7 y8 y9 s9 t6 t7 t8/\μ y0 y1 y2 y3 y4 y5 y6 y7 y8 y9 s9 t6 t7 t8<μ x0 x1 x2 x3 x4 x5 x6 x7 x8 x9 wt wv wx xa/\Sub (Lx y0 y1 y2 y3 y4 y5 y6 y7 y8 y9 s9 t6 t7 t8) L'/\ ∀w,Hp B w0 w R'->Hp B w0 w (Rx y0 y1 y2 y3 y4 y5 y6 y7 y8 y9 s9 t6 t7 t8)} (Lx x0 x1 x2 x3 x4 x5 x6 x7 x8 x9 wt wv wx xa) (Rx x0 x1 x2 x3 x4 x5 x6 x7 x8 x9 wt wv wx xa)):W P n B w0 (.loop c) Q L R:=by
 obtain⟨x0,x1,x2,x3,x4,x5,x6,x7,x8,x9,wt,wv,wx,xa,h1,h2,h3⟩:=h0;refine oZ (σ:=σ0 × σ1 × σ2 × σ3 × σ4 × σ5 × σ6 × σ7 × σ8 × σ9 × σ10 × σ11 × σ12 × σ13) (λp=>Lx p.1 p.2.1 p.2.2.1 p.2.2.2.1 p.2.2.2.2.1 p.2.2.2.2.2.1 p.2.2.2.2.2.2.1 p.2.2.2.2.2.2.2.1 p.2.2.2.2.2.2.2.2.1 p.2.2.2.2.2.2.2.2.2.1 p.2.2.2.2.2.2.2.2.2.2.1 p.2.2.2.2.2.2.2.2.2.2.2.1 p.2.2.2.2.2.2.2.2.2.2.2.2.1 p.2.2.2.2.2.2.2.2.2.2.2.2.2) (λp=>Rx p.1 p.2.1 p.2.2.1 p.2.2.2.1 p.2.2.2.2.1 p.2.2.2.2.2.1 p.2.2.2.2.2.2.1 p.2.2.2.2.2.2.2.1 p.2.2.2.2.2.2.2.2.1 p.2.2.2.2.2.2.2.2.2.1 p.2.2.2.2.2.2.2.2.2.2.1 p.2.2.2.2.2.2.2.2.2.2.2.1 p.2.2.2.2.2.2.2.2.2.2.2.2.1 p.2.2.2.2.2.2.2.2.2.2.2.2.2) (λp=>J p.1 p.2.1 p.2.2.1 p.2.2.2.1 p.2.2.2.2.1 p.2.2.2.2.2.1 p.2.2.2.2.2.2.1 p.2.2.2.2.2.2.2.1 p.2.2.2.2.2.2.2.2.1 p.2.2.2.2.2.2.2.2.2.1 p.2.2.2.2.2.2.2.2.2.2.1 p.2.2.2.2.2.2.2.2.2.2.2.1 p.2.2.2.2.2.2.2.2.2.2.2.2.1 p.2.2.2.2.2.2.2.2.2.2.2.2.2) (λp=>μ p.1 p.2.1 p.2.2.1 p.2.2.2.1 p.2.2.2.2.1 p.2.2.2.2.2.1 p.2.2.2.2.2.2.1 p.2.2.2.2.2.2.2.1 p.2.2.2.2.2.2.2.2.1 p.2.2.2.2.2.2.2.2.2.1 p.2.2.2.2.2.2.2.2.2.2.1 p.2.2.2.2.2.2.2.2.2.2.2.1 p.2.2.2.2.2.2.2.2.2.2.2.2.1 p.2.2.2.2.2.2.2.2.2.2.2.2.2) ⟨(x0,x1,x2,x3,x4,x5,x6,x7,x8,x9,wt,wv,wx,xa),h1,h2,h3⟩ λp hp=>iC (round p.1 p.2.1 p.2.2.1 p.2.2.2.1 p.2.2.2.2.1 p.2.2.2.2.2.1 p.2.2.2.2.2.2.1 p.2.2.2.2.2.2.2.1 p.2.2.2.2.2.2.2.2.1 p.2.2.2.2.2.2.2.2.2.1 p.2.2.2.2.2.2.2.2.2.2.1 p.2.2.2.2.2.2.2.2.2.2.2.1 p.2.2.2.2.2.2.2.2.2.2.2.2.1 p.2.2.2.2.2.2.2.2.2.2.2.2.2 hp) ?_ (λ_ _ h=>h) (λ_ _ _ h=>h);rintro L' R' ⟨y0,y1,y2,y3,y4,y5,y6,y7,y8,y9,s9,t6,t7,t8,g1,g2,g3,g4⟩;exact⟨(y0,y1,y2,y3,y4,y5,y6,y7,y8,y9,s9,t6,t7,t8),⟨g1,g2⟩,g3,g4⟩
end
section
variable {P:Program} {n:Nd} {B:Nat} {w0:World} {L:Env} {R:List Row} {ty:TypeId}
end
end Go.Eng
namespace Go.Eng
open Go Go.RowKit Go.Proofs
theorem SlW.elim {C:Prop} {k:IntKind} {w:World} {vals:AG} {ls:AD} (h:SlW k w vals ls) {i:Int} (h0:0<=i) (h1:i<ls.length) (q: ∀(A:AF) (c:Nat),vals[i.toNat]? =some (Value.slice A (rdl ls i).length c)->Rd w A (rdl ls i).length c 1 (ints k (rdl ls i))->(∀x∈rdl ls i,(Lit.int k x).wf=true)->(rdl ls i).length<=140737488355327->C):C:=by
 obtain⟨A,c,a,b,d,e⟩:=h.at h0 h1;exact q A c a b d e
section
variable {P:Program} {n:Nd} {B:Nat} {w0:World} {L:Env} {R:List Row} {ty:TypeId}
end
section
variable {P:Program} {n:Nd} {B:Nat} {w0:World} {ops:Array Oper} {K:Env->List Row->Prop} {L:Env} {R:List Row} {op:Op} {ty:TypeId} {pos:String} {nj:Array Edge}
def aIk (P:Program) (n:Nd) (B:Nat) (w0:World) (ops:Array Oper) (K:Env->List Row->Prop) (aq:Nat) (ab:AI) (L:Env) (R:List Row) (i:Nat):Prop:=
 ∀a w (Q:Exit->Act->World->Prop),Sat n L a->Hp B w0 w R->(∀c a w,¬Q (.panic c) a w)->(∀a' w' L' R',Sat n L' a'->Hp B w0 w' R'->K L' R'->Q .normal a' w')->
  wpOp P ops Q i (λa' w'=> ∃S':World->Prop,S' w'/\(MX ops ab i=true\/ ∀x,S' x->Hp B w0 x R)/\uW P ops Q aq S' (ab.setIfInBounds i true) a' w') a w
theorem aOh {aq:Nat} {ab:AI} (i j:Nat) (hr:Region.ready .any ops ab=[i,j]) (hi:aIk P n B w0 ops K aq ab L R i) (hj:aIk P n B w0 ops K aq ab L R j):WD P n B w0 ops K (aq+1) ab L R:=by
 intro a w Q hs hp ju hq;refine⟨λh0=>absurd (hr▸h0) cD,λk hk=> ?_⟩;rw[hr] at hk;rcases iw.1 hk with rfl|hk
 ·exact hi a w Q hs hp ju hq
 ·obtain rfl:=jb.1 hk;exact hj a w Q hs hp ju hq
theorem bDh {i:Nat} {o:Oper} {Post:Value->List Row->Prop} {aq:Nat} {ab:AI} (hi:ops[i]? =some o) (hg: ∀a,Sat n L a->Region.wanted o (yielded ops a.tmps)=true) (ha:Ac P n B w0 o.op o.type L R Post)
  (hn: ∀v a,Sat n L a->Sat n (match o.dst with|some d=>(d,v)::L|none=>L) (a.put o.dst v))
  (h: ∀v R',Post v R'->(MX ops ab i=true\/ ∀w,Hp B w0 w R'->Hp B w0 w R)/\WD P n B w0 ops K aq (ab.setIfInBounds i true) (match o.dst with|some d=>(d,v)::L|none=>L) R'):aIk P n B w0 ops K aq ab L R i:=by
 intro a w Q hs hp ju hq;unfold wpOp;simp only[hi,hg a hs,Jw];refine .inl (ha a w o _ Q rfl rfl hs hp λv w' R' cv hv=> ?_);obtain⟨h1,h2⟩:=h v R' hv;exact⟨λw=>Hp B w0 w R',cv,h1,h2 _ w' Q (hn v a hs) cv ju hq⟩
theorem aWs {d:Nat} {Post:Value->List Row->Prop} {aq:Nat} {ab:AI} (i:Nat) (hi:ops[i]? =some {dst:=some d,op:=op,type:=ty,pos:=pos,after:=nj,guard:=none}) (hn:Nat.blt d n=true) (ha:Ac P n B w0 op ty L R Post)
  (h: ∀v R',Post v R'->(MX ops ab i=true\/ ∀w,Hp B w0 w R'->Hp B w0 w R)/\WD P n B w0 ops K aq (ab.setIfInBounds i true) ((d,v)::L) R'):aIk P n B w0 ops K aq ab L R i:=
 bDh hi (λ_ _=>rfl) ha (λv _ hs=>hs.put hn v) h
end
end Go.Eng
namespace Go.Eng
open Go Go.RowKit
variable {w:World} {A:AF} {m c l h:Nat} {xs:AH}
theorem Rd.cutI {k:IntKind} (hr:Rd w A m c 1 (ints k xs)) (h1:l<=h) (h2:h<=m):Rd w (jD A l c 1) (h-l) (c-l) 1 (ints k ((xs.drop l).take (h-l))):=
 RdC.cutI (hr.c []) h1 h2 w (Hp.refl _)
theorem Rd.fromI {k:IntKind} (hr:Rd w A m c 1 (ints k xs)) (h1:l<=m):Rd w (jD A l c 1) (m-l) (c-l) 1 (ints k (xs.drop l)):=
 RdC.fromI (hr.c []) h1 w (Hp.refl _)
theorem Rd.toI {k:IntKind} (hr:Rd w A m c 1 (ints k xs)) (h2:h<=m):Rd w A h c 1 (ints k (xs.take h)):=
 RdC.toI (hr.c []) h2 w (Hp.refl _)
theorem dQ {x:Int} (h:0<=x/\x<256):(Lit.int .u8 x).wf=true:=by
 have h1:IntKind.u8.min<=x:=h.1
 have h2:x<=IntKind.u8.max:=by
  have:IntKind.u8.max=255:=cC
  omega
 simp[Lit.wf,h1,h2]
theorem SlW.snoc {k:IntKind} {vals:AG} {ls:AD} {l:AH} (h:SlW k w vals ls) (hr:Rd w A m c 1 (ints k l)) (hwf: ∀x∈l,(Lit.int k x).wf=true) (hm:l.length<=140737488355327):SlW k w (vals++[.slice A m c]) (ls++[l]):=by
 obtain rfl:=hr.lenI;refine⟨by rw[ai,ai,h.1];rfl,λj hj=> ?_⟩;rcases gu j ls.length with a|a
 ·obtain ⟨A',c',h1,h2,h3,h4⟩:=h.2 j a
  have e:(ls++[l]).getD j []=ls.getD j []:=by
   rw[af,af,jf a]
  rw[e];exact⟨A',c',by rw[jf (by rw[h.1];exact a)];exact h1,h2,h3,h4⟩
 ·have vx:j=ls.length:=by rw[ai] at hj;simp at hj;omega
  have e:(ls++[l]).getD j []=l:=by
   rw[af,vx,jh (dn _)];simp
  rw[e];refine⟨A,c,?_,hr,hwf,hm⟩;rw[vx,<-h.1,jh (dn _)];simp
section
variable {P:Program} {n:Nd} {B:Nat} {w0:World} {L:Env} {R:List Row} {ty:TypeId}
end
section
variable {P:Program} {n:Nd} {B:Nat} {w0:World} {L:Env} {R:List Row} {ty:TypeId}
def WRd (P:Program) (n:Nd) (B:Nat) (w0:World) (c:Code) (Q:eZ):Nat->Env->List Row->Prop
 |0,_,_=>False
 |m+1,L,R=>W P n B w0 c {Q with nrm:=WRd P n B w0 c Q m} L R
theorem oJ {c:Code} {Q:eZ} (m:Nat) (h:WRd P n B w0 c Q m L R):W P n B w0 (.loop c) Q L R:=by
 intro a w hs hp;refine wpIn_loop_rounds m ?_
 have key: ∀(m:Nat) (L:Env) (R:List Row) (a:Act) (w:World),Sat n L a->Hp B w0 w R->WRd P n B w0 c Q m L R->Code.roundsIn (NF n.rd) 0 P c (PQ n B w0 Q) m a w:=by
  intro m
  induction m with
  |zero=>intro L R a w _ _ h;exact h.elim
  |succ m ih=>
   intro L R a w hs hp h;rw[roundsIn_succ];refine Ah (h a w hs hp) ?_;intro e a' w' hq;cases e with
   |normal=>obtain⟨L',R',eh,cv,hw⟩:=hq;exact ih _ _ _ _ eh cv hw
   |exit id=>exact hq
   |goto l=>exact hq
   |ret=>exact hq
   |panic ch=>exact hq
   |outgrown=>exact hq
 exact key m L R a w hs hp h
theorem dZ {c:Code} {Q:eZ} {m:Nat} (h:W P n B w0 c {Q with nrm:=WRd P n B w0 c Q m} L R):WRd P n B w0 c Q (m+1) L R:=h
theorem bCz {t:TypeId} {x ix:Operand} {u i v:Value} (hx:ev L x=some u) (hi:ev L ix=some i) (h: ∀w,(Instr.index t u i).run P w= .ok v w):Yl P n B w0 (.index t x ix) ty L R v:=by
 intro a w o ho _ hs _;simp[execOp,ho,hs.ev hx,hs.ev hi,h]
end
end Go.Eng
namespace Go.Eng
open Go Go.RowKit Go.Pure
section
variable {P:Program} {n:Nd} {B:Nat} {w0:World} {L:Env} {R:List Row} {ty:TypeId}
theorem aIa {x y:Int} (hx:0<=x/\x<256) (hy:0<=y/\y<256):(x.toNat.toUInt8==y.toNat.toUInt8)=decide (x=y):=by
 have e: ∀z:Int,0<=z/\z<256->((z.toNat.toUInt8).toNat:Int)=z:=λz hz=>by
  rw[Nat.toUInt8,Ci (by simp[UInt8.size];omega)];omega
 by_cases h:x=y
 ·subst h;simp
 ·rw [ol h];refine beq_eq_false_iff_ne.2 λg=>h ?_;have:=e x hx;have:=e y hy;rw[g] at*;omega
theorem aLw {u:AH} {c:Int} (hu:aL u) (hc:0<=c/\c<256) (hm:c∈u):
  (List.range (⟨(Lib.bytesOf u).toArray⟩:ByteArray).size).find? (λi=>(⟨(Lib.bytesOf u).toArray⟩:ByteArray)[i]! ==c.toNat.toUInt8)=some (idx u c).toNat:=by
 have hi:=yX hm
 have hsz:(⟨(Lib.bytesOf u).toArray⟩:ByteArray).size=u.length:=by
  show(Lib.bytesOf u).toArray.size=_;rw[qb,ZO]
 have rg: ∀(i:Nat) (h:i<u.length),(⟨(Lib.bytesOf u).toArray⟩:ByteArray)[i]! =(u[i]).toNat.toUInt8:=λi h=>by
  rw[qp _ i (by rw[hsz];exact h)];show(Lib.bytesOf u).toArray[i]'_=_;simp[Lib.bytesOf]
 refine List.find?_range_eq_some.2 ⟨?_,?_,?_⟩
 ·rw [rg _ G,aIa (hu _ (ky _)) hc];have:=aQp hm;rw[fB hi.1 hi.2] at this;rw[ko this]
 ·rw[jm,hsz];omega
 ·intro j hj;rw[rg _ G,aIa (hu _ (ky _)) hc]
  have:u[j]≠c:=λg=>by
   unfold idx at hj hi;have:=List.not_of_lt_findIdx (xs:=u) (p:=λx=>x==c) (i:=j) G;simp[g] at this
  rw[ol this];rfl
theorem aAd {f:FuncId} {fn:Func} {x y:Operand} {ts:Array TypeId} {A:AF} {m c':Nat} {u:AH} {c:Int} (hf:P.funcs[f]? =some fn) (c5:(fn.name== "runtime.NumGoroutine")=false) (hb:fn.body.isNone=true) (hn:Extern.findNext fn=none) (he:Extern.find fn=some Extern.BytealgIndexByte.indexByte)
  (hx:ev L x=some (.slice A m c')) (hy:ev L y=some (.int .u8 c)) (h:RdC B w0 R A m c' 1 (ints .u8 u)) (hu:aL u) (hc:0<=c/\c<256) (hm:c∈u):
  Ac P n B w0 (.call {callee:= .value (.func f),args:=[x,y].toArray,argTypes:=ts}) ty L R (λv R'=>v= .int .i64 (idx u c)/\R'=R):=
 UL (vs:=[.slice A m c', .int .u8 c]) (by simp[evs,hx,hy]) λw hw=>⟨_,w,R,by
  rw[Gl hf c5 hb hn he];rw[show [Value.slice A m c',Value.int .u8 c].toArray= #[.slice A m c', .int .u8 c] from rfl]
  change (Sem.run P (do
   let b<-Extern.Bytes.bytesOf (.slice A m c')
   let c<-Extern.Bytes.asByte (.int .u8 c)
   match (List.range b.size).find? λi=>b[i]! ==c with
   |some i=>pure (goInt i)
   |none=>pure (goInt (-1))) w).andThen _=_
  simp only[jl,vH (h w hw),jo,Extern.Bytes.asByte,nu,aLw hu hc hm];rfl,hw,by
  show Value.int .i64 (((idx u c).toNat:Nat):Int)=_;have:=yX hm
  rw[show(((idx u c).toNat:Nat):Int)=idx u c by omega],rfl⟩
theorem jG {x:Int} (h0:0<=x) (h:x<18446744073709551616):IntKind.u64.wrap x=x:=by
 rw[Jd];omega
theorem tQ {x:Int} (h0:0<=x) (h:x<256):IntKind.u8.wrap x=x:=by
 rw[Kb];omega
theorem aPi (x:Int) (h0:0<=x) (h1:x<18446744073709551616) (j:IntKind) (k:Nat) (hk:k<=64) (w:World):(Op.shift .shr .u64 x j (k:Int)).run P w= .ok (.int .u64 (x/2^k)) w:=by
 have hn: ¬((k:Int)<0):=G
 have hm:min (k:Int).toNat (IntKind.bits .u64)=k:=by
  have:IntKind.bits .u64=64:=rfl;omega
 have he:Int.fdiv x (2^k)=x/2^k:=Bi _ (by exact uz G);unfold Op.shift;simp only[hn,hm,he,xg];rfl
theorem bCx {x y:Operand} {t u:TypeId} {a:Int} {j:IntKind} {k:Nat} (hx:ev L x=some (.int .u64 a)) (hy:ev L y=some (.int j (k:Int))) (h0:0<=a) (h1:a<18446744073709551616) (hk:Nat.ble k 64=true):Yl P n B w0 (.binOp .shr t x y u) ty L R (.int .u64 (a/2^k)):=by
 intro a' w o ho _ hs _;simp[execOp,ho,hs.ev hx,hs.ev hy,binOp,eqGuard,aPi a h0 h1 j k (ak hk)]
end
section
variable {P:Program} {n:Nd} {B:Nat} {w0:World} {L:Env} {R:List Row} {ty:TypeId}
theorem bDa {x y:Operand} {t u:TypeId} {p q:Int} (hx:ev L x=some (.int .u64 p)) (hy:ev L y=some (.int .u64 q)) (h:0<=p+q/\p+q<18446744073709551616):Yl P n B w0 (.binOp .add t x y u) ty L R (.int .u64 (p+q)):=by
 have:=aOf (P:=P) (n:=n) (B:=B) (w0:=w0) (R:=R) (ty:=ty) (t:=t) (u:=u) hx hy;rwa[jG h.1 h.2] at this
theorem bCw {x y:Operand} {t u:TypeId} {p q:Int} (hx:ev L x=some (.int .u64 p)) (hy:ev L y=some (.int .u64 q)) (h:0<=p-q/\p-q<18446744073709551616):Yl P n B w0 (.binOp .sub t x y u) ty L R (.int .u64 (p-q)):=by
 have:=bBg (P:=P) (n:=n) (B:=B) (w0:=w0) (R:=R) (ty:=ty) (t:=t) (u:=u) hx hy;rwa[jG h.1 h.2] at this
theorem yI {x y:Operand} {t u:TypeId} {p q:Int} (hx:ev L x=some (.int .u64 p)) (hy:ev L y=some (.int .u64 q)) (h:0<=p*q/\p*q<18446744073709551616):Yl P n B w0 (.binOp .mul t x y u) ty L R (.int .u64 (p*q)):=by
 have:=bBj (P:=P) (n:=n) (B:=B) (w0:=w0) (R:=R) (ty:=ty) (t:=t) (u:=u) hx hy;rwa[jG h.1 h.2] at this
theorem II {x y:Operand} {t u:TypeId} {p q:Int} (hx:ev L x=some (.int .u64 p)) (hy:ev L y=some (.int .u64 q)) (h:0<=p/\p<18446744073709551616) (h0:0<q):Yl P n B w0 (.binOp .quo t x y u) ty L R (.int .u64 (p/q)):=by
 have:=bBh (P:=P) (n:=n) (B:=B) (w0:=w0) (R:=R) (ty:=ty) (t:=t) (u:=u) hx hy h.1 h0;have h1:p/q<=p:=Es q h.1;have h2:0<=p/q:=Gb h.1 G;rwa[jG h2 G] at this
theorem jI {x:Operand} {s d:TypeId} {j:IntKind} {p:Int} {td:TypeDesc} (eh:P.underlying s=some td) (hd:P.underlying d=some (.int .u64)) (hx:ev L x=some (.int j p)) (h:0<=p/\p<18446744073709551616:=by omega):Yl P n B w0 (.convert s d x) ty L R (.int .u64 p):=by
 have:=qF (P:=P) (n:=n) (B:=B) (w0:=w0) (R:=R) (ty:=ty) eh hd hx;rwa[jG h.1 h.2] at this
theorem gU {x:Operand} {s d:TypeId} {j:IntKind} {p:Int} {td:TypeDesc} (eh:P.underlying s=some td) (hd:P.underlying d=some (.int .u8)) (hx:ev L x=some (.int j p)):Yl P n B w0 (.convert s d x) ty L R (.int .u8 (p%256)):=by
 have:=qF (P:=P) (n:=n) (B:=B) (w0:=w0) (R:=R) (ty:=ty) eh hd hx;rwa[Kb] at this
theorem bDb {x y:Operand} {t u:TypeId} {p q:Int} (hx:ev L x=some (.int .u8 p)) (hy:ev L y=some (.int .u8 q)):Yl P n B w0 (.binOp .add t x y u) ty L R (.int .u8 ((p+q)%256)):=by
 have:=aOf (P:=P) (n:=n) (B:=B) (w0:=w0) (R:=R) (ty:=ty) (t:=t) (u:=u) hx hy;rwa[Kb] at this
theorem aPj (x m:Int) (h:0<=x*m/\x*m<18446744073709551616) (j:IntKind) (k:Nat) (hk:k<=64) (hm:(2:Int)^k=m) (w:World):(Op.shift .shl .u64 x j (k:Int)).run P w= .ok (.int .u64 (x*m)) w:=by
 have hn: ¬((k:Int)<0):=G
 have hb:min (k:Int).toNat (IntKind.bits .u64)=k:=by
  have:IntKind.bits .u64=64:=rfl;omega
 unfold Op.shift;simp only[hn,hb,xg,hm,jG h.1 h.2];rfl
theorem yH {x y:Operand} {t u:TypeId} {a m:Int} {j:IntKind} {k:Nat} (hx:ev L x=some (.int .u64 a)) (hy:ev L y=some (.int j (k:Int))) (hm:(2:Int)^k=m) (h:0<=a*m/\a*m<18446744073709551616) (hk:Nat.ble k 64=true):Yl P n B w0 (.binOp .shl t x y u) ty L R (.int .u64 (a*m)):=by
 intro a' w o ho _ hs _;simp[execOp,ho,hs.ev hx,hs.ev hy,binOp,eqGuard,aPj a m h j k (ak hk) hm]
theorem rF {x y:Operand} {t u:TypeId} {a m:Int} {j:IntKind} {k:Nat} (hx:ev L x=some (.int .u64 a)) (hy:ev L y=some (.int j (k:Int))) (hm:(2:Int)^k=m) (h:0<=a/\a<18446744073709551616) (hk:Nat.ble k 64=true):Yl P n B w0 (.binOp .shr t x y u) ty L R (.int .u64 (a/m)):=by
 have:=bCx (P:=P) (n:=n) (B:=B) (w0:=w0) (R:=R) (ty:=ty) (t:=t) (u:=u) hx hy h.1 h.2 hk;rwa[hm] at this
theorem rO {p:Int} (h:0<=p/\p<18446744073709551616):(BitVec.ofInt 64 p).toNat=p.toNat:=by
 rw[Cv];have e:((2^64:Nat):Int)=18446744073709551616:=rfl;rw[e,qj h.1 h.2]
theorem aJw (p:Int) (h:0<=p/\p<18446744073709551616) (k:Nat) (hk:k<=64) (m:Int) (hm:m=(2:Int)^k-1) (w:World):(Op.intBits .and .u64 p m).run P w= .ok (.int .u64 (p%2^k)) w:=by
 show Result.ok (Value.int .u64 (IntKind.u64.wrap ((BitVec.ofInt 64 p &&& BitVec.ofInt 64 m).toNat:Int))) w=_;have hp:(0:Int)<2^k:=Fp G
 have mw:(2:Int)^k<=2^64:=by
  have:(2:Nat)^k<=2^64:=Fy G hk
  exact_mod_cast this
 have e1:(BitVec.ofInt 64 m).toNat=2^k-1:=by
  rw[rO G,hm];have:((2:Int)^k)=((2^k:Nat):Int):=by norm_cast
  rw[this];omega
 rw[BitVec.toNat_and,rO h,e1,Eu]
 have e2:((p.toNat%2^k:Nat):Int)=p%2^k:=by
  rw[ze,lc h.1]
  norm_cast
 rw[e2];have h1:0<=p%2^k:=yw _ G;have h2:p%2^k<2^k:=vk _ hp;rw[jG h1 G]
theorem RV {x y:Operand} {t u:TypeId} {p q m:Int} (k:Nat) (hx:ev L x=some (.int .u64 p)) (hy:ev L y=some (.int .u64 q)) (hm:(2:Int)^k=m) (hq:q=m-1) (h:0<=p/\p<18446744073709551616) (hk:Nat.ble k 64=true):Yl P n B w0 (.binOp .and t x y u) ty L R (.int .u64 (p%m)):=by
 subst hm;intro a w o ho _ hs _;simp[execOp,ho,binOp,eqGuard,hs.ev hx,hs.ev hy,aJw p h k (ak hk) q hq]
theorem bDz: ∀n:Fin 256,(n.val|||128)=n.val%128+128:=by decide+kernel
theorem aXh (p:Int) (h:0<=p/\p<256) (w:World):(Op.intBits .or .u8 p 128).run P w= .ok (.int .u8 (p%128+128)) w:=by
 show Result.ok (Value.int .u8 (IntKind.u8.wrap ((BitVec.ofInt 8 p|||BitVec.ofInt 8 128).toNat:Int))) w=_
 have e1:(BitVec.ofInt 8 p).toNat=p.toNat:=by
  rw[Cv];have e:((2^8:Nat):Int)=256:=rfl;rw[e,qj h.1 h.2]
 have e2:(BitVec.ofInt 8 128).toNat=128:=cC
 rw[Ka,e1,e2];have:=bDz ⟨p.toNat,G⟩;rw[show p.toNat|||128=p.toNat%128+128 from this,tQ G G];rw[show((p.toNat%128+128:Nat):Int)=p%128+128 by omega]
theorem bGg {x y:Operand} {t u:TypeId} {p:Int} (hx:ev L x=some (.int .u8 p)) (hy:ev L y=some (.int .u8 128)) (h:0<=p/\p<256):Yl P n B w0 (.binOp .or t x y u) ty L R (.int .u8 (p%128+128)):=by
 intro a w o ho _ hs _;simp[execOp,ho,binOp,eqGuard,hs.ev hx,hs.ev hy,aXh p h]
theorem aFo (p q:Int) (k:Nat) (m:Int) (hm:(2:Int)^k=m) (h:0<=p/\p*m+q<18446744073709551616) (hq:0<=q/\q<m) (w:World):(Op.intBits .or .u64 (p*m) q).run P w= .ok (.int .u64 (p*m+q)) w:=by
 show Result.ok (Value.int .u64 (IntKind.u64.wrap ((BitVec.ofInt 64 (p*m)|||BitVec.ofInt 64 q).toNat:Int))) w=_;have hpm:0<=p*m:=Ab h.1 G;rw[Ka,rO G,rO G]
 have e1:(p*m).toNat=2^k*p.toNat:=by
  have:p*m=((2^k*p.toNat:Nat):Int):=by
   rw[Av,lc h.1,Gc,<-hm,Dn];rfl
  rw[this,bq]
 have e2:q.toNat<2^k:=by
  have:((2^k:Nat):Int)=m:=by rw[<-hm,Gc];rfl
  omega
 rw[e1,<-Gn e2,<-e1];rw[show(((p*m).toNat+q.toNat:Nat):Int)=p*m+q by omega,jG G h.2]
theorem bGe {x y:Operand} {t u:TypeId} {p q m:Int} (k:Nat) (hx:ev L x=some (.int .u64 (p*m))) (hy:ev L y=some (.int .u64 q)) (hm:(2:Int)^k=m) (h:0<=p/\p*m+q<18446744073709551616) (hq:0<=q/\q<m):Yl P n B w0 (.binOp .or t x y u) ty L R (.int .u64 (p*m+q)):=by
 intro a w o ho _ hs _;simp[execOp,ho,binOp,eqGuard,hs.ev hx,hs.ev hy,aFo p q k m hm h hq]
theorem aPh (k0:IntKind) (x m:Int) (h0:0<=x) (j:IntKind) (k:Nat) (hk:k<=k0.bits) (hm:(2:Int)^k=m) (w:World):(Op.shift .shr k0 x j (k:Int)).run P w= .ok (.int k0 (x/m)) w:=by
 have hn: ¬((k:Int)<0):=G
 have hb:min (k:Int).toNat k0.bits=k:=G
 have he:Int.fdiv x m=x/m:=Bi _ (by rw[<-hm];exact uz G);unfold Op.shift;simp only[hn,hb,hm,he,xg];rfl
theorem RS {x y:Operand} {t u:TypeId} {k0:IntKind} {a m:Int} {j:IntKind} {k:Nat} (hx:ev L x=some (.int k0 a)) (hy:ev L y=some (.int j (k:Int))) (hm:(2:Int)^k=m) (h:0<=a) (hk:Nat.ble k k0.bits=true):Yl P n B w0 (.binOp .shr t x y u) ty L R (.int k0 (a/m)):=by
 intro a' w o ho _ hs _;simp[execOp,ho,hs.ev hx,hs.ev hy,binOp,eqGuard,aPh k0 a m h j k (ak hk) hm]
theorem FT {x y:Operand} {t e:TypeId} {z:Value} {bytes m c k c2:Nat} {A A2:AF} {l l2:AH} {kk:IntKind} (ht:P.underlying t=some (.slice e)) (dq:(P.info? e).map (λi=>(i.zero,i.size,i.bytes))=some (some z,1,bytes))
  (hx:ev L x=some (.slice A m c)) (hr:RdC B w0 R A m c 1 (ints kk l)) (hy:ev L y=some (.slice A2 k c2)) (e9:RdC B w0 R A2 k c2 1 (ints kk l2)) (h0:0<m) (h1:0<k) (hg:c<m+k) (hb:m+k<=1000000) (b7:Builtin.nextslicecap (m+k) c*bytes<=281474976710656) (hz:z.cells.size=1):
  Ac P n B w0 (.call {callee:= .builtin .append,args:= #[x,y],argTypes:= #[t,t]}) ty L R (λv R'=> ∃g c',v= .slice (some ⟨g,0,none⟩) (m+k) c'/\R'=⟨e,1,some ⟨g,0,none⟩,m+k,c',ints kk (l++l2),false⟩::R):=by
 intro a w o K Q ho _ hs hp hk;obtain⟨i0,hi,yp⟩:=iy.1 dq;simp only[zz] at yp;obtain⟨wj,wk,w7⟩:=yp;have ha:=hr w hp;have rr:=e9 w hp;have wb:(ints kk l).length=m:=by have:=ha.len;omega
 have sr:(ints kk l2).length=k:=by have:=rr.len;omega
 obtain⟨ad,rfl,_⟩:=ha.at_ 0 (ints kk l)[0] (by rw[av G]);obtain⟨ae,rfl,_⟩:=rr.at_ 0 (ints kk l2)[0] (by rw[av G])
 have oa:=run_append_grow (P:=P) (w:=w) t o.type e i0 z ht hi wj ad m c (ints kk l) (by rw[wb,wk];omega) (λj v hv=>by
   obtain⟨a',nb,hc⟩:=ha.at_ j v hv;obtain rfl:=jd nb
   exact hc) ae k c2 (ints kk l2) (by rw[sr,wk];omega) (λj v hv=>by
   obtain⟨a',nb,hc⟩:=rr.at_ j v hv;obtain rfl:=jd nb
   exact hc) hg G (by rw[w7];exact b7)
 unfold Oper.wp;simp only[execOp,ho,resolve,invoke,builtin,jl,nu,jo,tq,jq,qo,hs.ev hx,hs.ev hy,oa,Oper.upon];have Fo:=grownCap_ge w (m+k) c e;have mw:=Ho w (m+k) c e (by unfold maxLen;omega)
 have ie:((ints kk l).toArray++(ints kk l2).toArray++Builtin.zeroCells z.cells (grownCap w (m+k) c e-(m+k))).size=m+k+(Builtin.zeroCells z.cells (grownCap w (m+k) c e-(m+k))).size:=by
  simp only[Array.size_append,qb,wb,sr]
 have hzs:z.cells.size=1->(Builtin.zeroCells z.cells (grownCap w (m+k) c e-(m+k))).size=grownCap w (m+k) c e-(m+k):=λh=>by
  simp[Builtin.zeroCells,h]
 have hsz:((ints kk l).toArray++(ints kk l2).toArray++Builtin.zeroCells z.cells (grownCap w (m+k) c e-(m+k))).size=grownCap w (m+k) c e:=by rw[ie,hzs hz];omega
 have nf:=(hp.drawn (w.drawn+1) G).newC ((ints kk l).toArray++(ints kk l2).toArray++Builtin.zeroCells z.cells (grownCap w (m+k) c e-(m+k))) e (m+k) (by rw[hsz];exact Fo) (by rw[hsz];exact mw)
 have w6:((ints kk l).toArray++(ints kk l2).toArray++Builtin.zeroCells z.cells (grownCap w (m+k) c e-(m+k))).toList.take (m+k)=ints kk (l++l2):=by
  rw[uu,uu];show(ints kk l++ints kk l2++_).take (m+k)=_;rw[Gi (by rw[ai,wb,sr])];simp[ints]
 rw[w6,hsz] at nf;exact hk _ _ _ nf ⟨_,_,rfl,rfl⟩
end
end Go.Eng
