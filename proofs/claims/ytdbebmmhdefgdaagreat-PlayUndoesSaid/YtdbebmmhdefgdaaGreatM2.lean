/- Own work. -/
import Derived.Lib.BytesEntry
import Derived.Lib.AppendZeros
import Derived.Lib.MakeNoZero
import Derived.Laws.Externs
import Derived.Stop.BytesEq
import Derived.LoopNIn
import Derived.Test.YtdbebmmhdefgdaaGreatM1
set_option linter.unusedVariables false
set_option linter.unusedSimpArgs false
namespace Go.Pure
open Go Go.Eng
variable {l ks order keys at_:List Int} {n:Nat} {i k c x m:Int}
theorem bI {m:List Int} (hl:l.length=m.length) (h: ∀j:Int,0<=j->j<l.length->rd l j=rd m j):l=m:=by
 apply ve hl;intro i h1 h2;have:=h i G G;unfold rd at this;rw[az,af,af,av h1,av h2] at this;exact this
theorem gH {f:Nat->Int} (h0:0<=i) (h:i<n):rd ((List.range n).map f) i=f i.toNat:=by
 unfold rd;rw[af,qo,zg G];rfl
theorem rW:rd (List.replicate n 0) i=0:=by
 unfold rd;rw[af,zk];split<;>rfl
def dR (ks:List Int) (k:Int):List Int:=(List.range k.toNat).map λc:Nat=>((ks.filter λx=>decide (x=(c:Int))).length:Int)
theorem dL (ks:List Int) (k:Int):(dR ks k).length=k.toNat:=by simp[dR]
theorem WO (k:Int):dR [] k=List.replicate k.toNat 0:=by
 unfold dR;simp only[List.filter_nil,jy];apply ve cD;intro i h1 h2;simp
theorem yK (h0:0<=c) (h:c<k):rd (dR ks k) c=((ks.filter λx=>decide (x=c)).length:Int):=by
 unfold dR;rw[gH h0 G];rw[show((c.toNat:Nat):Int)=c by omega]
theorem NU (h0:0<=x) (h:x<k):upd (dR ks k) x (rd (dR ks k) x+1)=dR (ks++[x]) k:=by
 refine bI (by rw[aV,dL,dL]) λj h1 h2=> ?_;rw[aV,dL] at h2;rw[fI h0 h1 (by rw[dL];omega),yK (ks:=ks++[x]) h1 G,qz,ah];by_cases e:j=x
 ·subst e;rw[cu rfl,yK h1 G];simp
 ·rw [bu e,yK h1 G]
  have:([x].filter λy=>decide (y=j))=[]:=by
   rw[ku (by simp;exact λh=>e h.symm)];rfl
  rw[this];simp
def bZ (cs:List Int):List Int:=(List.range cs.length).map λi:Nat=>ps cs i
theorem eB (cs:List Int):(bZ cs).length=cs.length:=by simp[bZ]
theorem mJ {cs:List Int} (h0:0<=i) (h:i<cs.length):rd (bZ cs) i=ps cs i:=by
 unfold bZ;rw[gH h0 h];rw[show((i.toNat:Nat):Int)=i by omega]
def dK (order keys:List Int) (c:Int):List Int:=order.filter λi=>decide (rd keys i=c)
def bW (order keys:List Int):Nat->List Int
 |0=>[]
 |c+1=>bW order keys c++dK order keys c
theorem kL (h:rd keys i=c):dK (order++[i]) keys c=dK order keys c++[i]:=by
 unfold dK;rw[qz,ny (by simpa using h)];rfl
theorem mP (h:rd keys i≠c):dK (order++[i]) keys c=dK order keys c:=by
 unfold dK;rw[qz,ku (by simpa using h)];simp
theorem vZ (order keys:List Int) (c:Int) (m:Nat):(dK (order.take m) keys c).length<=(dK order keys c).length:=
 ((List.take_sublist m order).filter _).length_le
theorem aJn (order keys:List Int) (h0:0<=c) (h:c<k):rd (dR (order.map (rd keys)) k) c=(dK order keys c).length:=by
 rw[yK h0 h,List.filter_map,bi];rfl
theorem BF (order keys:List Int) {k:Int}: ∀c:Nat,(c:Int)<=k->ps (dR (order.map (rd keys)) k) c=(bW order keys c).length
 |0,_=>rfl
 |c+1,h=>by
  rw[show((c+1:Nat):Int)=(c:Int)+1 by omega,lQ G (by rw[dL];omega),BF order keys c G,aJn order keys G G];rw[bW,ah];omega
theorem wW (order keys:List Int) {c d:Nat} (h:c<d):(bW order keys c).length+(dK order keys c).length<=(bW order keys d).length:=by
 induction d with
 |zero=>omega
 | succ d ih=>
  rw[bW,ah];rcases fe c d with a|a
  ·have:=ih a;omega
  ·have:c=d:=G
   subst this;omega
theorem mK {order:List Int} {k:Nat} (hk: ∀i∈order,0<=rd keys i/\rd keys i<k):(bW order keys k).Perm order:=by
 have Sn: ∀c:Nat,(bW order keys c).Perm (order.filter λi=>decide (0<=rd keys i/\rd keys i<c)):=by
  intro c
  induction c with
  | zero=>
   have:(order.filter λi=>decide (0<=rd keys i/\rd keys i<(0:Nat)))=[]:=by
    rw[List.filter_eq_nil_iff];intro i _;simp only[yz];omega
   rw[this];exact .refl _
  | succ c ih=>
   rw[bW];refine(ih.append_right _).trans ?_;unfold dK
   have e:order.filter (λi=>decide (rd keys i=(c:Int)))=(order.filter λi=>decide (0<=rd keys i/\rd keys i<(c+1:Nat))).filter (λi=> ! decide (0<=rd keys i/\rd keys i<(c:Int))):=by
    rw[List.filter_filter];refine List.filter_congr λi _=> ?_;by_cases h:rd keys i=(c:Int)
    ·rw [lh h,lh (show 0<=rd keys i/\rd keys i<((c+1:Nat):Int) by omega),ol (show¬(0<=rd keys i/\rd keys i<(c:Int)) by omega)];rfl
    ·rw [ol h];by_cases h2:0<=rd keys i/\rd keys i<(c:Int)
     ·rw[lh h2];simp
     ·rw[ol (show¬(0<=rd keys i/\rd keys i<((c+1:Nat):Int)) by omega)];simp
   have e2:order.filter (λi=>decide (0<=rd keys i/\rd keys i<(c:Nat)))=(order.filter λi=>decide (0<=rd keys i/\rd keys i<(c+1:Nat))).filter (λi=>decide (0<=rd keys i/\rd keys i<(c:Int))):=by
    rw[List.filter_filter];refine List.filter_congr λi _=> ?_;by_cases h2:0<=rd keys i/\rd keys i<(c:Int)
    ·rw[lh h2,lh (show 0<=rd keys i/\rd keys i<((c+1:Nat):Int) by omega)];rfl
    ·rw[ol h2];rfl
   rw[e,e2];exact List.filter_append_perm _ _
 have:=Sn k;rwa[Eg.2 (λi hi=>by rw[ii];exact hk i hi)] at this
theorem TW {order keys l:List Int}: ∀k:Nat,(bW order keys k).length<=l.length->(∀c:Nat,c<k-> ∀t:Nat,t<(dK order keys c).length->rd l ((bW order keys c).length+t)=rd (dK order keys c) t)->l.take (bW order keys k).length=bW order keys k
 |0,_,_=>rfl
 |k+1,hl,h=>by
  have ih:=TW (order:=order) (keys:=keys) (l:=l) k (by rw[bW,ah] at hl;omega) λc hc=>h c G;rw[bW,ah] at hl ⊢;rw[Gs,ih];congr 1;refine bI (by rw[ax,bg];omega) λj h1 h2=> ?_;rw[ax,bg] at h2;have:=h k G j.toNat G;rw[show((j.toNat:Nat):Int)=j by omega] at this;rw[<-this];unfold rd;rw[af,af,oh,cu G,qc];congr 2;omega
structure AA (order keys at_ l:List Int) (k:Int) (m:Int):Prop where
 len:l.length=order.length
 alen:at_.length=k.toNat
 at_: ∀c:Int,0<=c->c<k->rd at_ c=(bW order keys c.toNat).length+(dK (order.take m.toNat) keys c).length
 row: ∀c:Int,0<=c->c<k-> ∀t:Int,0<=t->t<(dK (order.take m.toNat) keys c).length->rd l ((bW order keys c.toNat).length+t)=rd (dK (order.take m.toNat) keys c) t
theorem ZG:AA order keys (bZ (dR (order.map (rd keys)) k)) (List.replicate order.length 0) k 0:=by
 refine⟨cD,by rw[eB,dL],λc h0 h=> ?_,λc _ _ t _ ht=> ?_⟩
 ·rw [mJ h0 (by rw[dL];omega)];have:=BF order keys (k:=k) c.toNat G;rw[show((c.toNat:Nat):Int)=c by omega] at this;rw[this];simp[dK]
 ·simp [dK] at ht;omega
theorem vL {order:List Int} (hk: ∀i∈order,0<=rd keys i/\rd keys i<k):(bW order keys k.toNat).length=order.length:=(mK (k:=k.toNat) λi hi=>by have:=hk i hi;omega).length_eq
theorem AA.lt {order:List Int} (h:AA order keys at_ l k m) (hk: ∀i∈order,0<=rd keys i/\rd keys i<k) (h0:0<=m) (hm:m<order.length):0<=rd at_ (rd keys (rd order m))/\rd at_ (rd keys (rd order m))<l.length:=by
 have hi:=hk _ (bH h0 hm);rw[h.at_ _ hi.1 hi.2,h.len];have e:order.take (m+1).toNat=order.take m.toNat++[rd order m]:=dD h0 hm;have h1:=vZ order keys (rd keys (rd order m)) (m+1).toNat;rw[e,kL rfl,ah,ic] at h1;have h2:=wW order keys (c:=(rd keys (rd order m)).toNat) (d:=k.toNat) G;rw[vL hk,show(((rd keys (rd order m)).toNat:Nat):Int)=rd keys (rd order m) by omega] at h2;omega
theorem AA.step {order:List Int} (h:AA order keys at_ l k m) (hk: ∀i∈order,0<=rd keys i/\rd keys i<k) (h0:0<=m) (hm:m<order.length):AA order keys (upd at_ (rd keys (rd order m)) (rd at_ (rd keys (rd order m))+1)) (upd l (rd at_ (rd keys (rd order m))) (rd order m)) k (m+1):=by
 have hi:=hk _ (bH h0 hm);have aw:=h.lt hk h0 hm;have e:order.take (m+1).toNat=order.take m.toNat++[rd order m]:=dD h0 hm;have pi:=h.at_ _ hi.1 hi.2;refine⟨by rw[aV];exact h.len,by rw[aV];exact h.alen,λc c0 c1=> ?_,λc c0 c1 t t0 t1=> ?_⟩
 ·rw [fI hi.1 c0 (by rw[h.alen];omega),e];by_cases hc:c=rd keys (rd order m)
  ·rw [cu hc,pi,kL hc.symm,ah,hc];simp only[ic];omega
  ·rw[bu hc,h.at_ c c0 c1,mP λh=>hc h.symm]
 ·rw [e] at t1 ⊢;have Ip: ∀c:Int,(dK (order.take m.toNat++[rd order m]) keys c).length<=(dK order keys c).length:=λc=>by rw[<-e];exact vZ _ _ _ _
  rw[fI aw.1 G aw.2,pi];by_cases hc:c=rd keys (rd order m)
  ·subst hc;rw[kL rfl] at t1 ⊢;rw[ah,ic] at t1;by_cases ht:t=(dK (order.take m.toNat) keys (rd keys (rd order m))).length
   ·rw[cu G,KP ht]
   ·rw [bu G,GI t0 G];exact h.row _ c0 c1 t t0 G
  ·rw [mP λh=>hc h.symm] at t1 ⊢;rw[bu,h.row c c0 c1 t t0 t1];intro b6;have f1:=Ip c;rw[mP λh=>hc h.symm] at f1;have f2:=Ip (rd keys (rd order m));rw[kL rfl,ah,ic] at f2;rcases Int.lt_or_lt_of_ne hc with a|a
   ·have:=wW order keys (c:=c.toNat) (d:=(rd keys (rd order m)).toNat) G;rw[show((c.toNat:Nat):Int)=c by omega] at this;omega
   ·have:=wW order keys (c:=(rd keys (rd order m)).toNat) (d:=c.toNat) G;rw[show(((rd keys (rd order m)).toNat:Nat):Int)=rd keys (rd order m) by omega] at this;omega
theorem AA.done {order:List Int} (h:AA order keys at_ l k m) (hk: ∀i∈order,0<=rd keys i/\rd keys i<k) (hm:m=order.length):l=bW order keys k.toNat:=by
 have ht:order.take m.toNat=order:=bn G
 have:=TW (order:=order) (keys:=keys) (l:=l) k.toNat (by rw[vL hk,h.len];exact dh _) λc hc t Sa=>by
  have hr:=h.row c G G t G;rw[ht] at hr;exact hr G
 rw[vL hk,<-h.len,ul] at this;exact this
theorem fV {order keys:List Int} {r:Int->Int->Prop} (ho:order.Pairwise r): ∀k:Nat,(bW order keys k).Pairwise λx y=>rd keys x<rd keys y\/rd keys x=rd keys y/\r x y
 |0=> .nil
 | k +1=>by
  rw[bW];refine pq.2 ⟨fV ho k,?_,λx hx y hy=> ?_⟩
  ·refine ((ho.sublist (rz ..)).imp_of_mem λ{x y} hx hy h=> ?_:(dK order keys k).Pairwise _);have h1:=(mo.1 hx).2;have h2:=(mo.1 hy).2;rw[ii] at h1 h2;exact .inr ⟨G,h⟩
  ·have h2:=(mo.1 hy).2;rw[ii] at h2
   have: ∀c:Nat,∀z∈bW order keys c,rd keys z<c:=by
    intro c
    induction c with
    |zero=>intro z hz;cases hz
    | succ c ih=>
     intro z hz;rw[bW] at hz;rcases fw.1 hz with hz|hz
     ·have:=ih z hz;omega
     ·have h3:=(mo.1 hz).2;rw[ii] at h3;omega
   have:=this k x hx;exact .inl G
theorem JH:0<=rd (dR ks k) x/\rd (dR ks k) x<=ks.length:=by
 by_cases h:x.toNat<k.toNat
 ·have e:rd (dR ks k) x=((ks.filter λy=>decide (y=(x.toNat:Int))).length:Int):=by
   unfold rd dR;rw[af,qo,zg h];rfl
  have:=yj (λy=>decide (y=(x.toNat:Int))) ks;omega
 ·have e:rd (dR ks k) x=0:=by
   unfold rd;rw[af,ll (by rw[dL];omega)];rfl
  omega
theorem wQ: ∀ {L:List Int},(∀x∈L,0<=x)->0<=L.sum
 |[],_=>cD
 |x::L,h=>by
  have a:=h x cD;have b:=wQ (L:=L) λy hy=>h y (dw _ hy);rw[xg];omega
theorem uB {L:List Int} (h: ∀x∈L,0<=x) (k:Int):0<=ps L k/\ps L k<=L.sum:=by
 have e:L.sum=(L.take k.toNat).sum+(L.drop k.toNat).sum:=by rw[<-Bq,gq]
 have a:=wQ (L:=L.take k.toNat) λy hy=>h y (lu hy);have b:=wQ (L:=L.drop k.toNat) λy hy=>h y (pg hy);unfold ps;omega
theorem lD (ks:List Int) (k:Int): ∀x∈dR ks k,0<=x:=by
 intro x hx;obtain⟨c,_,rfl⟩:=il.1 hx;omega
theorem JG {order:List Int} (h0:0<=k) (hk: ∀i∈order,0<=rd keys i/\rd keys i<k):(dR (order.map (rd keys)) k).sum=order.length:=by
 have:=BF order keys (k:=k) k.toNat G;rw[ZE (by rw[dL];omega),vL hk] at this;exact this
theorem eG {V:List Int} {f:Int->Int} {v:Int} (h0:0<=i) (hi:i<V.length) (h: ∀j:Int,0<=j->j<i->rd V j=f j) (hv:v=f i): ∀j:Int,0<=j->j<i+1->rd (upd V i v) j=f j:=by
 intro j j0 j1;rw[fI h0 j0 hi];by_cases e:j=i
 ·rw[cu e,e,hv]
 ·rw [bu e];exact h j j0 G
variable {n i k b h:Nat} {x y:Int} {s out:List Int}
def iota (n:Nat):List Int:=(List.range n).map λi:Nat=>(i:Int)
theorem bF (n:Nat):(iota n).length=n:=by simp[iota]
theorem aW:x∈iota n↔0<=x/\x<n:=by
 unfold iota;rw[il];constructor
 ·rintro ⟨i,hi,rfl⟩;have:=ji.1 hi;omega
 ·intro h;exact⟨x.toNat,ji.2 G,G⟩
theorem aIc {n:Int} (h:0<=n):iota (n+1).toNat=iota n.toNat++[n]:=by
 unfold iota;rw[show(n+1).toNat=n.toNat+1 by omega,yo,jh];simp only[kv,qi];rw[show((n.toNat:Nat):Int)=n by omega]
theorem ZZ (n:Nat):(iota n).map Int.toNat=List.range n:=by
 unfold iota;rw[xz];have:(Int.toNat ∘ λi:Nat=>(i:Int))=id:=by funext i;simp
 rw[this,List.map_id]
def bU (s:List Int) (x y:Int):Prop:=LtH s.length (eu s x.toNat) (eu s y.toNat)
theorem fC (x y:Int) (h:bU s x y): ¬bU s y x:=h.asymm
theorem IB (x y z:Int) (h:bU s x y) (h':bU s y z):bU s x z:=LtH.trans h h'
theorem aAj (hi:i<s.length) (hk:k<s.length) (h:EqH s.length (eu s i) (eu s k)):i=k:=by
 rcases wo i k with a|a|a
 ·have:=h (s.length-k) G;rw[iG (s:=s) (i:=k) G] at this;have:=qI (s:=s) (i:=i) (d:=s.length-k) G;omega
 ·exact a
 ·have:=h (s.length-i) G;rw[iG (s:=s) (i:=i) G] at this;have:=qI (s:=s) (i:=k) (d:=s.length-i) G;omega
theorem IA (hx:0<=x/\x<s.length) (hy:0<=y/\y<s.length) (h:x≠y):bU s x y\/bU s y x:=by
 rcases tri s.length (eu s x.toNat) (eu s y.toNat) with a|a|a
 ·exact .inl a
 ·have:=aAj G G a;omega
 ·exact .inr a
theorem gX:cmpL (s.drop x.toNat) (s.drop y.toNat)<0↔bU s x y:=by
 unfold bU;rw[<-uP];unfold rF;rw[bn (by rw[bg];omega),bn (by rw[bg];omega)]
theorem ZK {a b:List Int} (ha:a.Perm (iota s.length)) (hb:b.Perm (iota s.length)) (sa:a.Pairwise (bU s)) (sb:b.Pairwise (bU s)):a=b:=
 BH fC (ha.trans hb.symm) sa sb
theorem yE (hi:i<s.length):rkS s h i<s.length:=by
 have:rkS s h i<(List.range s.length).countP λ_=>true:=qK (λ_ _ _=>rfl) ⟨i,ji.2 hi,by rw[uf,uP];exact λh=>h.asymm h,rfl⟩;simpa using this
theorem aTr (hi:i<s.length) (hk:k<s.length) (h:rkS s s.length i=rkS s s.length k):i=k:=aAj hi hk ((aDf hi hk).1 h)
theorem aDe {o:List Int} {i:Int} (hp:o.Perm (iota s.length)) (hs:o.Pairwise λx y=>rkS s h x.toNat<=rkS s h y.toNat) (h0:0<=i) (hi:i<o.length) (Lf:0<i->rkS s h (rd o (i-1)).toNat≠rkS s h (rd o i).toNat):(rkS s h (rd o i).toNat:Int)=i:=by
 have ie: ∀j:Nat,∀h:j<(o.map Int.toNat).length,(o.map Int.toNat)[j]=(rd o j).toNat:=λj h=>by
  rw[bi] at h;unfold rd;rw[az,af,av h];simp
 have hl:i.toNat<(o.map Int.toNat).length:=by rw[bi];omega
 have bw:(o.map Int.toNat).Perm (List.range s.length):=by
  have:=hp.map Int.toNat;rwa[ZZ] at this
 have:=aZj (s:=s) (h:=h) (o:=o.map Int.toNat) (i:=i.toNat) bw (ik.2 hs) hl λhz=>by
  rw[ie _ G,ie _ hl];have:=Lf G;rwa[show((i.toNat-1:Nat):Int)=i-1 by omega,show((i.toNat:Nat):Int)=i by omega]
 rw[ie _ hl,show((i.toNat:Nat):Int)=i by omega] at this;omega
theorem places {b:List Int} (hp:b.Perm (iota s.length)) (hs:b.Pairwise (bU s)) (hl:out.length=s.length) (h: ∀i:Nat,i<s.length->rd out (rkS s s.length i)=i):out=b:=by
 have xt:b.length=s.length:=by rw[hp.length_eq,bF]
 refine bI (hl.trans xt.symm) λj h0 h1=> ?_;have hm: ∀q:Int,0<=q->q<b.length->0<=rd b q/\rd b q<s.length:=λq a c=>aW.1 (hp.subset (bH a c))
 have mj:b.Pairwise λx y=>rkS s s.length x.toNat<=rkS s s.length y.toNat:=hs.imp_of_mem λ{x y} hx hy h=>by
  have:=aW.1 (hp.subset hx);exact Nat.le_of_lt ((tY G).2 h)
 have aw: ∀q:Int,0<q->q<b.length->bU s (rd b (q-1)) (rd b q):=λq a c=>by
  have:=di.1 hs (q-1).toNat q.toNat G G G;unfold rd;rw[af,af,av G,av G];exact this
 have hr:=aDe (i:=j) hp mj h0 G λhz=>by
  have:=(tY (by have:=hm (j-1) G G;omega)).2 (aw j hz G);omega
 have hj:=hm j h0 G;have:=h (rd b j).toNat G;rw[hr] at this;rw[this];omega
theorem TM {m:Nat} (hm:m<s.length) (hl:out.length=s.length) (h: ∀i:Nat,i<m->rd out (rkS s s.length i)=i): ∀i:Nat,i<m+1->rd (upd out (rkS s s.length m) m) (rkS s s.length i)=i:=by
 intro i hi;have ht:=yE (h:=s.length) hm;rw[fI G G G];by_cases e:i=m
 ·subst e;rw[cu rfl]
 ·rw[bu λhh=>e (aTr G hm G),h i G]
theorem aZi (hi:i<s.length):rkS s 1 i=s.countP λx=>decide (x<lt s i):=by
 unfold rkS
 have e: ∀k,k<s.length->rF s k 1=[lt s k]:=λk hk=>by
  unfold rF;rw[jw hk,Eh,xk];unfold lt;rw[af,av hk];rfl
 have h1:(List.range s.length).countP (λk=>decide (cmpL (rF s k 1) (rF s i 1)<0))=(List.range s.length).countP ((λx=>decide (x<lt s i)) ∘ lt s):=by
  refine Fs λk hk=> ?_;rw[e k (ji.1 hk),e i hi];show decide (cmpL [lt s k] [lt s i]<0)=true↔decide (lt s k<lt s i)=true;rw[ii,ii];simp only[cmpL];by_cases a:lt s k<lt s i
  ·rw [cu a];exact⟨λ_=>a,λ_=>G⟩
  ·rw [bu a];by_cases b:lt s i<lt s k
   ·rw [cu b];exact⟨λh=>G,λh=>absurd h a⟩
   ·rw [bu b];exact⟨λh=>G,λh=>absurd h a⟩
 rw[h1,<-List.countP_map];congr 1;apply ve cD;intro k h1 h2;simp[lt,af,av h2]
def rkL (s:List Int) (h:Nat):List Int:=(List.range s.length).map λi=>(rkS s h i:Int)
theorem yG (s:List Int) (h:Nat):(rkL s h).length=s.length:=by simp[rkL]
theorem pE {i:Int} (h0:0<=i) (hi:i<s.length):rd (rkL s h) i=rkS s h i.toNat:=gH h0 G
def onL (s:List Int) (n b:Nat):List Int:=(List.range s.length).map λi=>(qR s n (i+b):Int)
theorem aDu (s:List Int) (n b:Nat):(onL s n b).length=s.length:=by simp[onL]
theorem tZ {i:Int} (h0:0<=i) (hi:i<s.length):rd (onL s n b) i=qR s n (i.toNat+b):=gH h0 G
theorem aDg:qR s n i<=s.length:=by
 unfold qR;split
 ·rename_i h;have:=yE (h:=n) h;omega
 ·omega
def cB (s:List Int) (n b:Nat):List Int:=bW (bW (iota s.length) (onL s n b) (s.length+1)) (rkL s n) s.length
theorem sF (s:List Int) (n b:Nat):(bW (iota s.length) (onL s n b) (s.length+1)).Perm (iota s.length):=
 mK λi hi=>by
  have:=aW.1 hi;rw[tZ this.1 this.2];have:=aDg (s:=s) (n:=n) (i:=i.toNat+b);omega
theorem fD (s:List Int) (n b:Nat):(cB s n b).Perm (iota s.length):=
 (mK λi hi=>by
  have:=aW.1 ((sF s n b).subset hi);rw[pE this.1 this.2];have:=yE (s:=s) (h:=n) (i:=i.toNat) G
  omega).trans (sF s n b)
theorem DC (hn:0<n) (hb:b<=n):(cB s n b).Pairwise λx y=>rkS s (n+b) x.toNat<=rkS s (n+b) y.toNat:=by
 have h1:(bW (iota s.length) (onL s n b) (s.length+1)).Pairwise λx y=>rd (onL s n b) x<rd (onL s n b) y\/rd (onL s n b) x=rd (onL s n b) y/\True:=
  fV (r:=λ_ _=>True) (List.pairwise_of_forall λ_ _=>trivial) _
 have h2:=fV (keys:=rkL s n) h1 s.length;refine h2.imp_of_mem λ{x y} hx hy h=> ?_;have mx:=aW.1 ((fD s n b).subset hx);have my:=aW.1 ((fD s n b).subset hy);rw[pE mx.1 mx.2,pE my.1 my.2,tZ mx.1 mx.2,tZ my.1 my.2] at h;refine Hr.1 λaw=> ?_;rw[YR hn hb G G] at aw;omega
theorem join_step {i v:Int} (hn:0<n) (hb:b<=n) (h0:0<=i) (hi:i<s.length) (hl:out.length=s.length) (h: ∀p:Int,0<=p->p<i->rd out (rd (cB s n b) p)=rkS s (n+b) (rd (cB s n b) p).toNat)
  (hv:(0<i/\rd (rkL s n) (rd (cB s n b) (i-1))=rd (rkL s n) (rd (cB s n b) i)/\rd (onL s n b) (rd (cB s n b) (i-1))=rd (onL s n b) (rd (cB s n b) i)/\v=rkS s (n+b) (rd (cB s n b) (i-1)).toNat)\/
   (¬(0<i/\rd (rkL s n) (rd (cB s n b) (i-1))=rd (rkL s n) (rd (cB s n b) i)/\rd (onL s n b) (rd (cB s n b) (i-1))=rd (onL s n b) (rd (cB s n b) i))/\v=i)):
  ∀p:Int,0<=p->p<i+1->rd (upd out (rd (cB s n b) i) v) (rd (cB s n b) p)=rkS s (n+b) (rd (cB s n b) p).toNat:=by
 have hlen:(cB s n b).length=s.length:=by rw[(fD s n b).length_eq,bF]
 have hm: ∀q:Int,0<=q->q<s.length->0<=rd (cB s n b) q/\rd (cB s n b) q<s.length:=λq a c=>aW.1 ((fD s n b).subset (bH a G))
 have hnd:(cB s n b).Nodup:=(fD s n b).symm.nodup (by
  unfold iota
  exact ik.2 (vk.imp λ{x y} h hh=>h G))
 have hval:v=rkS s (n+b) (rd (cB s n b) i).toNat:=by
  have mi:=hm i h0 hi;rcases hv with⟨hz,e1,e2,e3⟩|⟨nj,e3⟩
  ·have mp:=hm (i-1) G G;rw[pE mp.1 mp.2,pE mi.1 mi.2] at e1;rw[tZ mp.1 mp.2,tZ mi.1 mi.2] at e2;rw[e3];have:=(FY (s:=s) (n:=n) (b:=b) (i:=(rd (cB s n b) (i-1)).toNat) (k:=(rd (cB s n b) i).toNat) hn hb G G).2 ⟨G,G⟩;omega
  ·rw [e3];refine(aDe (fD s n b) (DC hn hb) h0 G λhz he=>nj ⟨hz,?_⟩).symm;have mp:=hm (i-1) G G;have:=(FY (s:=s) (n:=n) (b:=b) (i:=(rd (cB s n b) (i-1)).toNat) (k:=(rd (cB s n b) i).toNat) hn hb G G).1 he;rw[pE mp.1 mp.2,pE mi.1 mi.2,tZ mp.1 mp.2,tZ mi.1 mi.2];exact⟨G,G⟩
 intro p p0 p1;have mi:=hm i h0 hi;have mp:=hm p p0 G;rw[fI mi.1 mp.1 G];by_cases e:p=i
 ·subst e;rw[cu rfl,hval]
 ·rw [bu,h p p0 G];intro he;have bw:p.toNat<(cB s n b).length:=G
  have Is:i.toNat<(cB s n b).length:=G
  unfold rd at he;rw[af,af,av bw,av Is] at he;simp only[mh] at he;exact(di.1 hnd p.toNat i.toNat bw Is G) he
theorem aIa (hl:out.length=s.length) (h: ∀p:Int,0<=p->p<s.length->rd out (rd (cB s n b) p)=rkS s (n+b) (rd (cB s n b) p).toNat):out=rkL s (n+b):=by
 refine bI (hl.trans (yG _ _).symm) λj h0 h1=> ?_;have jt:=(fD s n b).symm.subset (aW.2 ⟨h0,G⟩:j∈iota s.length);obtain⟨q,hq,e⟩:=gz.1 jt;have hlen:(cB s n b).length=s.length:=by rw[(fD s n b).length_eq,bF]
 have:=h q G G
 have e2:rd (cB s n b) q=j:=by
  unfold rd;rw[az,af,av hq];exact e
 rw[e2] at this;rw[this,pE h0 G]
def onF (l:List Int) (i h:Int):Int:=if (l.length:Int)<=i+h then 0 else rd l (i+h)+1
theorem aZy {s:List Int} {n b:Nat} {i:Int} (h0:0<=i) (hi:i<s.length):onF (rkL s n) i b=qR s n (i.toNat+b):=by
 unfold onF qR;rw[yG];by_cases h:(s.length:Int)<=i+b
 ·rw [cu h,bu G];rfl
 ·rw [bu h,cu G,pE G G,show(i+(b:Int)).toNat=i.toNat+b by omega];rfl
theorem aMk {s:List Int} {h:Nat}: ∀x∈rkL s h,0<=x/\x<s.length:=by
 intro x hx;obtain⟨i,hi,rfl⟩:=il.1 hx;have:=yE (h:=h) (ji.1 hi);omega
theorem aZx {s:List Int} {n b:Nat}: ∀x∈onL s n b,0<=x/\x<(s.length:Int)+1:=by
 intro x hx;obtain⟨i,hi,rfl⟩:=il.1 hx;have:=aDg (s:=s) (n:=n) (i:=i+b);omega
theorem aEf {O:List Int} {n:Nat} (hl:O.length=n) (h: ∀j:Int,0<=j->j<n->rd O j=j):O=iota n:=by
 refine bI (by rw[hl,bF]) λj h0 h1=> ?_;rw[h j h0 G];unfold iota;rw[gH h0 G];omega
theorem aZw {s O:List Int} {n b:Nat} (hl:O.length=s.length) (h: ∀j:Int,0<=j->j<s.length->rd O j=qR s n (j.toNat+b)):O=onL s n b:=by
 refine bI (by rw[hl,aDu]) λj h0 h1=> ?_;rw[h j h0 G,tZ h0 G]
theorem NG (s:List Int) (n b:Nat):(cB s n b).length=s.length:=by rw[(fD s n b).length_eq,bF]
theorem fE {s:List Int} {n b:Nat} {p:Int} (h0:0<=p) (h:p<s.length):0<=rd (cB s n b) p/\rd (cB s n b) p<s.length:=
 aW.1 ((fD s n b).subset (bH h0 (by rw[NG];exact h)))
theorem aIb {s:List Int} {n b:Nat} {p q:Int} (p0:0<=p) (p1:p<s.length) (q0:0<=q) (q1:q<s.length) (h:rd (cB s n b) p=rd (cB s n b) q):p=q:=by
 have hl:=NG s n b
 have hnd:(cB s n b).Nodup:=(fD s n b).symm.nodup (by
  unfold iota
  exact ik.2 (vk.imp λ{x y} h hh=>h G))
 have hp:p.toNat<(cB s n b).length:=G
 have hq:q.toNat<(cB s n b).length:=G
 unfold rd at h;rw[af,af,av hp,av hq] at h;simp only[mh] at h;rcases ja p q with a|a|a
 ·exact absurd h (di.1 hnd p.toNat q.toNat hp hq G)
 ·exact a
 ·exact absurd h.symm (di.1 hnd q.toNat p.toNat hq hp G)
theorem aSq {l:List Int} {i a b:Int}:upd (upd l i a) i b=upd l i b:=by simp[upd]
section
variable {s V:List Int} {n b:Nat} {p:Int}
theorem ZY (hn:0<n) (hb:b<=n) (h0:0<=p) (hp:p<s.length) (hl:V.length=s.length) (h: ∀q:Int,0<=q->q<p->rd V (rd (cB s n b) q)=rkS s (n+b) (rd (cB s n b) q).toNat)
  (hc: ¬((0<p/\rd (rkL s n) (rd (cB s n b) (p-1))=rd (rkL s n) (rd (cB s n b) p))/\rd (onL s n b) (rd (cB s n b) (p-1))=rd (onL s n b) (rd (cB s n b) p))):
  ∀q:Int,0<=q->q<p+1->rd (upd V (rd (cB s n b) p) p) (rd (cB s n b) q)=rkS s (n+b) (rd (cB s n b) q).toNat:=
 join_step hn hb h0 hp hl h (.inr ⟨λ⟨a,c,d⟩=>hc ⟨⟨a,c⟩,d⟩,rfl⟩)
theorem aHz (hn:0<n) (hb:b<=n) (h0:0<=p) (hp:p<s.length) (hl:V.length=s.length) (h: ∀q:Int,0<=q->q<p->rd V (rd (cB s n b) q)=rkS s (n+b) (rd (cB s n b) q).toNat)
  (hc:(0<p/\rd (rkL s n) (rd (cB s n b) (p-1))=rd (rkL s n) (rd (cB s n b) p))/\rd (onL s n b) (rd (cB s n b) (p-1))=rd (onL s n b) (rd (cB s n b) p)):
  ∀q:Int,0<=q->q<p+1->rd (upd (upd V (rd (cB s n b) p) p) (rd (cB s n b) p) (rd (upd V (rd (cB s n b) p) p) (rd (cB s n b) (p-1)))) (rd (cB s n b) q)=rkS s (n+b) (rd (cB s n b) q).toNat:=by
 obtain⟨⟨a,c⟩,d⟩:=hc;have m1:=fE (s:=s) (n:=n) (b:=b) h0 hp;have m2:=fE (s:=s) (n:=n) (b:=b) (p:=p-1) G G;rw[aSq,fI m1.1 m2.1 G,bu λe=>by have:=aIb G G h0 hp e;omega];exact join_step hn hb h0 hp hl h (.inl ⟨a,c,d,h (p-1) G G⟩)
end
theorem aTp (s:List Int) (i:Nat):rkS s 0 i=0:=by
 unfold rkS;rw[Bf];intro k _;simp[rF,cmpL]
theorem aMi (s:List Int):rkL s 0=List.replicate s.length 0:=by
 unfold rkL;apply ve cD;intro i h1 h2;simp[aTp]
theorem aZk {s:List Int} {h:Nat} (hh:s.length<=h):rkL s h=rkL s s.length:=by
 have e: ∀k,rF s k h=rF s k s.length:=λk=>by
  unfold rF;rw[bn (by rw[bg];omega),bn (by rw[bg];omega)]
 unfold rkL rkS;simp only[e]
theorem aMj {s:List Int} (h:s.length=0) (a b:Nat):rkL s a=rkL s b:=by
 unfold rkL;rw[h];rfl
theorem eT (n:Nat):(iota n).Nodup:=by
 unfold iota;exact ik.2 (vk.imp λ{x y} h hh=>h G)
theorem nW (s:List Int): ∃b:List Int,b.Perm (iota s.length)/\b.Pairwise (bU s):=by
 rcases dx s.length with z|z
 ·rw [z];exact⟨[], .refl _, .nil⟩
 ·refine ⟨cB s s.length 0,fD s _ 0,?_⟩;have h1:=DC (s:=s) (n:=s.length) (b:=0) z (uh _);have h2:(cB s s.length 0).Nodup:=(fD s _ 0).symm.nodup (eT _);refine(h1.and h2).imp_of_mem λ{x y} hx hy h=> ?_;have mx:=aW.1 ((fD s _ 0).subset hx);have my:=aW.1 ((fD s _ 0).subset hy);rcases IA mx my h.2 with a|a
  ·exact a
  ·exfalso;have:=(tY (s:=s) (h:=s.length) (i:=y.toNat) (k:=x.toNat) G).2 a;have:=h.1;simp only[qa] at this;omega
end Go.Pure
namespace Go.Eng
open Go Go.RowKit
def bools (l:List Bool):List Value:=l.map Value.bool
def rdb (l:List Bool) (i:Int):Bool:=l.getD i.toNat false
def oO (l:List Bool) (i:Int) (v:Bool):List Bool:=l.set i.toNat v
theorem QJ (l:List Bool):(bools l).length=l.length:=by simp[bools]
theorem aJx (l:List Bool) (i:Int) (v:Bool):(bools l).set i.toNat (.bool v)=bools (oO l i v):=by simp[bools,oO,List.map_set]
theorem aRp {l:List Bool} {i:Int} (h0:0<=i) (h:i<l.length):(bools l)[i.toNat]? =some (.bool (rdb l i)):=by
 have hl:i.toNat<l.length:=G
 simp[bools,rdb,af,av hl]
theorem aGv (m:Nat) (x:Bool):List.replicate m (Value.bool x)=bools (List.replicate m x):=by simp[bools]
theorem kF (l:List Bool) (i:Int) (v:Bool):(oO l i v).length=l.length:=by simp[oO]
theorem vI {l:List Bool} {i j:Int} {v:Bool} (h0:0<=i) (h:i<l.length) (j0:0<=j):rdb (oO l i v) j=if j=i then v else rdb l j:=by
 unfold rdb oO;rw[af,vw,af];by_cases e:j=i
 ·subst e;rw[cu rfl,cu G,cu rfl];rfl
 ·rw[bu G,bu e]
theorem EJ (m:Nat) (i:Int):rdb (List.replicate m false) i=false:=by
 unfold rdb;rw[af,zk];split<;>rfl
theorem aJy {l m:List Bool} (hl:l.length=m.length) (h: ∀i:Int,0<=i->i<l.length->rdb l i=rdb m i):l=m:=by
 apply ve hl;intro i h1 h2;have:=h i G G;simpa [rdb,af,av h1,av h2] using this
section
variable {P:Program} {n:Nd} {B:Nat} {w0:World} {L:Env} {R:List Row} {ty:TypeId}
theorem Rd.lenB {w:World} {A:Option Addr} {m c:Nat} {l:List Bool} (h:Rd w A m c 1 (bools l)):m=l.length:=by
 have:=h.len;rw[QJ] at this;omega
theorem CF {x:Operand} {t:TypeId} {d:TypeDesc} {A:Option Addr} {m c:Nat} {l:List Bool} {i:Int} (hu:P.underlying t=some d) (hd:BZ d=false) (hx:ev L x=some (.pointer (pat A i.toNat))) (hr:RdC B w0 R A m c 1 (bools l)) (h0:0<=i:=by omega) (h1:i<m:=by omega):
  Yl P n B w0 (.load t x) ty L R (.bool (decide (rdb l i=true))):=by
 intro a w o ho xo hs hw;have hl:=(hr w hw).lenB;rw[show decide (rdb l i=true)=rdb l i by cases rdb l i<;>rfl];exact AB hu hd hx rfl hr (aRp h0 G) a w o ho xo hs hw
theorem uS {x y:Operand} {t e:TypeId} {j:Int} {v:Bool} {A:Option Addr} {m c:Nat} {l:List Bool} (i:Nat) (hi:R[i]? =some ⟨e,1,A,m,c,bools l,false⟩) (ee:(P.info? t).map (·.size)=some 1) (hx:ev L x=some (.pointer (pat A j.toNat))) (hy:ev L y=some (.bool v)) (h0:0<=j:=by omega) (h1:j<m:=by omega):
  Ac P n B w0 (.store t x y) ty L R (λ_ R'=>R'=R.set i ⟨e,1,A,m,c,bools (oO l j v),false⟩):=by
 intro a w o K Q ho xo hs hp hk;have du:=Row.lies_w (hp.own _ (ek hi)) rfl;have ie:=Row.rd (hp.own _ (ek hi));have hl:=ie.len
 obtain⟨g,hA⟩: ∃g,A=some ⟨g,0,none⟩:=by
  rcases du.2 with⟨_,hn⟩|⟨g,cap,cur,hv,_⟩
  ·simp only at hn;omega
  ·simp only[jq] at hv;exact⟨g,hv.1⟩
 have:=QQ (P:=P) (n:=n) (B:=B) (w0:=w0) (ty:=ty) i hi rfl hA ee hx rfl hy rfl rfl (by rw[hl];simp only;omega);simp only[aJx] at this;exact this a w o K Q ho xo hs hp hk
theorem QR {x y:Operand} {t e:TypeId} {bytes:Nat} {m:Int} (ht:P.underlying t=some (.slice e)) (co:(P.info? e).map (λi=>(i.zero,i.size,i.bytes))=some (some (.bool false),1,bytes))
  (hx:ev L x=some (.int .i64 m)) (hy:ev L y=some (.int .i64 m)) (h0:0<=m) (hm:m*bytes<=281474976710656) (u4:m<=9223372036854775807):
  Ac P n B w0 (.makeSlice t x y) ty L R (λv R'=> ∃g,v= .slice (some ⟨g,0,none⟩) m.toNat m.toNat/\R'=⟨e,1,some ⟨g,0,none⟩,m.toNat,m.toNat,bools (List.replicate m.toNat false),false⟩::R):=by
 have:=aFk (P:=P) (n:=n) (B:=B) (w0:=w0) (L:=L) (R:=R) (ty:=ty) ht co rfl hx hy h0 hm u4;simpa only[aGv] using this
end
end Go.Eng
namespace Go.Pure
open Go Go.Eng
def smB (s:List Int) (i:Int):Bool:=decide (cmpL (s.drop i.toNat) (s.drop (i+1).toNat)<0)
theorem wE {a b:Int} {u v:List Int}:cmpL (a::u) (b::v)<0↔a<b\/a=b/\cmpL u v<0:=by
 rw[cmpL];rcases ja a b with c|c|c
 ·rw[cu c];exact⟨λ_=> .inl c,λ_=>G⟩
 ·subst c;rw[bu G,bu G];exact⟨λh=> .inr ⟨rfl,h⟩,λh=>h.elim (λh=>G) λh=>h.2⟩
 ·rw [bu G,cu c];exact⟨λh=>G,λh=>h.elim (λh=>G) λh=>G⟩
theorem fM {s:List Int} {i:Int} (h0:0<=i) (h:i<s.length):s.drop i.toNat=rd s i::s.drop (i+1).toNat:=nV h0 h
theorem uO {s:List Int} {i:Int} (h:(s.length:Int)<=i):s.drop i.toNat=[]:=uk G
theorem lS {s:List Int} {p q:Int} (p0:0<=p) (hp:p<s.length) (q0:0<=q) (hq:q<s.length):bU s p q↔rd s p<rd s q\/rd s p=rd s q/\cmpL (s.drop (p+1).toNat) (s.drop (q+1).toNat)<0:=by
 rw[<-gX,fM p0 hp,fM q0 hq,wE]
theorem oV {s:List Int} {i:Int} (h0:0<=i) (h:(s.length:Int)<=i+1):smB s i=false:=by
 unfold smB;rw[uO h,uf];by_cases a:i<s.length
 ·rw[fM h0 a];simp[cmpL]
 ·rw[uO G];simp[cmpL]
theorem tQ {s:List Int} {i:Int} (h0:0<=i) (h:i+1<s.length):smB s i=true↔rd s i<rd s (i+1)\/rd s i=rd s (i+1)/\smB s (i+1)=true:=by
 unfold smB;rw[ii,ii,fM h0 G,fM (s:=s) (i:=i+1) G h,wE]
def isL (s:List Int) (p:Int):Prop:=(0<=p/\p<s.length)/\smB s p=false
def isS (s:List Int) (p:Int):Prop:=(0<=p/\p<s.length)/\smB s p=true
theorem pI {s:List Int} {p:Int} (h:0<=p/\p<s.length):isL s p\/isS s p:=by
 cases e:smB s p with
 |false=>exact .inl ⟨h,e⟩
 |true=>exact .inr ⟨h,e⟩
theorem isL.not_S {s:List Int} {p:Int} (h:isL s p): ¬isS s p:=λh'=>by
 have a:=h'.2;rw[h.2] at a;cases a
theorem isL.next {s:List Int} {p:Int} (h:isL s p) (hp:p+1<s.length):rd s (p+1)<=rd s p/\(rd s p=rd s (p+1)->isL s (p+1)):=by
 have hn: ¬smB s p=true:=by rw[h.2];simp
 rw[tQ h.1.1 hp] at hn;refine⟨Int.not_lt.1 λaw=>hn (.inl aw),λe=>⟨⟨by have:=h.1.1;omega,hp⟩,?_⟩⟩;cases e2:smB s (p+1) with
 |false=>rfl
 |true=>exact absurd (.inr ⟨e,e2⟩) hn
theorem isS.next {s:List Int} {p:Int} (h:isS s p):p+1<s.length/\rd s p<=rd s (p+1)/\(rd s p=rd s (p+1)->isS s (p+1)):=by
 have hp:p+1<s.length:=by
  rcases ay (p+1) s.length with a|a
  ·exact a
  ·have:=oV h.1.1 a;rw[h.2] at this;cases this
 have hs:=(tQ h.1.1 hp).1 h.2;have h0:=h.1.1;refine⟨hp,G,λe=>⟨⟨G,hp⟩,?_⟩⟩;rcases hs with a|a
 ·omega
 ·exact a.2
theorem CY {s:List Int}: ∀(m:Nat) (p q:Int),s.length-p<=m->isL s p->isS s q->rd s p=rd s q->bU s p q
 |0,p,q,hm,hp,_,_=>by have:=hp.1;omega
 | m+1,p,q,hm,hp,hq,e=>by
  rw[lS hp.1.1 hp.1.2 hq.1.1 hq.1.2];refine .inr ⟨e,?_⟩;obtain⟨f9,hq2,Xy⟩:=hq.next;have q0:=hq.1.1;have p0:=hp.1.1;rcases ay (p+1) s.length with a|a
  ·obtain ⟨lz,se⟩:=hp.next a;rw[gX (s:=s),lS G a G f9];rcases ay (rd s (p+1)) (rd s (q+1)) with b|b
   ·exact .inl b
   ·have e1:rd s p=rd s (p+1):=G
    have e2:rd s q=rd s (q+1):=G
    have:=CY m (p+1) (q+1) G (se e1) (Xy e2) G;rw[lS G a G f9] at this;exact this
  ·rw [uO a,fM G f9];simp[cmpL]
theorem ZN {s:List Int} {p q:Int} (hp:isL s p) (hq:isS s q) (e:rd s p=rd s q):bU s p q:=CY (s.length-p).toNat p q G hp hq e
theorem HZ {s:List Int} {p q:Int} (p0:0<=p) (hp:p+1<s.length) (q0:0<=q) (hq:q+1<s.length) (e:rd s p=rd s q) (h:bU s (p+1) (q+1)):bU s p q:=by
 rw[lS p0 G q0 G];exact .inr ⟨e,gX.2 h⟩
theorem qV {s:List Int} {p q:Int} (hp:0<=p/\p<s.length) (hq:0<=q/\q<s.length) (h:rd s p<rd s q):bU s p q:=by
 rw[lS hp.1 hp.2 hq.1 hq.2];exact .inl h
theorem aNr {s:List Int} {q:Int} (hn:0<s.length) (q0:0<=q) (hq:q+1<s.length) (e:rd s (s.length-1)=rd s q):bU s (s.length-1) q:=by
 rw[lS G G q0 G];refine .inr ⟨e,?_⟩;rw[uO G,fM G hq];simp[cmpL]
def fG (s:List Int) (i:Int):Bool:=decide (0<i) && smB s i && !smB s (i-1)
theorem lW {s:List Int} {i:Int}:fG s i=true↔0<i/\smB s i=true/\smB s (i-1)=false:=by
 unfold fG;rw[qj,qj,ii];simp only[Bool.not_eq_true',and_assoc]
def bM (s:List Int):List Int:=(iota s.length).filter λi=>fG s i
theorem rC {s:List Int} {i:Int}:i∈bM s↔(0<=i/\i<s.length)/\fG s i=true:=by
 unfold bM;rw[mo,aW]
theorem xB (s:List Int):(bM s).Nodup:=(eT _).sublist rz
theorem mV {α:Type} [DecidableEq α]: ∀ {l m:List α},l.Nodup->(∀x∈l,x∈m)->l.length<=m.length
 |[],_,_,_=>uh _
 | a::l,m,hd,h=>by
  obtain⟨h1,h2⟩:=ut.1 hd;have ha:=h a cD
  have:=mV (l:=l) (m:=m.erase a) h2 λx hx=>by
   have Vp:x≠a:=λe=>h1 (e▸hx);exact(Du Vp).2 (h x (dw _ hx))
  rw[Bj ha] at this;have hp:=Cn ha;simp only[dm];omega
theorem pF {α:Type} [DecidableEq α]: ∀ {l m:List α},l.Nodup->(∀x∈l,x∈m)->m.length<=l.length->l.Perm m
 |[],m,_,_,h=>by
  have:m=[]:=ed (by simpa using h);rw[this]
 | a::l,m,hd,h,hl=>by
  obtain⟨h1,h2⟩:=ut.1 hd;have ha:=h a cD;have hp:=Cn ha
  have:=pF (l:=l) (m:=m.erase a) h2 (λx hx=>by
   have Vp:x≠a:=λe=>h1 (e▸hx)
   exact(Du Vp).2 (h x (dw _ hx))) (by
   rw[Bj ha];simp only[dm] at hl
   omega)
  exact(this.cons a).trans (List.perm_cons_erase ha).symm
def seg (row:List Int) (a b:Int):List Int:=(List.range (b-a).toNat).map λt:Nat=>rd row (a+t)
theorem aCz (row:List Int) (a b:Int):(seg row a b).length=(b-a).toNat:=by simp[seg]
theorem EN {row:List Int} {a b x:Int}:x∈seg row a b↔ ∃q,a<=q/\q<b/\rd row q=x:=by
 unfold seg;rw[il];constructor
 ·rintro ⟨t,ht,rfl⟩;have:=ji.1 ht;exact⟨a+t,G,G,rfl⟩
 ·rintro ⟨q,h1,h2,rfl⟩;exact⟨(q-a).toNat,ji.2 G,by rw[show a+((q-a).toNat:Int)=q by omega]⟩
def Once (row:List Int):Prop:= ∀q r:Int,0<=q->q<row.length->0<=r->r<row.length->0<=rd row q->rd row q=rd row r->q=r
theorem MF {row:List Int} (h:Once row) {a b:Int} (ha:0<=a) (hb:b<=row.length) (hp: ∀q,a<=q->q<b->0<=rd row q):(seg row a b).Nodup:=by
 unfold seg;refine ik.2 (mr (λ{x y} hx hy da he=> ?_) vk);have Vn:=ji.1 hx;have Vr:=ji.1 hy;have:=h (a+x) (a+y) G G G G (hp _ G G) he;exact da G
section
variable (s:List Int) (k:Int)
def st (c:Int):Int:=ps (dR s k) c
def DR (c:Int):List Int:=(iota s.length).filter λp=>decide (rd s p=c) && !smB s p
def DN (c:Int):List Int:=(iota s.length).filter λp=>decide (rd s p=c) && smB s p
end
section
variable {s:List Int} {k:Int}
theorem IK {c p:Int}:p∈DR s c↔isL s p/\rd s p=c:=by
 unfold DR isL;rw[mo,aW,qj,ii];simp only[Bool.not_eq_true'];exact⟨λ⟨a,b,c⟩=>⟨⟨a,c⟩,b⟩,λ⟨⟨a,c⟩,b⟩=>⟨a,b,c⟩⟩
theorem IJ {c p:Int}:p∈DN s c↔isS s p/\rd s p=c:=by
 unfold DN isS;rw[mo,aW,qj,ii];exact⟨λ⟨a,b,c⟩=>⟨⟨a,c⟩,b⟩,λ⟨⟨a,c⟩,b⟩=>⟨a,b,c⟩⟩
theorem aSy:st s k 0=0:=rfl
theorem kZ (s:List Int):(iota s.length).map (rd s)=s:=by
 refine bI (by rw[bi,bF]) λj h0 h1=> ?_;rw[bi,bF] at h1;have:(iota s.length).map (rd s)=(List.range s.length).map λi:Nat=>rd s i:=by unfold iota;rw[xz];rfl
 rw[this,gH h0 h1,show((j.toNat:Nat):Int)=j by omega]
theorem jP {c:Int} (h0:0<=c) (h:c<k):st s k (c+1)=st s k c+(DR s c).length+(DN s c).length:=by
 unfold st;rw[lQ h0 (by rw[dL];omega),yK h0 h]
 have e:(s.filter λx=>decide (x=c)).length=((iota s.length).filter λp=>decide (rd s p=c)).length:=by
  conv=>lhs;rw[<-kZ s]
  rw[List.filter_map,bi];rfl
 have e2:((iota s.length).filter λp=>decide (rd s p=c)).length=(DR s c).length+(DN s c).length:=by
  unfold DR DN;generalize iota s.length=l
  induction l with
  |nil=>rfl
  | cons a l ih=>
   by_cases h:rd s a=c
   ·cases hb:smB s a with
    |true=>rw[ny (by simpa using h),ku (by simp[hb]),ny (by simp[h,hb])];simp only[dm];omega
    |false=>rw[ny (by simpa using h),ny (by simp[h,hb]),ku (by simp[hb])];simp only[dm];omega
   ·rw [ku (by simpa using h),ku (by simp[h]),ku (by simp[h])];exact ih
 rw[e,e2];omega
theorem jQ {c d:Int} (h0:0<=c) (t6:c<d) (hd:d<=k):st s k (c+1)<=st s k d:=by
 obtain⟨m,rfl⟩: ∃m:Nat,d=c+1+m:=⟨(d-c-1).toNat,G⟩
 induction m with
 |zero=>simp
 |succ m ih=>
  have:=ih G G;have e:=jP (s:=s) (k:=k) (c:=c+1+m) G G;rw[show c+1+((m+1:Nat):Int)=c+1+m+1 by omega];omega
theorem eX {c:Int}:0<=st s k c:=(uB (lD s k) c).1
theorem YI (hk:0<=k) (hs: ∀x∈s,0<=x/\x<k):st s k k=s.length:=by
 unfold st;rw[ZE (by rw[dL];omega)]
 have:=JG (order:=iota s.length) (keys:=s) (k:=k) hk λi hi=>by
  have:=aW.1 hi;exact hs _ (bH this.1 this.2)
 rw[kZ,bF] at this;exact this
theorem vX (hk:0<=k) (hs: ∀x∈s,0<=x/\x<k) {c:Int} (h0:0<=c) (h:c<=k):st s k c<=s.length:=by
 rcases ay c k with a|a
 ·have h1:=jP (s:=s) h0 a;have h2:=jQ (s:=s) h0 a (ky k);rw[YI hk hs] at h2;omega
 ·rw [show c=k by omega,YI hk hs];omega
theorem fO (hk:0<=k) (hs: ∀x∈s,0<=x/\x<k) {q:Int} (q0:0<=q) (hq:q<s.length): ∃c,(0<=c/\c<k)/\st s k c<=q/\q<st s k (c+1):=by
 have Sn: ∀m:Nat,(m:Int)<=k->q<st s k m-> ∃c,(0<=c/\c<k)/\st s k c<=q/\q<st s k (c+1):=by
  intro m
  induction m with
  |zero=>intro _ h;rw[show((0:Nat):Int)=0 from rfl,aSy] at h;omega
  |succ m ih=>
   intro hm h;rcases ay q (st s k m) with a|a
   ·exact ih G a
   ·exact⟨m,G,a,by rw[show((m:Int)+1)=((m+1:Nat):Int) by omega];exact h⟩
 have:=Sn k.toNat G;rw[show((k.toNat:Nat):Int)=k by omega,YI hk hs] at this;exact this hq
theorem mY {c d q:Int} (c0:0<=c) (ck:c<k) (d0:0<=d) (dk:d<k) (h1:st s k c<=q) (h2:q<st s k (c+1)) (h3:st s k d<=q) (h4:q<st s k (d+1)):c=d:=by
 rcases ja c d with a|a|a
 ·have:=jQ (s:=s) c0 a (by omega:d<=k);omega
 ·exact a
 ·have:=jQ (s:=s) d0 a (by omega:c<=k);omega
end
end Go.Pure
namespace Go.Pure
open Go Go.Eng
section
variable {s:List Int} {k:Int} {R:Int->Int->Prop}
structure aSj (s:List Int) (R:Int->Int->Prop):Prop where
 char: ∀ {p q:Int},0<=p/\p<s.length->0<=q/\q<s.length->rd s p<rd s q->R p q
 ls: ∀ {p q:Int},isL s p->isS s q->rd s p=rd s q->R p q
 last: ∀ {q:Int},0<s.length->0<=q->q+1<s.length->rd s (s.length-1)=rd s q->isL s q->R (s.length-1) q
 backL: ∀ {p q:Int},isL s p->isL s q->p+1<s.length->q+1<s.length->rd s p=rd s q->R (p+1) (q+1)->R p q
structure sQ (s:List Int) (k:Int) (R:Int->Int->Prop) (mF:Int->Int) (row:List Int):Prop where
 len:row.length=s.length
 m0: ∀c,0<=c->c<k->0<=mF c/\mF c<=(DN s c).length
 some_: ∀c q,0<=c->c<k->st s k (c+1)-mF c<=q->q<st s k (c+1)->isS s (rd row q)/\rd s (rd row q)=c
 none_: ∀c q,0<=c->c<k->st s k c<=q->q<st s k (c+1)-mF c->rd row q= -1
 once:Once row
 all: ∀p:Int,0<=p->p<s.length->fG s p=true-> ∃q:Int,0<=q/\q<s.length/\rd row q=p
 sorted: ∀a b:Int,0<=a->a<b->b<s.length->0<=rd row a->0<=rd row b->R (rd row a) (rd row b)
structure iO (s:List Int) (k:Int) (R:Int->Int->Prop) (mF:Int->Int) (row0 row H:List Int) (C:Int->Prop):Prop where
 len:row.length=s.length
 hlen:H.length=k.toNat
 hH: ∀c,0<=c->c<k->st s k c<=rd H c/\rd H c<=st s k c+(DR s c).length
 placed: ∀c q,0<=c->c<k->st s k c<=q->q<rd H c->isL s (rd row q)/\rd s (rd row q)=c
 rest: ∀c q,0<=c->c<k->rd H c<=q->q<st s k (c+1)->rd row q=rd row0 q
 once:Once row
 closed: ∀p,isL s p->((∃q:Int,0<=q/\q<s.length/\rd row q=p)↔C p)
 sorted: ∀a b:Int,0<=a->a<b->b<s.length->0<=rd row a->0<=rd row b->R (rd row a) (rd row b)
variable (hk:0<=k) (hs: ∀x∈s,0<=x/\x<k) (hR:aSj s R)
theorem lZ (hs: ∀x∈s,0<=x/\x<k) {p:Int} (h:0<=p/\p<s.length):0<=rd s p/\rd s p<k:=hs _ (bH h.1 h.2)
variable {mF:Int->Int} {row0 row H:List Int} {C:Int->Prop}
theorem iO.at_ (h:iO s k R mF row0 row H C) (b:sQ s k R mF row0) {c q:Int} (c0:0<=c) (ck:c<k) (h1:st s k c<=q) (h2:q<st s k (c+1)):
  (q<rd H c/\isL s (rd row q)/\rd s (rd row q)=c)\/(rd H c<=q/\isS s (rd row q)/\rd s (rd row q)=c)\/(rd H c<=q/\rd row q= -1):=by
 rcases ay q (rd H c) with a|a
 ·exact .inl ⟨a,h.placed c q c0 ck h1 a⟩
 ·rw [h.rest c q c0 ck a h2];rcases ay q (st s k (c+1)-mF c) with d|d
  ·exact .inr (.inr ⟨a,b.none_ c q c0 ck h1 d⟩)
  ·exact .inr (.inl ⟨a,b.some_ c q c0 ck d h2⟩)
include hk hs in
theorem iO.entry (h:iO s k R mF row0 row H C) (b:sQ s k R mF row0) {q:Int} (q0:0<=q) (hq:q<s.length):rd row q= -1\/(0<=rd row q/\rd row q<s.length):=by
 obtain⟨c,⟨c0,ck⟩,h1,h2⟩:=fO hk hs q0 hq;rcases h.at_ b c0 ck h1 h2 with a|a|a
 ·exact .inr a.2.1.1
 ·exact .inr a.2.1.1
 ·exact .inl a.2
theorem EF {b:sQ s k R mF row0} {c:Int} (c0:0<=c) (ck:c<k):st s k c+(DR s c).length<=st s k (c+1)-mF c:=by
 have:=jP (s:=s) c0 ck;have:=b.m0 c c0 ck;omega
include hk hs in
theorem iO.room (h:iO s k R mF row0 row H C) (b:sQ s k R mF row0) {p:Int} (hp:isL s p) (hn: ¬ ∃q:Int,0<=q/\q<s.length/\rd row q=p):
  (st s k (rd s p)<=rd H (rd s p)/\rd H (rd s p)<st s k (rd s p)+(DR s (rd s p)).length)/\rd row (rd H (rd s p))= -1/\(0<=rd H (rd s p)/\rd H (rd s p)<s.length)/\rd H (rd s p)<st s k (rd s p+1):=by
 obtain⟨c0,ck⟩:=lZ hs hp.1;have hH:=h.hH _ c0 ck;have mv:=EF (b:=b) c0 ck;have mj:=vX hk hs (c:=rd s p+1) G G;have ye:=eX (s:=s) (k:=k) (c:=rd s p);have hm:=b.m0 _ c0 ck
 have aw:rd H (rd s p)<st s k (rd s p)+(DR s (rd s p)).length:=by
  have jt: ∀x∈p::seg row (st s k (rd s p)) (rd H (rd s p)),x∈DR s (rd s p):=by
   intro x hx;rcases jf.1 hx with rfl|hx
   ·exact IK.2 ⟨hp,rfl⟩
   ·obtain ⟨q,q1,q2,rfl⟩:=EN.1 hx;exact IK.2 (h.placed _ q c0 ck q1 q2)
  have hnd:(p::seg row (st s k (rd s p)) (rd H (rd s p))).Nodup:=by
   refine ut.2 ⟨λhx=> ?_,MF h.once ye (by rw[h.len];omega) λq q1 q2=>(h.placed _ q c0 ck q1 q2).1.1.1⟩;obtain⟨q,q1,q2,e⟩:=EN.1 hx;exact hn ⟨q,G,G,e⟩
  have:=mV hnd jt;rw[dm,aCz] at this;omega
 refine⟨⟨hH.1,aw⟩,?_,⟨G,G⟩,G⟩;rw[h.rest _ _ c0 ck (ky _) G,b.none_ _ _ c0 ck hH.1 G]
include hk hs hR in
theorem iO.lay (h:iO s k R mF row0 row H C) (b:sQ s k R mF row0) {p:Int} {C':Int->Prop} (hp:isL s p) (hn: ¬ ∃q:Int,0<=q/\q<s.length/\rd row q=p) (kc: ∀p',isL s p'->(C' p'↔C p'\/p'=p))
  (Lh: ∀p',isL s p'->rd s p'=rd s p->(∃q:Int,0<=q/\q<s.length/\rd row q=p')->R p' p):
  iO s k R mF row0 (upd row (rd H (rd s p)) p) (upd H (rd s p) (rd H (rd s p)+1)) C':=by
 obtain⟨c0,ck⟩:=lZ hs hp.1;obtain⟨⟨r1,r2⟩,r3,⟨r4,r5⟩,r6⟩:=h.room hk hs b hp hn;have dv: ∀q,0<=q->rd (upd row (rd H (rd s p)) p) q=if q=rd H (rd s p) then p else rd row q:=λq q0=>fI r4 q0 (by rw[h.len];omega)
 have Su: ∀c,0<=c->rd (upd H (rd s p) (rd H (rd s p)+1)) c=if c=rd s p then rd H (rd s p)+1 else rd H c:=λc Nq=>fI c0 Nq (by rw[h.hlen];omega)
 have hex: ∀x:Int,0<=x->((∃q:Int,0<=q/\q<s.length/\rd (upd row (rd H (rd s p)) p) q=x)↔((∃q:Int,0<=q/\q<s.length/\rd row q=x)\/x=p)):=by
  intro x hx;constructor
  ·rintro ⟨q,q0,q1,e⟩;rw[dv q q0] at e;split at e
   ·exact .inr e.symm
   ·exact .inl ⟨q,q0,q1,e⟩
  ·rintro (⟨q,q0,q1,e⟩|rfl)
   ·refine ⟨q,q0,q1,?_⟩;rw[dv q q0,bu,e];intro e2;rw[e2,r3] at e;omega
   ·exact⟨_,r4,r5,by rw[dv _ r4,cu rfl]⟩
 refine⟨by rw[aV];exact h.len,by rw[aV];exact h.hlen,λc d0 dk=> ?_,λc q d0 dk q1 q2=> ?_,λc q d0 dk q1 q2=> ?_,λq r q0 q1 t0 t1 hq e=> ?_,λp' bw=> ?_,λx y x0 xy y1 hx hy=> ?_⟩
 ·have:=h.hH c d0 dk;rw[Su c d0];split
  ·rename_i e;subst e;omega
  ·exact this
 ·have gv:0<=q:=by have:=eX (s:=s) (k:=k) (c:=c);omega
  rw[Su c d0] at q2;rw[dv q gv];by_cases e:q=rd H (rd s p)
  ·rw [cu e]
   have hc:c=rd s p:=by
    by_cases e2:c=rd s p
    ·exact e2
    ·rw [bu e2] at q2;have:=h.hH c d0 dk;have hr:=EF (b:=b) d0 dk;have:=b.m0 c d0 dk;exact mY (s:=s) d0 dk c0 ck q1 G G G
   exact⟨hp,hc.symm⟩
  ·rw [bu e];refine h.placed c q d0 dk q1 ?_;by_cases e2:c=rd s p
   ·rw[cu e2] at q2;subst e2;omega
   ·rw[bu e2] at q2;exact q2
 ·rw [Su c d0] at q1;have hHc:=h.hH c d0 dk
  have gv:0<=q:=by
   have:=eX (s:=s) (k:=k) (c:=c);by_cases e2:c=rd s p
   ·rw[cu e2] at q1;subst e2;omega
   ·rw[bu e2] at q1;omega
  rw[dv q gv];by_cases e2:c=rd s p
  ·rw [cu e2] at q1;rw[bu G];subst e2;exact h.rest _ q d0 dk G q2
  ·rw [bu e2] at q1;rw[bu,h.rest c q d0 dk q1 q2];intro e;exact e2 (mY (s:=s) d0 dk c0 ck G q2 G G)
 ·rw [aV,h.len] at q1 t1;rw[dv q q0] at hq e;rw[dv r t0] at e;by_cases e1:q=rd H (rd s p)
  ·rw [cu e1] at e;by_cases e2:r=rd H (rd s p)
   ·omega
   ·rw [bu e2] at e;exact absurd ⟨r,t0,t1,e.symm⟩ hn
  ·rw [bu e1] at e hq;by_cases e2:r=rd H (rd s p)
   ·rw [cu e2] at e;exact absurd ⟨q,q0,q1,e⟩ hn
   ·rw [bu e2] at e;exact h.once q r q0 (by rw[h.len];exact q1) t0 (by rw[h.len];exact t1) hq e
 ·rw[hex p' bw.1.1,h.closed p' bw,kc p' bw]
 ·have key: ∀z:Int,0<=z->z<s.length->0<=rd row z->(z<rd H (rd s p)->R (rd row z) p)/\(rd H (rd s p)<z->R p (rd row z)):=by
   intro z z0 z1 hz;obtain⟨c,⟨d0,dk⟩,h1,h2⟩:=fO hk hs z0 z1;have pi:=h.at_ b d0 dk h1 h2
   have db:0<=rd row z/\rd row z<s.length:=by
    rcases pi with a|a|a
    ·exact a.2.1.1
    ·exact a.2.1.1
    ·rw[a.2] at hz;omega
   have xv:rd s (rd row z)=c:=by
    rcases pi with a|a|a
    ·exact a.2.2
    ·exact a.2.2
    ·rw[a.2] at hz;omega
   refine⟨λaw=> ?_,λaw=> ?_⟩
   ·rcases ja c (rd s p) with e|e|e
    ·exact hR.char db hp.1 G
    ·subst e;rcases pi with a|a|a
     ·exact Lh _ a.2.1 a.2.2 ⟨z,z0,z1,rfl⟩
     ·omega
     ·omega
    ·have:=jQ (s:=s) c0 e (by omega:c<=k);omega
   ·rcases ja c (rd s p) with e|e|e
    ·have:=jQ (s:=s) d0 e (by omega:rd s p<=k);omega
    ·subst e;rcases pi with a|a|a
     ·omega
     ·exact hR.ls hp a.2.1 a.2.2.symm
     ·rw[a.2] at hz;omega
    ·exact hR.char hp.1 db G
  rw[dv x x0] at hx ⊢;rw[dv y G] at hy ⊢;by_cases e1:x=rd H (rd s p)
  ·rw [cu e1,bu G];rw[bu G] at hy;exact(key y G y1 hy).2 G
  ·rw [bu e1];rw[bu e1] at hx;by_cases e2:y=rd H (rd s p)
   ·rw [cu e2];exact(key x x0 G hx).1 G
   ·rw [bu e2];rw[bu e2] at hy;exact h.sorted x y x0 xy y1 hx hy
def CL (s row:List Int) (i p:Int):Prop:=p=s.length-1\/ ∃q:Int,0<=q/\q<i/\rd row q=p+1
include hk hs hR in
theorem UN (b:sQ s k R mF row0) (hn:0<s.length) (hH:H.length=k.toNat) (Wk: ∀c,0<=c->c<k->rd H c=st s k c):
  iO s k R mF row0 (upd row0 (rd H (rd s (s.length-1))) (s.length-1)) (upd H (rd s (s.length-1)) (rd H (rd s (s.length-1))+1)) (CL s (upd row0 (rd H (rd s (s.length-1))) (s.length-1)) 0):=by
 have n7: ∀p,isL s p-> ¬ ∃q:Int,0<=q/\q<s.length/\rd row0 q=p:=by
  rintro p hp ⟨q,q0,q1,e⟩;obtain⟨c,⟨c0,ck⟩,h1,h2⟩:=fO hk hs q0 q1;rcases ay q (st s k (c+1)-mF c) with d|d
  ·have:=b.none_ c q c0 ck h1 d;have:=hp.1.1;omega
  ·have:=(b.some_ c q c0 ck d h2).1;rw[e] at this;exact hp.not_S this
 have h0:iO s k R mF row0 row0 H λ_=>False:=
  ⟨b.len,hH,λc c0 ck=>by rw[Wk c c0 ck];omega,λc q c0 ck q1 q2=>by rw[Wk c c0 ck] at q2;omega,λc q _ _ _ _=>rfl,b.once,λp hp=>iff_false_intro (n7 p hp),b.sorted⟩
 have hp:isL s (s.length-1):=⟨G,oV G G⟩;refine h0.lay hk hs hR b hp (n7 _ hp) (λp' bw=> ?_) λp' bw _ hex=>absurd hex (n7 p' bw);unfold CL;constructor
 ·rintro (e|⟨q,q0,q1,_⟩)
  ·exact .inr e
  ·omega
 ·rintro (h|e)
  ·exact h.elim
  ·exact .inl e
theorem ZV {i:Int} (h:iO s k R mF row0 row H (CL s row i)) (hc: ¬(0<rd row i/\smB s (rd row i-1)=false)):iO s k R mF row0 row H (CL s row (i+1)):=by
 refine⟨h.len,h.hlen,h.hH,h.placed,h.rest,h.once,λp hp=> ?_,h.sorted⟩;rw[h.closed p hp];unfold CL;refine or_congr_right ⟨λ⟨q,q0,q1,e⟩=>⟨q,q0,G,e⟩,?_⟩;rintro⟨q,q0,q1,e⟩;rcases ay q i with a|a
 ·exact⟨q,q0,a,e⟩
 ·exfalso;have:q=i:=G
  subst this;rw[e] at hc;have:=hp.1.1;exact hc ⟨G,by rw[show p+1-1=p by omega];exact hp.2⟩
include hk hs in
theorem NC {i:Int} (h:iO s k R mF row0 row H (CL s row i)) (b:sQ s k R mF row0) (i0:0<=i) (hi:i<s.length) (hc:0<rd row i/\smB s (rd row i-1)=false):
  isL s (rd row i-1)/\(¬ ∃q:Int,0<=q/\q<s.length/\rd row q=rd row i-1)/\rd row i<s.length/\i<rd H (rd s (rd row i-1)):=by
 have Ds:=h.entry hk hs b i0 hi;have hj:0<=rd row i/\rd row i<s.length:=G
 have hp:isL s (rd row i-1):=⟨G,hc.2⟩
 have hn: ¬ ∃q:Int,0<=q/\q<s.length/\rd row q=rd row i-1:=by
  intro hex;rcases(h.closed _ hp).1 hex with e|⟨q,q0,q1,e⟩
  ·omega
  ·have:=h.once q i q0 (by rw[h.len];omega) i0 (by rw[h.len];exact hi) G G;omega
 refine⟨hp,hn,hj.2,?_⟩;obtain⟨c,⟨c0,ck⟩,h1,h2⟩:=fO hk hs i0 hi;obtain⟨d0,dk⟩:=lZ hs hp.1;have lf:=hp.next G;rw[show rd row i-1+1=rd row i by omega] at lf;have hHp:=h.hH _ d0 dk;rcases h.at_ b c0 ck h1 h2 with a|a|a
 ·rcases ay c (rd s (rd row i-1)) with e|e
  ·have:=jQ (s:=s) c0 e (by omega:rd s (rd row i-1)<=k);omega
  ·have:rd s (rd row i-1)=c:=G
   rw[this];exact a.1
 ·rcases ay c (rd s (rd row i-1)) with e|e
  ·have:=jQ (s:=s) c0 e (by omega:rd s (rd row i-1)<=k);omega
  ·exact absurd a.2.1 (lf.2 G).not_S
 ·omega
include hk hs hR in
theorem ZU {i:Int} (h:iO s k R mF row0 row H (CL s row i)) (b:sQ s k R mF row0) (i0:0<=i) (hi:i<s.length) (hc:0<rd row i/\smB s (rd row i-1)=false):
  iO s k R mF row0 (upd row (rd H (rd s (rd row i-1))) (rd row i-1)) (upd H (rd s (rd row i-1)) (rd H (rd s (rd row i-1))+1)) (CL s (upd row (rd H (rd s (rd row i-1))) (rd row i-1)) (i+1)):=by
 obtain⟨hp,hn,hj,aw⟩:=NC hk hs h b i0 hi hc;have mv:=h.room hk hs b hp hn;have dv: ∀q,0<=q->rd (upd row (rd H (rd s (rd row i-1))) (rd row i-1)) q=if q=rd H (rd s (rd row i-1)) then rd row i-1 else rd row q:=λq q0=>fI mv.2.2.1.1 q0 (by rw[h.len];exact mv.2.2.1.2)
 refine h.lay hk hs hR b hp hn (λp' bw=> ?_) λp' bw he hex=> ?_
 ·unfold CL;constructor
  ·rintro (e|⟨q,q0,q1,e⟩)
   ·exact .inl (.inl e)
   ·rw [dv q q0,bu G] at e;rcases ay q i with a|a
    ·exact .inl (.inr ⟨q,q0,a,e⟩)
    ·have:q=i:=G
     subst this;exact .inr G
  ·rintro ((e|⟨q,q0,q1,e⟩)|e)
   ·exact .inl e
   ·exact .inr ⟨q,q0,G,by rw[dv q q0,bu G];exact e⟩
   ·exact .inr ⟨i,i0,G,by rw[dv i i0,bu G];omega⟩
 ·have Pr:=hp.1;rcases(h.closed _ bw).1 hex with e|⟨q,q0,q1,e⟩
  ·subst e;exact hR.last G G G he hp
  ·have h1:=h.entry hk hs b q0 G;have h2:=bw.1;have:=h.sorted q i q0 q1 hi G G;rw[e] at this;refine hR.backL bw hp G G he ?_;rwa[show rd row i-1+1=rd row i by omega]
include hk hs in
theorem ND (h:iO s k R mF row0 row H (CL s row s.length)) (b:sQ s k R mF row0): ∀(m:Nat) (p:Int),s.length-p<=m->isL s p-> ∃q:Int,0<=q/\q<s.length/\rd row q=p
 |0,p,hm,hp=>by have:=hp.1;omega
 | m +1,p,hm,hp=>by
  have hb:=hp.1;rw[h.closed p hp];rcases ay (p+1) s.length with a|a
  ·refine .inr ?_;rcases pI (s:=s) (p:=p+1) G with l|l
   ·exact ND h b m (p+1) G l
   ·obtain ⟨q,q0,q1,e⟩:=b.all (p+1) G a (lW.2 ⟨G,l.2,by rw[show p+1-1=p by omega];exact hp.2⟩);refine⟨q,q0,q1,?_⟩;obtain⟨c,⟨c0,ck⟩,h1,h2⟩:=fO hk hs q0 q1;have hH:=h.hH c c0 ck;have hr:=EF (b:=b) c0 ck;rw[h.rest c q c0 ck ?_ h2,e];rcases ay q (st s k (c+1)-mF c) with d|d
    ·have:=b.none_ c q c0 ck h1 d;omega
    ·omega
  ·exact .inl G
end
end Go.Pure
namespace Go.Pure
open Go Go.Eng
section
variable {s:List Int} {k:Int} {R:Int->Int->Prop}
structure aWw (s:List Int) (R:Int->Int->Prop):Prop where
 char: ∀ {p q:Int},0<=p/\p<s.length->0<=q/\q<s.length->rd s p<rd s q->R p q
 ls: ∀ {p q:Int},isL s p->isS s q->rd s p=rd s q->R p q
 backS: ∀ {p q:Int},isS s p->isS s q->p+1<s.length->q+1<s.length->rd s p=rd s q->R (p+1) (q+1)->R p q
structure qF (s:List Int) (k:Int) (R:Int->Int->Prop) (T:Int->Int) (row:List Int):Prop where
 len:row.length=s.length
 t0: ∀c,0<=c->c<k->st s k c<=T c/\T c<=st s k c+(DR s c).length
 some_: ∀c q,0<=c->c<k->st s k c<=q->q<T c->isL s (rd row q)/\rd s (rd row q)=c
 none_: ∀c q,0<=c->c<k->T c<=q->q<st s k (c+1)->rd row q= -1
 once:Once row
 all: ∀p:Int,isL s p-> ∃q:Int,0<=q/\q<s.length/\rd row q=p
 sorted: ∀a b:Int,0<=a->a<b->b<s.length->0<=rd row a->0<=rd row b->R (rd row a) (rd row b)
structure iN (s:List Int) (k:Int) (R:Int->Int->Prop) (T:Int->Int) (row3 row E:List Int) (C:Int->Prop):Prop where
 len:row.length=s.length
 elen:E.length=k.toNat
 hE: ∀c,0<=c->c<k->st s k (c+1)-(DN s c).length<=rd E c/\rd E c<=st s k (c+1)
 placed: ∀c q,0<=c->c<k->rd E c<=q->q<st s k (c+1)->isS s (rd row q)/\rd s (rd row q)=c
 rest: ∀c q,0<=c->c<k->st s k c<=q->q<rd E c->rd row q=rd row3 q
 once:Once row
 closed: ∀p,isS s p->((∃q:Int,0<=q/\q<s.length/\rd row q=p)↔C p)
 sorted: ∀a b:Int,0<=a->a<b->b<s.length->0<=rd row a->0<=rd row b->R (rd row a) (rd row b)
variable (hk:0<=k) (hs: ∀x∈s,0<=x/\x<k) (hR:aWw s R)
variable {T:Int->Int} {row3 row E:List Int} {C:Int->Prop}
theorem iN.at_ (h:iN s k R T row3 row E C) (b:qF s k R T row3) {c q:Int} (c0:0<=c) (ck:c<k) (h1:st s k c<=q) (h2:q<st s k (c+1)):
  (rd E c<=q/\isS s (rd row q)/\rd s (rd row q)=c)\/(q<rd E c/\isL s (rd row q)/\rd s (rd row q)=c)\/(q<rd E c/\rd row q= -1):=by
 rcases ay q (rd E c) with a|a
 ·rw [h.rest c q c0 ck h1 a];rcases ay q (T c) with d|d
  ·exact .inr (.inl ⟨a,b.some_ c q c0 ck h1 d⟩)
  ·exact .inr (.inr ⟨a,b.none_ c q c0 ck d h2⟩)
 ·exact .inl ⟨a,h.placed c q c0 ck a h2⟩
include hk hs in
theorem iN.entry (h:iN s k R T row3 row E C) (b:qF s k R T row3) {q:Int} (q0:0<=q) (hq:q<s.length):rd row q= -1\/(0<=rd row q/\rd row q<s.length):=by
 obtain⟨c,⟨c0,ck⟩,h1,h2⟩:=fO hk hs q0 hq;rcases h.at_ b c0 ck h1 h2 with a|a|a
 ·exact .inr a.2.1.1
 ·exact .inr a.2.1.1
 ·exact .inl a.2
theorem FN {b:qF s k R T row3} {c:Int} (c0:0<=c) (ck:c<k):T c<=st s k (c+1)-(DN s c).length:=by
 have:=jP (s:=s) c0 ck;have:=b.t0 c c0 ck;omega
include hk hs in
theorem iN.room (h:iN s k R T row3 row E C) (b:qF s k R T row3) {p:Int} (hp:isS s p) (hn: ¬ ∃q:Int,0<=q/\q<s.length/\rd row q=p):
  (st s k (rd s p+1)-(DN s (rd s p)).length<=rd E (rd s p)-1/\rd E (rd s p)<=st s k (rd s p+1))/\rd row (rd E (rd s p)-1)= -1/\(0<=rd E (rd s p)-1/\rd E (rd s p)-1<s.length)/\st s k (rd s p)<=rd E (rd s p)-1:=by
 obtain⟨c0,ck⟩:=lZ hs hp.1;have hE:=h.hE _ c0 ck;have mv:=FN (b:=b) c0 ck;have mj:=vX hk hs (c:=rd s p+1) G G;have ye:=eX (s:=s) (k:=k) (c:=rd s p);have ht:=b.t0 _ c0 ck;have hsu:=jP (s:=s) c0 ck
 have aw:st s k (rd s p+1)-(DN s (rd s p)).length<=rd E (rd s p)-1:=by
  have jt: ∀x∈p::seg row (rd E (rd s p)) (st s k (rd s p+1)),x∈DN s (rd s p):=by
   intro x hx;rcases jf.1 hx with rfl|hx
   ·exact IJ.2 ⟨hp,rfl⟩
   ·obtain ⟨q,q1,q2,rfl⟩:=EN.1 hx;exact IJ.2 (h.placed _ q c0 ck q1 q2)
  have hnd:(p::seg row (rd E (rd s p)) (st s k (rd s p+1))).Nodup:=by
   refine ut.2 ⟨λhx=> ?_,MF h.once G (by rw[h.len];omega) λq q1 q2=>(h.placed _ q c0 ck q1 q2).1.1.1⟩;obtain⟨q,q1,q2,e⟩:=EN.1 hx;exact hn ⟨q,G,G,e⟩
  have:=mV hnd jt;rw[dm,aCz] at this;omega
 refine⟨⟨aw,hE.2⟩,?_,⟨G,G⟩,G⟩;rw[h.rest _ _ c0 ck G G,b.none_ _ _ c0 ck G G]
include hk hs hR in
theorem iN.lay (h:iN s k R T row3 row E C) (b:qF s k R T row3) {p:Int} {C':Int->Prop} (hp:isS s p) (hn: ¬ ∃q:Int,0<=q/\q<s.length/\rd row q=p) (kc: ∀p',isS s p'->(C' p'↔C p'\/p'=p))
  (Lh: ∀p',isS s p'->rd s p'=rd s p->(∃q:Int,0<=q/\q<s.length/\rd row q=p')->R p p'):
  iN s k R T row3 (upd row (rd E (rd s p)-1) p) (upd E (rd s p) (rd E (rd s p)-1)) C':=by
 obtain⟨c0,ck⟩:=lZ hs hp.1;obtain⟨⟨r1,r2⟩,r3,⟨r4,r5⟩,r6⟩:=h.room hk hs b hp hn;have dv: ∀q,0<=q->rd (upd row (rd E (rd s p)-1) p) q=if q=rd E (rd s p)-1 then p else rd row q:=λq q0=>fI r4 q0 (by rw[h.len];omega)
 have Ke: ∀c,0<=c->rd (upd E (rd s p) (rd E (rd s p)-1)) c=if c=rd s p then rd E (rd s p)-1 else rd E c:=λc Nq=>fI c0 Nq (by rw[h.elen];omega)
 have hex: ∀x:Int,0<=x->((∃q:Int,0<=q/\q<s.length/\rd (upd row (rd E (rd s p)-1) p) q=x)↔((∃q:Int,0<=q/\q<s.length/\rd row q=x)\/x=p)):=by
  intro x hx;constructor
  ·rintro ⟨q,q0,q1,e⟩;rw[dv q q0] at e;split at e
   ·exact .inr e.symm
   ·exact .inl ⟨q,q0,q1,e⟩
  ·rintro (⟨q,q0,q1,e⟩|rfl)
   ·refine ⟨q,q0,q1,?_⟩;rw[dv q q0,bu,e];intro e2;rw[e2,r3] at e;omega
   ·exact⟨_,r4,r5,by rw[dv _ r4,cu rfl]⟩
 refine⟨by rw[aV];exact h.len,by rw[aV];exact h.elen,λc d0 dk=> ?_,λc q d0 dk q1 q2=> ?_,λc q d0 dk q1 q2=> ?_,λq r q0 q1 t0 t1 hq e=> ?_,λp' bw=> ?_,λx y x0 xy y1 hx hy=> ?_⟩
 ·have:=h.hE c d0 dk;rw[Ke c d0];split
  ·rename_i e;subst e;omega
  ·exact this
 ·rw [Ke c d0] at q1;have As:=h.hE c d0 dk;have hsc:=jP (s:=s) d0 dk
  have gv:0<=q:=by
   have:=eX (s:=s) (k:=k) (c:=c);by_cases e2:c=rd s p
   ·rw[cu e2] at q1;omega
   ·rw[bu e2] at q1;omega
  rw[dv q gv];by_cases e:q=rd E (rd s p)-1
  ·rw [cu e]
   have hc:c=rd s p:=by
    by_cases e2:c=rd s p
    ·exact e2
    ·rw [bu e2] at q1;exact mY (s:=s) d0 dk c0 ck G q2 G G
   exact⟨hp,hc.symm⟩
  ·rw [bu e];refine h.placed c q d0 dk ?_ q2;by_cases e2:c=rd s p
   ·rw[cu e2] at q1;subst e2;omega
   ·rw[bu e2] at q1;exact q1
 ·rw [Ke c d0] at q2;have As:=h.hE c d0 dk;have gv:0<=q:=by have:=eX (s:=s) (k:=k) (c:=c);omega
  rw[dv q gv];by_cases e2:c=rd s p
  ·rw [cu e2] at q2;rw[bu G];subst e2;exact h.rest _ q d0 dk q1 G
  ·rw [bu e2] at q2;rw[bu,h.rest c q d0 dk q1 q2];intro e;exact e2 (mY (s:=s) d0 dk c0 ck q1 G G G)
 ·rw [aV,h.len] at q1 t1;rw[dv q q0] at hq e;rw[dv r t0] at e;by_cases e1:q=rd E (rd s p)-1
  ·rw [cu e1] at e;by_cases e2:r=rd E (rd s p)-1
   ·omega
   ·rw [bu e2] at e;exact absurd ⟨r,t0,t1,e.symm⟩ hn
  ·rw [bu e1] at e hq;by_cases e2:r=rd E (rd s p)-1
   ·rw [cu e2] at e;exact absurd ⟨q,q0,q1,e⟩ hn
   ·rw [bu e2] at e;exact h.once q r q0 (by rw[h.len];exact q1) t0 (by rw[h.len];exact t1) hq e
 ·rw[hex p' bw.1.1,h.closed p' bw,kc p' bw]
 ·have key: ∀z:Int,0<=z->z<s.length->0<=rd row z->(z<rd E (rd s p)-1->R (rd row z) p)/\(rd E (rd s p)-1<z->R p (rd row z)):=by
   intro z z0 z1 hz;obtain⟨c,⟨d0,dk⟩,h1,h2⟩:=fO hk hs z0 z1;have pi:=h.at_ b d0 dk h1 h2
   have db:0<=rd row z/\rd row z<s.length:=by
    rcases pi with a|a|a
    ·exact a.2.1.1
    ·exact a.2.1.1
    ·rw[a.2] at hz;omega
   have xv:rd s (rd row z)=c:=by
    rcases pi with a|a|a
    ·exact a.2.2
    ·exact a.2.2
    ·rw[a.2] at hz;omega
   refine⟨λaw=> ?_,λaw=> ?_⟩
   ·rcases ja c (rd s p) with e|e|e
    ·exact hR.char db hp.1 G
    ·subst e;rcases pi with a|a|a
     ·omega
     ·exact hR.ls a.2.1 hp a.2.2
     ·rw[a.2] at hz;omega
    ·have:=jQ (s:=s) c0 e (by omega:c<=k);omega
   ·rcases ja c (rd s p) with e|e|e
    ·have:=jQ (s:=s) d0 e (by omega:rd s p<=k);omega
    ·subst e;rcases pi with a|a|a
     ·exact Lh _ a.2.1 a.2.2 ⟨z,z0,z1,rfl⟩
     ·omega
     ·omega
    ·exact hR.char hp.1 db G
  rw[dv x x0] at hx ⊢;rw[dv y G] at hy ⊢;by_cases e1:x=rd E (rd s p)-1
  ·rw [cu e1,bu G];rw[bu G] at hy;exact(key y G y1 hy).2 G
  ·rw [bu e1];rw[bu e1] at hx;by_cases e2:y=rd E (rd s p)-1
   ·rw [cu e2];exact(key x x0 G hx).1 G
   ·rw [bu e2];rw[bu e2] at hy;exact h.sorted x y x0 xy y1 hx hy
def CS (s row:List Int) (i p:Int):Prop:= ∃q:Int,i<=q/\q<s.length/\rd row q=p+1
theorem SV (b:qF s k R T row3) (hE:E.length=k.toNat) (Nw: ∀c,0<=c->c<k->rd E c=st s k (c+1)) (nj: ∀q:Int,0<=q->q<s.length-> ¬isS s (rd row3 q)):iN s k R T row3 row3 E (CS s row3 s.length):=
 ⟨b.len,hE,λc c0 ck=>by rw[Nw c c0 ck];omega,λc q c0 ck q1 q2=>by rw[Nw c c0 ck] at q1;omega,λc q _ _ _ _=>rfl,b.once,λp hp=>⟨λ⟨q,q0,q1,e⟩=>absurd (by rw[e];exact hp) (nj q q0 q1),λ⟨q,q0,q1,_⟩=>G⟩,b.sorted⟩
theorem YO {i:Int} (h:iN s k R T row3 row E (CS s row (i+1))) (hc: ¬(0<rd row i/\smB s (rd row i-1)=true)):iN s k R T row3 row E (CS s row i):=by
 refine⟨h.len,h.elen,h.hE,h.placed,h.rest,h.once,λp hp=> ?_,h.sorted⟩;rw[h.closed p hp];unfold CS;refine⟨λ⟨q,q0,q1,e⟩=>⟨q,G,q1,e⟩,?_⟩;rintro⟨q,q0,q1,e⟩;rcases ay i q with a|a
 ·exact⟨q,G,q1,e⟩
 ·exfalso;have:q=i:=G
  subst this;rw[e] at hc;have:=hp.1.1;exact hc ⟨G,by rw[show p+1-1=p by omega];exact hp.2⟩
include hk hs in
theorem MC {i:Int} (h:iN s k R T row3 row E (CS s row (i+1))) (b:qF s k R T row3) (i0:0<=i) (hi:i<s.length) (hc:0<rd row i/\smB s (rd row i-1)=true):
  isS s (rd row i-1)/\(¬ ∃q:Int,0<=q/\q<s.length/\rd row q=rd row i-1)/\rd row i<s.length/\rd E (rd s (rd row i-1))-1<i:=by
 have Ds:=h.entry hk hs b i0 hi;have hj:0<=rd row i/\rd row i<s.length:=G
 have hp:isS s (rd row i-1):=⟨G,hc.2⟩
 have hn: ¬ ∃q:Int,0<=q/\q<s.length/\rd row q=rd row i-1:=by
  intro hex;obtain⟨q,q0,q1,e⟩:=(h.closed _ hp).1 hex;have:=h.once q i G (by rw[h.len];omega) i0 (by rw[h.len];exact hi) G G;omega
 refine⟨hp,hn,hj.2,?_⟩;obtain⟨c,⟨c0,ck⟩,h1,h2⟩:=fO hk hs i0 hi;obtain⟨d0,dk⟩:=lZ hs hp.1;obtain⟨_,ox,Pm⟩:=hp.next;rw[show rd row i-1+1=rd row i by omega] at ox Pm;have hEp:=h.hE _ d0 dk;rcases h.at_ b c0 ck h1 h2 with a|a|a
 ·rcases ay (rd s (rd row i-1)) c with e|e
  ·have:=jQ (s:=s) d0 e (by omega:c<=k);omega
  ·have:rd s (rd row i-1)=c:=G
   rw[this];omega
 ·rcases ay (rd s (rd row i-1)) c with e|e
  ·have:=jQ (s:=s) d0 e (by omega:c<=k);omega
  ·exact absurd (Pm G) a.2.1.not_S
 ·omega
include hk hs hR in
theorem YN {i:Int} (h:iN s k R T row3 row E (CS s row (i+1))) (b:qF s k R T row3) (i0:0<=i) (hi:i<s.length) (hc:0<rd row i/\smB s (rd row i-1)=true):
  iN s k R T row3 (upd row (rd E (rd s (rd row i-1))-1) (rd row i-1)) (upd E (rd s (rd row i-1)) (rd E (rd s (rd row i-1))-1)) (CS s (upd row (rd E (rd s (rd row i-1))-1) (rd row i-1)) i):=by
 obtain⟨hp,hn,hj,aw⟩:=MC hk hs h b i0 hi hc;have mv:=h.room hk hs b hp hn;have dv: ∀q,0<=q->rd (upd row (rd E (rd s (rd row i-1))-1) (rd row i-1)) q=if q=rd E (rd s (rd row i-1))-1 then rd row i-1 else rd row q:=λq q0=>fI mv.2.2.1.1 q0 (by rw[h.len];exact mv.2.2.1.2)
 refine h.lay hk hs hR b hp hn (λp' bw=> ?_) λp' bw he hex=> ?_
 ·unfold CS;constructor
  ·rintro ⟨q,q0,q1,e⟩;rw[dv q G,bu G] at e;rcases ay i q with a|a
   ·exact .inl ⟨q,G,q1,e⟩
   ·have:q=i:=G
    subst this;exact .inr G
  ·rintro (⟨q,q0,q1,e⟩|e)
   ·exact⟨q,G,q1,by rw[dv q G,bu G];exact e⟩
   ·exact⟨i,G,hi,by rw[dv i i0,bu G];omega⟩
 ·have Pr:=hp.1;obtain⟨q,q0,q1,e⟩:=(h.closed _ bw).1 hex;have h1:=h.entry hk hs b (q:=q) G q1;have h2:=bw.1;have:=h.sorted i q i0 G q1 G G;rw[e] at this;refine hR.backS hp bw G G he.symm ?_;rwa[show rd row i-1+1=rd row i by omega]
include hk hs in
theorem ME (h:iN s k R T row3 row E (CS s row 0)) (b:qF s k R T row3): ∀(m:Nat) (p:Int),s.length-p<=m->isS s p-> ∃q:Int,0<=q/\q<s.length/\rd row q=p
 |0,p,hm,hp=>by have:=hp.1;omega
 | m+1,p,hm,hp=>by
  have hb:=hp.1;rw[h.closed p hp];obtain⟨a,_,_⟩:=hp.next;rcases pI (s:=s) (p:=p+1) G with l|l
  ·obtain ⟨q,q0,q1,e⟩:=b.all (p+1) l;refine⟨q,q0,q1,?_⟩;obtain⟨c,⟨c0,ck⟩,h1,h2⟩:=fO hk hs q0 q1;have hE:=h.hE c c0 ck;have hr:=FN (b:=b) c0 ck;rw[h.rest c q c0 ck h1 ?_,e];rcases ay q (T c) with d|d
   ·omega
   ·have:=b.none_ c q c0 ck d h2;omega
  ·exact ME h b m (p+1) G l
include hk hs in
theorem UM (h:iN s k R T row3 row E C) (b:qF s k R T row3) {p:Int} (hp:isL s p): ∃q:Int,0<=q/\q<s.length/\rd row q=p:=by
 obtain⟨q,q0,q1,e⟩:=b.all p hp;refine⟨q,q0,q1,?_⟩;obtain⟨c,⟨c0,ck⟩,h1,h2⟩:=fO hk hs q0 q1;have hE:=h.hE c c0 ck;have hr:=FN (b:=b) c0 ck;have hb:=hp.1;rw[h.rest c q c0 ck h1 ?_,e];rcases ay q (T c) with d|d
 ·omega
 ·have:=b.none_ c q c0 ck d h2;omega
include hk hs in
theorem zF (h:iN s k R T row3 row E (CS s row 0)) (b:qF s k R T row3):row.Perm (iota s.length)/\(∀q:Int,0<=q->q+1<s.length->rd s (rd row q)<=rd s (rd row (q+1)))/\row.Pairwise R:=by
 have iz: ∀p:Int,0<=p/\p<s.length-> ∃q:Int,0<=q/\q<s.length/\rd row q=p:=λp hp=>by
  rcases pI hp with l|l
  ·exact UM hk hs h b l
  ·exact ME hk hs h b (s.length-p).toNat p G l
 have oy:(iota s.length).Perm row:=pF (eT _) (λx hx=>by
  obtain⟨q,q0,q1,rfl⟩:=iz x (aW.1 hx)
  exact bH q0 (by rw[h.len];exact q1)) (by rw[h.len,bF];exact dh _)
 have db: ∀q:Int,0<=q->q<s.length->0<=rd row q/\rd row q<s.length:=λq q0 q1=>aW.1 (oy.symm.subset (bH q0 (by rw[h.len];exact q1)))
 have xv: ∀c q:Int,0<=c->c<k->st s k c<=q->q<st s k (c+1)->0<=q->q<s.length->rd s (rd row q)=c:=λc q c0 ck h1 h2 q0 q1=>by
  have hp:=db q q0 q1;rcases h.at_ b c0 ck h1 h2 with a|a|a
  ·exact a.2.2
  ·exact a.2.2
  ·omega
 refine⟨oy.symm,λq q0 q1=> ?_,?_⟩
 ·obtain ⟨c,⟨c0,ck⟩,h1,h2⟩:=fO hk hs q0 G;obtain⟨d,⟨d0,dk⟩,h3,h4⟩:=fO hk hs (q:=q+1) G q1;rw[xv c q c0 ck h1 h2 q0 G,xv d (q+1) d0 dk h3 h4 G q1];rcases ay d c with e|e
  ·have:=jQ (s:=s) d0 e (by omega:c<=k);omega
  ·exact e
 ·refine di.2 λx y hx hy Na=> ?_
  have e: ∀z (hz:z<row.length),rd row z=row[z]:=λz hz=>by
   unfold rd;rw[az,af,av hz];rfl
  rw[h.len] at hx hy;have:=h.sorted x y G G G (db x G G).1 (db y G G).1;rwa[e x (by rw[h.len];exact hx),e y (by rw[h.len];exact hy)] at this
end
end Go.Pure
namespace Go.Pure
open Go Go.Eng
section
variable {s:List Int} {k:Int}
structure uZ (s:List Int) (k:Int) (l:List Int) (row E:List Int):Prop where
 len:row.length=s.length
 elen:E.length=k.toNat
 hE: ∀c,0<=c->c<k->rd E c=st s k (c+1)-(dK l s c).length
 vals: ∀c u:Int,0<=c->c<k->0<=u->u<(dK l s c).length->rd row (rd E c+u)=rd (dK l s c) u
 none_: ∀c q,0<=c->c<k->st s k c<=q->q<rd E c->rd row q= -1
def jD (s l:List Int):Prop:=l.Nodup/\ ∀j∈l,(0<=j/\j<s.length)/\fG s j=true
theorem jK {l:List Int} (h:l.Perm (bM s)):jD s l:=⟨h.symm.nodup (xB s),λj hj=>rC.1 (h.subset hj)⟩
theorem jD.tail {l:List Int} {j:Int} (h:jD s (j::l)):jD s l:=⟨(ut.1 h.1).2,λx hx=>h.2 x (dw _ hx)⟩
theorem jD.small {l:List Int} (h:jD s l) {j:Int} (hj:j∈l):isS s j:=⟨(h.2 j hj).1,(lW.1 (h.2 j hj).2).2.1⟩
theorem uE {l:List Int} (h:jD s l) (c:Int):(dK l s c).length<=(DN s c).length:=
 mV (h.1.sublist rz) λx hx=>by
  obtain⟨h1,h2⟩:=mo.1 hx;rw[ii] at h2;exact IJ.2 ⟨h.small h1,h2⟩
theorem nQ {l keys:List Int} {j c:Int} (h:rd keys j=c):dK (j::l) keys c=j::dK l keys c:=by
 unfold dK;rw[ny (by simpa using h)]
theorem qY {l keys:List Int} {j c:Int} (h:rd keys j≠c):dK (j::l) keys c=dK l keys c:=by
 unfold dK;rw[ku (by simpa using h)]
theorem aAh (hk:0<=k) (hs: ∀x∈s,0<=x/\x<k) {E:List Int} (hE:E.length=k.toNat) (Nw: ∀c,0<=c->c<k->rd E c=st s k (c+1)):uZ s k [] (List.replicate s.length (-1)) E:=by
 refine⟨cD,hE,λc c0 ck=>by rw[Nw c c0 ck];simp[dK],λc u _ _ _ hu=>by simp[dK] at hu;omega,λc q c0 ck h1 h2=> ?_⟩;rw[Nw c c0 ck] at h2;have h0:=eX (s:=s) (k:=k) (c:=c);have h3:=vX hk hs (c:=c+1) G G;unfold rd;rw[af,zk,cu G];rfl
variable {row E:List Int} {l:List Int} {j:Int}
theorem uZ.room (hk:0<=k) (hs: ∀x∈s,0<=x/\x<k) (h:uZ s k l row E) (ok:jD s (j::l)):st s k (rd s j)<=rd E (rd s j)-1/\(0<=rd E (rd s j)-1/\rd E (rd s j)-1<s.length)/\(0<=rd s j/\rd s j<k)/\rd E (rd s j)<=st s k (rd s j+1):=by
 have hj:=ok.2 j cD;obtain⟨c0,ck⟩:=lZ hs hj.1;have h1:=uE ok (rd s j);rw[nQ rfl,dm] at h1;have h2:=jP (s:=s) c0 ck;have h3:=h.hE _ c0 ck;have h4:=eX (s:=s) (k:=k) (c:=rd s j);have h5:=vX hk hs (c:=rd s j+1) G G;omega
theorem uZ.step (hk:0<=k) (hs: ∀x∈s,0<=x/\x<k) (h:uZ s k l row E) (ok:jD s (j::l)):uZ s k (j::l) (upd row (rd E (rd s j)-1) j) (upd E (rd s j) (rd E (rd s j)-1)):=by
 obtain⟨r1,⟨r2,r3⟩,⟨c0,ck⟩,r4⟩:=h.room hk hs ok;have dv: ∀q,0<=q->rd (upd row (rd E (rd s j)-1) j) q=if q=rd E (rd s j)-1 then j else rd row q:=λq q0=>fI r2 q0 (by rw[h.len];omega)
 have Ke: ∀c,0<=c->rd (upd E (rd s j) (rd E (rd s j)-1)) c=if c=rd s j then rd E (rd s j)-1 else rd E c:=λc Nq=>fI c0 Nq (by rw[h.elen];omega)
 refine⟨by rw[aV];exact h.len,by rw[aV];exact h.elen,λc d0 dk=> ?_,λc u d0 dk u0 hu=> ?_,λc q d0 dk q1 q2=> ?_⟩
 ·rw [Ke c d0];by_cases e:c=rd s j
  ·rw[cu e,e,nQ rfl,h.hE _ c0 ck,dm];omega
  ·rw[bu e,qY λh=>e h.symm];exact h.hE c d0 dk
 ·rw [Ke c d0];have As:=h.hE c d0 dk;have hsc:=jP (s:=s) d0 dk;have l4:=uE ok c;have ye:=eX (s:=s) (k:=k) (c:=c);by_cases e:c=rd s j
  ·subst e;rw[cu rfl];rw[nQ rfl] at hu l4 ⊢;rw[dm] at hu l4;rw[dv _ G];by_cases e2:u=0
   ·subst e2;rw[cu G];rfl
   ·rw [bu G];have:=h.vals _ (u-1) c0 ck G G;rw[show rd E (rd s j)-1+u=rd E (rd s j)+(u-1) by omega,this];unfold rd;rw[show u.toNat=(u-1).toNat+1 by omega];rfl
  ·rw [bu e];rw[qY λh=>e h.symm] at hu l4 ⊢;rw[dv _ G,bu,h.vals c u d0 dk u0 hu];intro e2;exact e (mY (s:=s) d0 dk c0 ck (q:=rd E c+u) G G G G)
 ·rw [Ke c d0] at q2;have As:=h.hE c d0 dk;have ye:=eX (s:=s) (k:=k) (c:=c);rw[dv q G];by_cases e:c=rd s j
  ·rw [cu e] at q2;rw[bu G];subst e;exact h.none_ _ q d0 dk q1 G
  ·rw [bu e] at q2;rw[bu,h.none_ c q d0 dk q1 q2];intro e2;exact e (mY (s:=s) d0 dk c0 ck (q:=q) q1 G G G)
theorem gM {l:List Int} {u:Nat} (h:u<l.length):rd l (u:Int)=l[u]:=by
 unfold rd;rw[az,af,av h];rfl
theorem eQ {l:List Int} {i:Int} (h0:0<=i) (h:i<l.length):rd l i=l[i.toNat]' G:=by
 unfold rd;rw[af,av G];rfl
theorem dW {l:List Int} {r:Int->Int->Prop} (h:l.Pairwise r) {i j:Int} (h0:0<=i) (na:i<j) (hj:j<l.length):r (rd l i) (rd l j):=by
 rw[eQ h0 G,eQ G hj];exact di.1 h i.toNat j.toNat G G G
theorem jG {l:List Int} (hd:l.Nodup) {i j:Int} (h0:0<=i) (h:i<l.length) (g0:0<=j) (g:j<l.length) (e:rd l i=rd l j):i=j:=by
 have hi:i.toNat<l.length:=G
 have hj:j.toNat<l.length:=G
 unfold rd at e;rw[af,af,av hi,av hj] at e;simp only[mh] at e;rcases ja i j with a|a|a
 ·exact absurd e (di.1 hd i.toNat j.toNat hi hj G)
 ·exact a
 ·exact absurd e.symm (di.1 hd j.toNat i.toNat hj hi G)
theorem sH {R:Int->Int->Prop} (hR:aSj s R) (hk:0<=k) (hs: ∀x∈s,0<=x/\x<k) (h:uZ s k l row E) (hp:l.Perm (bM s)) (hσ: ∀c,(dK l s c).Pairwise R):sQ s k R (λc=>(dK l s c).length) row:=by
 have ok:=jK hp
 have pi: ∀c q,0<=c->c<k->st s k c<=q->q<st s k (c+1)->(q<rd E c/\rd row q= -1)\/(rd E c<=q/\rd row q=rd (dK l s c) (q-rd E c)/\rd row q∈dK l s c):=by
  intro c q c0 ck h1 h2;have As:=h.hE c c0 ck;rcases ay q (rd E c) with a|a
  ·exact .inl ⟨a,h.none_ c q c0 ck h1 a⟩
  ·have:=h.vals c (q-rd E c) c0 ck G G;rw[show rd E c+(q-rd E c)=q by omega] at this;refine .inr ⟨a,this,?_⟩;rw[this];exact bH G G
 have jt: ∀ {c x},x∈dK l s c->isS s x/\rd s x=c/\x∈l:=λ{c x} hx=>by
  obtain⟨h1,h2⟩:=mo.1 hx;rw[ii] at h2;exact⟨ok.small h1,h2,h1⟩
 have db: ∀q:Int,0<=q->q<s.length->0<=rd row q-> ∃c,(0<=c/\c<k)/\st s k c<=q/\q<st s k (c+1)/\rd E c<=q/\rd row q=rd (dK l s c) (q-rd E c)/\rd row q∈dK l s c:=by
  intro q q0 q1 hq;obtain⟨c,⟨c0,ck⟩,h1,h2⟩:=fO hk hs q0 q1;rcases pi c q c0 ck h1 h2 with a|a
  ·omega
  ·exact⟨c,⟨c0,ck⟩,h1,h2,a⟩
 refine⟨h.len,λc c0 ck=>⟨G,by have:=uE ok c;omega⟩,λc q c0 ck h1 h2=> ?_,λc q c0 ck h1 h2=> ?_,λq r q0 q1 r0 r1 hq e=> ?_,λp p0 p1 hf=> ?_,λx y x0 xy y1 hx hy=> ?_⟩
 ·have As:=h.hE c c0 ck;have ee:=jP (s:=s) c0 ck;have:=uE ok c;rcases pi c q c0 ck G h2 with a|a
  ·omega
  ·have:=jt a.2.2;exact⟨this.1,this.2.1⟩
 ·have As:=h.hE c c0 ck;exact h.none_ c q c0 ck h1 G
 ·rw [h.len] at q1 r1;obtain⟨c,⟨c0,ck⟩,h1,h2,h3,h4,h5⟩:=db q q0 q1 hq;obtain⟨d,⟨d0,dk⟩,g1,g2,g3,g4,g5⟩:=db r r0 r1 G
  have t6:c=d:=by
   have a:=(jt h5).2.1;have b:=(jt g5).2.1;rw[e] at a;omega
  subst t6;have As:=h.hE c c0 ck;rw[h4,g4] at e;have:=jG (ok.1.sublist rz:(dK l s c).Nodup) G G G G e;omega
 ·have qs:=hp.symm.subset (rC.2 ⟨⟨p0,p1⟩,hf⟩);obtain⟨c0,ck⟩:=lZ hs ⟨p0,p1⟩;have Jj:p∈dK l s (rd s p):=mo.2 ⟨qs,cD⟩;obtain⟨u,hu,e⟩:=gz.1 Jj;have As:=h.hE _ c0 ck;have ee:=jP (s:=s) c0 ck;have l4:=uE ok (rd s p);have ye:=eX (s:=s) (k:=k) (c:=rd s p);have mj:=vX hk hs (c:=rd s p+1) G G;refine⟨rd E (rd s p)+u,G,G,?_⟩;rw[h.vals _ u c0 ck G G,gM hu];exact e
 ·obtain ⟨c,⟨c0,ck⟩,h1,h2,h3,h4,h5⟩:=db x x0 G hx;obtain⟨d,⟨d0,dk⟩,g1,g2,g3,g4,g5⟩:=db y G y1 hy;have a:=jt h5;have b:=jt g5;rcases ja c d with t6|t6|t6
  ·exact hR.char a.1.1 b.1.1 G
  ·subst t6;have As:=h.hE c c0 ck;rw[h4,g4];exact dW (hσ c) G G G
  ·have:=jQ (s:=s) d0 t6 (by omega:c<=k);omega
def noS (s:List Int) (x:Int):Int:=if 0<=x/\smB s x=true then -1 else x
theorem cleared (hk:0<=k) (hs: ∀x∈s,0<=x/\x<k) {R R':Int->Int->Prop} (r9: ∀p q,isL s p->isL s q->R p q->R' p q) {mF:Int->Int} {row0 H V:List Int} (h:iO s k R mF row0 row H (CL s row s.length)) (b:sQ s k R mF row0) (hl:V.length=s.length) (hV: ∀q:Int,0<=q->q<s.length->rd V q=noS s (rd row q)):
  qF s k R' (λc=>rd H c) V/\ ∀q:Int,0<=q->q<s.length-> ¬isS s (rd V q):=by
 have ye: ∀q:Int,0<=q->q<s.length->0<=rd V q->rd V q=rd row q:=λq q0 q1 hq=>by
  rw[hV q q0 q1] at hq ⊢;unfold noS at hq ⊢;split
  ·rename_i e;rw[cu e] at hq;omega
  ·rfl
 have hL: ∀q:Int,0<=q->q<s.length->isL s (rd row q)->rd V q=rd row q:=λq q0 q1 hq=>by
  rw[hV q q0 q1];unfold noS;rw[bu];rintro⟨_,e⟩;exact hq.not_S ⟨hq.1,e⟩
 refine⟨⟨hl,h.hH,λc q c0 ck h1 h2=> ?_,λc q c0 ck h1 h2=> ?_,λq r q0 q1 r0 r1 hq e=> ?_,λp hp=> ?_,λx y x0 xy y1 hx hy=> ?_⟩,λq q0 q1 hq=> ?_⟩
 ·have h0:=eX (s:=s) (k:=k) (c:=c);have hH:=h.hH c c0 ck;have hr:=EF (b:=b) c0 ck;have hm:=b.m0 c c0 ck;have mj:=vX hk hs (c:=c+1) G G;have:=h.placed c q c0 ck h1 h2;rw[hL q G G this.1];exact this
 ·have h0:=eX (s:=s) (k:=k) (c:=c);have hH:=h.hH c c0 ck;have mj:=vX hk hs (c:=c+1) G G;rw[hV q G G];unfold noS;rcases h.at_ b c0 ck G h2 with a|a|a
  ·omega
  ·rw[cu ⟨a.2.1.1.1,a.2.1.2⟩]
  ·rw[a.2,bu G]
 ·rw [hl] at q1 r1;have e1:=ye q q0 q1 hq;have e2:=ye r r0 r1 G;exact h.once q r q0 (by rw[h.len];exact q1) r0 (by rw[h.len];exact r1) G G
 ·obtain ⟨q,q0,q1,e⟩:=ND hk hs h b (s.length-p).toNat p G hp;exact⟨q,q0,q1,by rw[hL q q0 q1 (by rw[e];exact hp)];exact e⟩
 ·have ex:=ye x x0 G hx;have ey:=ye y G y1 hy;rw[ex,ey];rw[ex] at hx;rw[ey] at hy
  have Wm: ∀q:Int,0<=q->q<s.length->0<=rd row q->rd V q=rd row q->isL s (rd row q):=λq q0 q1 hq eV=>by
   obtain⟨c,⟨c0,ck⟩,h1,h2⟩:=fO hk hs q0 q1;rcases h.at_ b c0 ck h1 h2 with a|a|a
   ·exact a.2.1
   ·rw [hV q q0 q1] at eV;unfold noS at eV;rw[cu ⟨a.2.1.1.1,a.2.1.2⟩] at eV;omega
   ·omega
  exact r9 _ _ (Wm x x0 G hx ex) (Wm y G y1 hy ey) (h.sorted x y x0 xy y1 hx hy)
 ·have e:=ye q q0 q1 hq.1.1;rw[e] at hq;rw[hV q q0 q1] at e;unfold noS at e;rw[cu ⟨hq.1.1,hq.2⟩] at e;have:=hq.1.1;omega
def bAl (s:List Int) (j:Int) (z:List Int × List Int):List Int × List Int:=(upd z.1 (rd z.2 (rd s j)-1) j,upd z.2 (rd s j) (rd z.2 (rd s j)-1))
def aVi (s:List Int) (j:Int) (z:List Int × List Int):List Int × List Int:=(upd z.1 (rd z.2 (rd s j)) j,upd z.2 (rd s j) (rd z.2 (rd s j)+1))
def SK (s:List Int) (i:Int) (z:List Int × List Int):List Int × List Int:=if 0<rd z.1 i/\smB s (rd z.1 i-1)=false then aVi s (rd z.1 i-1) z else z
def SH (s:List Int) (i:Int) (z:List Int × List Int):List Int × List Int:=if 0<rd z.1 i/\smB s (rd z.1 i-1)=true then bAl s (rd z.1 i-1) z else z
def pK (cs:List Int):List Int:=(List.range cs.length).map λi:Nat=>ps cs ((i:Int)+1)
def itF (s:List Int) (k:Int) (l:List Int):List Int × List Int:=l.foldr (bAl s) (List.replicate s.length (-1),pK (dR s k))
def itL (s:List Int) (k:Int) (l:List Int):Nat->List Int × List Int
 |0=>aVi s (s.length-1) ((itF s k l).1,bZ (dR s k))
 |i+1=>SK s i (itL s k l i)
def zQ (s row:List Int):List Int:=row.map (noS s)
def itS (s:List Int) (k:Int) (l:List Int):Nat->List Int × List Int
 |0=>(zQ s (itL s k l s.length).1,pK (dR s k))
 |m+1=>SH s (s.length-1-m) (itS s k l m)
def pJ (s:List Int) (k:Int) (l:List Int):List Int:=(itS s k l s.length).1
theorem BP (cs:List Int):(pK cs).length=cs.length:=by simp[pK]
theorem GH {cs:List Int} {i:Int} (h0:0<=i) (h:i<cs.length):rd (pK cs) i=ps cs (i+1):=by
 unfold pK;rw[gH h0 h];rw[show((i.toNat:Nat):Int)=i by omega]
variable (hk:0<=k) (hs: ∀x∈s,0<=x/\x<k)
include hk hs in
theorem xA: ∀ {l:List Int},jD s l->uZ s k l (itF s k l).1 (itF s k l).2
 |[],_=>aAh hk hs (by show(pK _).length=_;rw[BP,dL]) λc c0 ck=>by
  show rd (pK _) c=_;rw[GH c0 (by rw[dL];omega)];rfl
 |j::l,ok=>(xA (l:=l) ok.tail).step hk hs ok
section
variable {R R':Int->Int->Prop} (hR:aSj s R) (Hi:aWw s R') (r9: ∀p q,isL s p->isL s q->R p q->R' p q) (hσ: ∀c,(dK l s c).Pairwise R)
include hk hs hR hσ in
theorem PX (hp:l.Perm (bM s)) (hn:0<s.length): ∀i:Nat,i<=s.length->iO s k R (λc=>(dK l s c).length) (itF s k l).1 (itL s k l i).1 (itL s k l i).2 (CL s (itL s k l i).1 i)
 |0,_=>UN hk hs hR (sH hR hk hs (xA hk hs (jK hp)) hp hσ) hn (by rw[eB,dL]) λc c0 ck=>mJ c0 (by rw[dL];omega)
 | i+1,hi=>by
  have ih:=PX hp hn i G;have b:=sH hR hk hs (xA hk hs (jK hp)) hp hσ;rw[show((i+1:Nat):Int)=(i:Int)+1 by omega];rw[itL];unfold SK;split
  ·rename_i hc;exact ZU hk hs hR ih b G G hc
  ·rename_i hc;exact ZV ih hc
theorem aUa {row:List Int} {q:Int} (h0:0<=q) (h:q<row.length):rd (zQ s row) q=noS s (rd row q):=by
 unfold zQ rd;rw[af,af,qo,av G];rfl
include hk hs hR hσ r9 in
theorem qD (hp:l.Perm (bM s)) (hn:0<s.length):qF s k R' (λc=>rd (itL s k l s.length).2 c) (zQ s (itL s k l s.length).1)/\ ∀q:Int,0<=q->q<s.length-> ¬isS s (rd (zQ s (itL s k l s.length).1) q):=by
 have h:=PX hk hs hR hσ hp hn s.length (dh _);exact cleared hk hs r9 h (sH hR hk hs (xA hk hs (jK hp)) hp hσ) (by unfold zQ;rw[bi];exact h.len) λq q0 q1=>aUa q0 (by rw[h.len];exact q1)
include hk hs hR Hi hσ r9 in
theorem PW (hp:l.Perm (bM s)) (hn:0<s.length): ∀m:Nat,m<=s.length->iN s k R' (λc=>rd (itL s k l s.length).2 c) (zQ s (itL s k l s.length).1) (itS s k l m).1 (itS s k l m).2 (CS s (itS s k l m).1 (s.length-m))
 | 0,_=>by
  have b:=qD hk hs hR r9 hσ hp hn
  exact SV b.1 (by show(pK _).length=_;rw[BP,dL]) (λc c0 ck=>by
   show rd (pK _) c=_;rw[GH c0 (by rw[dL];omega)]
   rfl) b.2
 | m+1,hm=>by
  have ih:=PW hp hn m G;have b:=(qD hk hs hR r9 hσ hp hn).1;rw[show(s.length:Int)-(m:Nat)=(s.length-1-(m:Int))+1 by omega] at ih;rw[show(s.length:Int)-((m+1:Nat):Int)=s.length-1-(m:Int) by omega];rw[itS];unfold SH;split
  ·rename_i hc;exact YN hk hs Hi ih b G G hc
  ·rename_i hc;exact YO ih hc
include hk hs hR Hi hσ r9 in
theorem UR (hp:l.Perm (bM s)) (hn:0<s.length):(pJ s k l).Perm (iota s.length)/\(∀q:Int,0<=q->q+1<s.length->rd s (rd (pJ s k l) q)<=rd s (rd (pJ s k l) (q+1)))/\(pJ s k l).Pairwise R':=by
 have h:=PW hk hs hR Hi r9 hσ hp hn s.length (dh _);rw[show(s.length:Int)-(s.length:Nat)=0 by omega] at h;exact zF hk hs h (qD hk hs hR r9 hσ hp hn).1
end
def RO (s l:List Int) (x y:Int):Prop:=l.Pairwise (bU s)->bU s x y
theorem aSk:aSj s (RO s l):=⟨λhp hq h _=>qV hp hq h,λhp hq h _=>ZN hp hq h,λhn q0 hq e _ _=>aNr hn q0 hq e,λhp hq p1 q1 e h hσ=>HZ hp.1.1 p1 hq.1.1 q1 e (h hσ)⟩
theorem bFu:aWw s (RO s l):=⟨λhp hq h _=>qV hp hq h,λhp hq h _=>ZN hp hq h,λhp hq p1 q1 e h hσ=>HZ hp.1.1 p1 hq.1.1 q1 e (h hσ)⟩
theorem KA (c:Int):(dK l s c).Pairwise (RO s l):=by
 by_cases h:l.Pairwise (bU s)
 ·exact(h.sublist rz:(dK l s c).Pairwise (bU s)).imp λh _=>h
 ·exact List.pairwise_of_forall λ_ _ hσ=>absurd hσ h
include hk hs in
theorem uL (hp:l.Perm (bM s)):sQ s k (RO s l) (λc=>(dK l s c).length) (itF s k l).1:=sH aSk hk hs (xA hk hs (jK hp)) hp KA
include hk hs in
theorem PY (hp:l.Perm (bM s)) (hn:0<s.length): ∀i:Nat,i<=s.length->iO s k (RO s l) (λc=>(dK l s c).length) (itF s k l).1 (itL s k l i).1 (itL s k l i).2 (CL s (itL s k l i).1 i):=PX hk hs aSk KA hp hn
include hk hs in
theorem JM (hp:l.Perm (bM s)) (hn:0<s.length):qF s k (RO s l) (λc=>rd (itL s k l s.length).2 c) (zQ s (itL s k l s.length).1)/\ ∀q:Int,0<=q->q<s.length-> ¬isS s (rd (zQ s (itL s k l s.length).1) q):=qD hk hs aSk (λ_ _ _ _ h=>h) KA hp hn
include hk hs in
theorem aPa (hp:l.Perm (bM s)) (hn:0<s.length): ∀m:Nat,m<=s.length->iN s k (RO s l) (λc=>rd (itL s k l s.length).2 c) (zQ s (itL s k l s.length).1) (itS s k l m).1 (itS s k l m).2 (CS s (itS s k l m).1 (s.length-m)):=PW hk hs aSk bFu (λ_ _ _ _ h=>h) KA hp hn
include hk hs in
theorem aEg (hp:l.Perm (bM s)) (hn:0<s.length):(pJ s k l).Perm (iota s.length)/\(∀q:Int,0<=q->q+1<s.length->rd s (rd (pJ s k l) q)<=rd s (rd (pJ s k l) (q+1)))/\(l.Pairwise (bU s)->(pJ s k l).Pairwise (bU s)):=by
 have h:=UR hk hs (l:=l) aSk bFu (λ_ _ _ _ h=>h) KA hp hn;exact⟨h.1,h.2.1,λhσ=>h.2.2.imp λh=>h hσ⟩
end
end Go.Pure
namespace Go.Pure
open Go Go.Eng
section
variable {s:List Int} {k:Int} {l row E H V:List Int}
theorem aPb {m:Nat} (hm:m<l.length):itF s k (l.drop m)=bAl s (rd l (m:Int)) (itF s k (l.drop (m+1))):=by
 unfold itF;rw[gM hm,jw hm,List.foldr_cons]
theorem zI (h:jD s l) (m:Nat):jD s (l.drop m):=⟨h.1.sublist (yx _ _),λj hj=>h.2 j (pg hj)⟩
variable (hk:0<=k) (hs: ∀x∈s,0<=x/\x<k)
include hk hs in
include hk hs in
theorem fF (hp:l.Perm (bM s)) {m:Nat} (hm:m<l.length) (hr:row=(itF s k (l.drop (m+1))).1) (hE:E=(itF s k (l.drop (m+1))).2):
  (0<=rd l (m:Int)/\rd l (m:Int)<s.length)/\(0<=rd s (rd l (m:Int))/\rd s (rd l (m:Int))<k)/\(0<=rd E (rd s (rd l (m:Int)))-1/\rd E (rd s (rd l (m:Int)))-1<s.length)/\(row.length=s.length/\E.length=k.toNat)/\
  upd row (rd E (rd s (rd l (m:Int)))-1) (rd l (m:Int))=(itF s k (l.drop m)).1/\upd E (rd s (rd l (m:Int))) (rd E (rd s (rd l (m:Int)))-1)=(itF s k (l.drop m)).2:=by
 have ok:=jK hp;have h:=xA hk hs (zI ok (m+1))
 have Yt:jD s (rd l (m:Int)::l.drop (m+1)):=by
  have:=zI ok m;rwa[jw hm,<-gM hm] at this
 have r:=h.room hk hs Yt;rw[aPb hm];subst hr;subst hE;exact⟨(Yt.2 _ cD).1,r.2.2.1,r.2.1,⟨h.len,h.elen⟩,rfl,rfl⟩
include hk hs in
theorem fL0 (hp:l.Perm (bM s)) (hn:0<s.length) (hr:row=(itF s k l).1) (hH:H=bZ (dR s k)):
  (0<=rd s ((s.length:Int)-1)/\rd s ((s.length:Int)-1)<k)/\(0<=rd H (rd s ((s.length:Int)-1))/\rd H (rd s ((s.length:Int)-1))<s.length)/\(row.length=s.length/\H.length=k.toNat)/\
  upd row (rd H (rd s ((s.length:Int)-1))) ((s.length:Int)-1)=(itL s k l 0).1/\upd H (rd s ((s.length:Int)-1)) (rd H (rd s ((s.length:Int)-1))+1)=(itL s k l 0).2/\smB s ((s.length:Int)-1)=false:=by
 have h:=xA hk hs (jK hp);have hc:=lZ hs (p:=(s.length:Int)-1) G;have ee:rd H (rd s ((s.length:Int)-1))=st s k (rd s ((s.length:Int)-1)):=by rw[hH,mJ hc.1 (by rw[dL];omega)];rfl
 have h1:=eX (s:=s) (k:=k) (c:=rd s ((s.length:Int)-1));have h2:=jP (s:=s) hc.1 hc.2;have h3:=vX hk hs (c:=rd s ((s.length:Int)-1)+1) G G;have hl:isL s ((s.length:Int)-1):=⟨G,oV G G⟩;have h4:0<(DR s (rd s ((s.length:Int)-1))).length:=Cn (IK.2 ⟨hl,rfl⟩);have Ry:=hl.2;subst hr;subst hH;exact⟨hc,G,⟨h.len,by rw[eB,dL]⟩,rfl,rfl,Ry⟩
include hk hs in
theorem fLe (hp:l.Perm (bM s)) (hn:0<s.length) {i:Nat} (hi:i<s.length) (hr:row=(itL s k l i).1) (hH:H=(itL s k l i).2):
  (rd row (i:Int)= -1\/(0<=rd row (i:Int)/\rd row (i:Int)<s.length))/\(row.length=s.length/\H.length=k.toNat):=by
 have h:=PY hk hs hp hn i G;have b:=uL hk hs hp;subst hr;subst hH;exact⟨h.entry hk hs b G G,h.len,h.hlen⟩
include hk hs in
theorem fL (hp:l.Perm (bM s)) (hn:0<s.length) {i:Nat} (hi:i<s.length) (hr:row=(itL s k l i).1) (hH:H=(itL s k l i).2) (hc:0<rd row (i:Int)/\smB s (rd row (i:Int)-1)=false):
  rd row (i:Int)<s.length/\(0<=rd s (rd row (i:Int)-1)/\rd s (rd row (i:Int)-1)<k)/\(0<=rd H (rd s (rd row (i:Int)-1))/\rd H (rd s (rd row (i:Int)-1))<s.length)/\
  upd row (rd H (rd s (rd row (i:Int)-1))) (rd row (i:Int)-1)=(itL s k l (i+1)).1/\upd H (rd s (rd row (i:Int)-1)) (rd H (rd s (rd row (i:Int)-1))+1)=(itL s k l (i+1)).2:=by
 have h:=PY hk hs hp hn i G;have b:=uL hk hs hp;subst hr;subst hH;obtain⟨h1,h2,h3,_⟩:=NC hk hs h b G G hc;have hb:=lZ hs h1.1;have hr:=h.room hk hs b h1 h2;have h4:=(h.hH _ hb.1 hb.2).1;have h5:=eX (s:=s) (k:=k) (c:=rd s (rd (itL s k l i).1 (i:Int)-1));have h6:=vX hk hs (c:=rd s (rd (itL s k l i).1 (i:Int)-1)+1) G G;have h7:=jP (s:=s) hb.1 hb.2;refine⟨h3,hb,⟨G,G⟩,?_,?_⟩
 ·rw[itL,SK,cu hc];rfl
 ·rw[itL,SK,cu hc];rfl
theorem fLs {i:Nat} (hr:row=(itL s k l i).1) (hH:H=(itL s k l i).2) (hc: ¬(0<rd row (i:Int)/\smB s (rd row (i:Int)-1)=false)):row=(itL s k l (i+1)).1/\H=(itL s k l (i+1)).2:=by
 subst hr;subst hH;rw[itL,SK,bu hc];exact⟨rfl,rfl⟩
def pO (s row:List Int) (i:Int):List Int:=(row.take i.toNat).map (noS s)++row.drop i.toNat
theorem aJq:pO s row 0=row:=by simp[pO]
theorem WS (i:Int):(pO s row i).length=row.length:=by simp[pO];omega
theorem aRg {i:Int} (h:(row.length:Int)<=i):pO s row i=zQ s row:=by
 unfold pO zQ;rw[bn G,uk G,jo]
theorem PI {i q:Int} (q0:0<=q) (hq:i<=q) (h0:0<=i) (hl:i<=row.length):rd (pO s row i) q=rd row q:=by
 unfold pO rd;rw[af,af,iy cG,qc];simp only[bi,ax];congr 2;omega
theorem NY {i:Int} (h0:0<=i) (hi:i<row.length):pO s row (i+1)=upd (pO s row i) i (noS s (rd row i)):=by
 unfold pO upd;have aw:i.toNat<row.length:=G
 rw[show(i+1).toNat=i.toNat+1 by omega,qp,av aw,Cz _ _ cG,jh];simp only[bi,ax,Bz,kv,qi,ig,nz];congr 1;rw[show i.toNat-min i.toNat row.length=0 by omega,jw aw,Ew,eQ h0 hi]
theorem aWf {i:Int} (h0:0<=i) (hi:i<row.length) (h:0<=rd (pO s row i) i/\smB s (rd (pO s row i) i)=true):upd (pO s row i) i (-1)=pO s row (i+1):=by
 rw[PI h0 (ky _) h0 G] at h;rw[NY h0 hi,noS,cu h]
theorem aLd {l:List Int} {i:Int} (h0:0<=i) (hi:i<l.length):upd l i (rd l i)=l:=by
 unfold upd;rw[eQ h0 hi,List.set_getElem_self]
theorem bBb {i:Int} (h0:0<=i) (hi:i<row.length) (h: ¬(0<=rd (pO s row i) i/\smB s (rd (pO s row i) i)=true)):pO s row i=pO s row (i+1):=by
 have e:=PI (s:=s) (row:=row) h0 (ky _) h0 (by omega:i<=(row.length:Int));rw[e] at h;rw[NY h0 hi,noS,bu h];have:=aLd (l:=pO s row i) h0 (by rw[WS];exact hi);rw[e] at this;exact this.symm
include hk hs in
theorem aWg (hp:l.Perm (bM s)) (hn:0<s.length) {q:Int} (q0:0<=q) (hq:q<s.length):rd (itL s k l s.length).1 q= -1\/(0<=rd (itL s k l s.length).1 q/\rd (itL s k l s.length).1 q<s.length):=
 (PY hk hs hp hn s.length (dh _)).entry hk hs (uL hk hs hp) q0 hq
include hk hs in
theorem EQ (hp:l.Perm (bM s)) (hn:0<s.length):(itL s k l s.length).1.length=s.length:=(PY hk hs hp hn s.length (dh _)).len
include hk hs in
theorem fSe (hp:l.Perm (bM s)) (hn:0<s.length) {m:Nat} (hm:m<s.length) {i:Int} (hi:i=s.length-1-(m:Int)) (hr:row=(itS s k l m).1) (hE:E=(itS s k l m).2):
  (rd row i= -1\/(0<=rd row i/\rd row i<s.length))/\(row.length=s.length/\E.length=k.toNat):=by
 have h:=aPa hk hs hp hn m G;have b:=(JM hk hs hp hn).1;subst hr;subst hE;exact⟨h.entry hk hs b G G,h.len,h.elen⟩
include hk hs in
theorem fS (hp:l.Perm (bM s)) (hn:0<s.length) {m:Nat} (hm:m<s.length) {i:Int} (hi:i=s.length-1-(m:Int)) (hr:row=(itS s k l m).1) (hE:E=(itS s k l m).2) (hc:0<rd row i/\smB s (rd row i-1)=true):
  rd row i<s.length/\(0<=rd s (rd row i-1)/\rd s (rd row i-1)<k)/\(0<=rd E (rd s (rd row i-1))-1/\rd E (rd s (rd row i-1))-1<s.length)/\
  upd row (rd E (rd s (rd row i-1))-1) (rd row i-1)=(itS s k l (m+1)).1/\upd E (rd s (rd row i-1)) (rd E (rd s (rd row i-1))-1)=(itS s k l (m+1)).2:=by
 have h:=aPa hk hs hp hn m G;have b:=(JM hk hs hp hn).1;subst hr;subst hE;have hcs:CS s (itS s k l m).1 (s.length-(m:Int))=CS s (itS s k l m).1 (i+1):=by rw[hi];congr 1;omega
 rw[hcs] at h;obtain⟨h1,h2,h3,_⟩:=MC hk hs h b G G hc;have hb:=lZ hs h1.1;have hr:=h.room hk hs b h1 h2;have h4:=h.hE _ hb.1 hb.2;have h5:=eX (s:=s) (k:=k) (c:=rd s (rd (itS s k l m).1 i-1));have h6:=vX hk hs (c:=rd s (rd (itS s k l m).1 i-1)+1) G G;have h7:=jP (s:=s) hb.1 hb.2;refine⟨h3,hb,⟨G,G⟩,?_,?_⟩
 ·rw[itS,SH,<-hi,cu hc];rfl
 ·rw[itS,SH,<-hi,cu hc];rfl
theorem fSs {m:Nat} {i:Int} (hi:i=s.length-1-(m:Int)) (hr:row=(itS s k l m).1) (hE:E=(itS s k l m).2) (hc: ¬(0<rd row i/\smB s (rd row i-1)=true)):row=(itS s k l (m+1)).1/\E=(itS s k l (m+1)).2:=by
 subst hr;subst hE;rw[itS,SH,<-hi,bu hc];exact⟨rfl,rfl⟩
include hk hs in
theorem aPf (hp:l.Perm (bM s)):(pJ s k l).length=s.length:=by
 rcases dx s.length with h|h
 ·have e:s=[]:=ed h;subst e;have hl:l=[]:=ed (by rw[hp.length_eq];rfl);subst hl;simp[pJ,itS,zQ,itL,aVi,itF,upd]
 ·rw[(aEg hk hs hp h).1.length_eq,bF]
theorem UT (hl:l.Perm (bM [])):pJ [] k l=[]:=by
 have hl:l=[]:=ed (by rw[hl.length_eq];rfl);subst hl;simp[pJ,itS,zQ,itL,aVi,itF,upd]
def smL (s:List Int):List Bool:=(List.range s.length).map λi:Nat=>smB s (i:Int)
theorem aTe (s:List Int):(smL s).length=s.length:=by simp[smL]
theorem lN {i:Int} (h0:0<=i) (hi:i<s.length):rdb (smL s) i=smB s i:=by
 unfold rdb smL;rw[af,qo,zg G];simp only[jr,mh];congr 1;omega
theorem aZg {m:List Bool} (hl:m.length=s.length) (h: ∀j:Int,0<=j->j<s.length->rdb m j=smB s j):m=smL s:=
 aJy (by rw[hl,aTe]) λi h0 h1=>by rw[lN h0 G];exact h i h0 G
theorem OX {m:List Bool} {i:Int} {b:Bool} (h0:0<=i) (hi:i+1<s.length) (hl:m.length=s.length) (h: ∀j:Int,i<j->j<s.length->rdb m j=smB s j) (hb:b=true↔rd s i<rd s (i+1)\/rd s i=rd s (i+1)/\rdb m (i+1)=true): ∀j:Int,i-1<j->j<s.length->rdb (oO m i b) j=smB s j:=by
 intro j h1 h2;rw[vI h0 G G];split
 ·rename_i e;subst e;rw[h (j+1) G G,<-tQ h0 hi] at hb;cases b<;>cases hh:smB s j<;>simp_all
 ·exact h j G h2
def IV (s:List Int) (i:Int):List Int:=(iota i.toNat).filter λi=>fG s i
theorem IU:IV s s.length=bM s:=by unfold IV bM;rw[az]
theorem BM {i:Int} (h0:0<=i):IV s (i+1)=IV s i++(if fG s i=true then [i] else []):=by
 unfold IV;rw[aIc h0,qz];congr 1;by_cases h:fG s i=true
 ·rw[cu h,ny h];rfl
 ·rw[bu h,ku h];rfl
theorem UW (i:Int):(IV s i).length<=i.toNat:=by
 unfold IV;refine sw (yj _ _) ?_;rw[bF];exact dh _
theorem IW:(bM s).length<=s.length:=by rw[<-IU];have:=UW (s:=s) s.length;omega
end
end Go.Pure
namespace Go.Pure
open Go Go.Eng
section
variable {s:List Int} {k:Int}
theorem zC (n:Nat):(iota n).Pairwise (· < ·):=by
 unfold iota;refine ik.2 (List.Pairwise.imp (λh=> ?_) List.pairwise_lt_range);omega
def kk (s:List Int) (p:Int):Int:=if p<s.length then 2*rd s p+(if smB s p=true then 1 else 0) else -1
theorem uI {p:Int} (h:(s.length:Int)<=p):kk s p= -1:=bu G
theorem zA {p:Int} (h:p<s.length):kk s p=2*rd s p+(if smB s p=true then 1 else 0):=cu h
theorem PT {p:Int} (h:isL s p):kk s p=2*rd s p:=by rw[zA h.1.2,h.2];simp
theorem PS {p:Int} (h:isS s p):kk s p=2*rd s p+1:=by rw[zA h.1.2,h.2];simp
def Nn (s:List Int):Prop:= ∀x∈s,0<=x
theorem aOv (hs:Nn s) {p:Int} (h0:0<=p) (h:p<s.length):0<=kk s p:=by
 have:=hs _ (bH h0 h);rw[zA h];split<;>omega
theorem bCw (hs:Nn s) {p:Int} (h0:0<=p): -1<=kk s p:=by
 rcases ay p s.length with h|h
 ·have:=aOv hs h0 h;omega
 ·rw[uI h];omega
theorem nX (hs:Nn s) {p q:Int} (p0:0<=p) (q0:0<=q) (e:kk s p=kk s q) (h:p<s.length):q<s.length/\rd s p=rd s q/\smB s p=smB s q:=by
 have hq:q<s.length:=by
  rcases ay q s.length with a|a
  ·exact a
  ·have:=aOv hs p0 h;rw[uI a] at e;omega
 rw[zA h,zA hq] at e;cases a:smB s p<;>cases b:smB s q<;>simp[a,b] at e<;>exact⟨hq,G,by first|rfl|omega⟩
theorem aVj (hs:Nn s) {p q:Int} (p0:0<=p) (q0:0<=q) (h:kk s p<kk s q) (hp:p<s.length):bU s p q:=by
 have hq:q<s.length:=by
  rcases ay q s.length with a|a
  ·exact a
  ·have:=aOv hs p0 hp;rw[uI a] at h;omega
 rcases pI (s:=s) ⟨p0,hp⟩ with a|a<;>rcases pI (s:=s) ⟨q0,hq⟩ with b|b
 ·rw[PT a,PT b] at h;exact qV ⟨p0,hp⟩ ⟨q0,hq⟩ G
 ·rw [PT a,PS b] at h;by_cases e:rd s p=rd s q
  ·exact ZN a b e
  ·exact qV ⟨p0,hp⟩ ⟨q0,hq⟩ G
 ·rw[PS a,PT b] at h;exact qV ⟨p0,hp⟩ ⟨q0,hq⟩ G
 ·rw[PS a,PS b] at h;exact qV ⟨p0,hp⟩ ⟨q0,hq⟩ G
theorem yN {q:Int} (q0:0<=q) (hq:q<s.length) {p:Int} (hp:(s.length:Int)<=p):bU s p q:=by
 rw[<-gX,uO hp,fM q0 hq];simp[cmpL]
theorem aOu (hs:Nn s): ∀(d:Nat) (x y:Int),0<=x->0<=y->(∀i:Nat,i<d->kk s (x+i)=kk s (y+i))->kk s (x+d)<kk s (y+d)->bU s x y
 | 0,x,y,x0,y0,_,h=>by
  simp only[Au,yu] at h;rcases ay x s.length with a|a
  ·exact aVj hs x0 y0 h a
  ·have hy:y<s.length:=by
    rcases ay y s.length with b|b
    ·exact b
    ·rw[uI a,uI b] at h;omega
   exact yN y0 hy a
 | d+1,x,y,x0,y0,he,h=>by
  have e0:=he 0 G;simp only[Au,yu] at e0
  have ih:=aOu hs d (x+1) (y+1) G G (λi hi=>by
   have:=he (i+1) G
   rwa[show x+((i+1:Nat):Int)=x+1+i by omega,show y+((i+1:Nat):Int)=y+1+i by omega] at this) (by rwa[show x+((d+1:Nat):Int)=x+1+d by omega,show y+((d+1:Nat):Int)=y+1+d by omega] at h)
  rcases ay x s.length with a|a
  ·obtain ⟨hy,e,_⟩:=nX hs x0 y0 e0 a;rw[lS x0 a y0 hy];exact .inr ⟨e,gX.2 ih⟩
  ·have b:(s.length:Int)<=y:=by
    rcases ay y s.length with b|b
    ·have:=(nX hs y0 x0 e0.symm b).1;omega
    ·exact b
   rw[uI (by omega:(s.length:Int)<=x+((d+1:Nat):Int)),uI (by omega:(s.length:Int)<=y+((d+1:Nat):Int))] at h;omega
theorem JN: ∀(d:Nat) (x y:Int),0<=x->0<=y->x+d<s.length->y+d<s.length->(∀i:Nat,i<d->rd s (x+i)=rd s (y+i))->bU s (x+d) (y+d)->bU s x y
 |0,x,y,_,_,_,_,_,h=>by simpa using h
 | d+1,x,y,x0,y0,hx,hy,he,h=>by
  have e0:=he 0 G;simp only[Au,yu] at e0;refine HZ x0 G y0 G e0 (JN d (x+1) (y+1) G G G G (λi hi=> ?_) ?_)
  ·have:=he (i+1) G;rwa[show x+((i+1:Nat):Int)=x+1+i by omega,show y+((i+1:Nat):Int)=y+1+i by omega] at this
  ·rwa[show x+((d+1:Nat):Int)=x+1+d by omega,show y+((d+1:Nat):Int)=y+1+d by omega] at h
def pcL (s:List Int) (x y:Int):Prop:= ∀d:Nat,(∀i:Nat,i<d->kk s (x+i)=kk s (y+i)/\fG s (x+i)=false)->kk s (x+d)<=kk s (y+d)
def pcS (s:List Int) (x y:Int):Prop:= ∀d:Nat,(∀i:Nat,i<d->kk s (x+i)=kk s (y+i)/\(0<i->fG s (x+i)=false))->kk s (x+d)<=kk s (y+d)
def pcE (s:List Int) (x y:Int):Prop:= ∀d:Nat,(∀i:Nat,0<i->i<d->fG s (x+i)=false)->kk s (x+d)=kk s (y+d)
theorem pcS.toL {x y:Int} (h:pcS s x y):pcL s x y:=λd hd=>h d λi hi=>⟨(hd i hi).1,λ_=>(hd i hi).2⟩
theorem pcL.toS {x y:Int} (h:pcL s x y) (hx:fG s x=false):pcS s x y:=λd hd=>h d λi hi=>⟨(hd i hi).1,by
 rcases dx i with e|e
 ·subst e;simpa using hx
 ·exact(hd i hi).2 e⟩
theorem aNl {x y:Int} (h:kk s x<kk s y):pcS s x y:=λd hd=>by
 rcases dx d with e|e
 ·subst e;simp;omega
 ·have:=(hd 0 e).1;simp at this;omega
theorem HV {x y:Int} (e:kk s x=kk s y) (h:pcL s (x+1) (y+1)):pcS s x y:=λd hd=>by
 match d with
 |0=>simp;omega
 | d+1=>
  have:=h d λi hi=>by
   have:=hd (i+1) G;rw[show x+((i+1:Nat):Int)=x+1+i by omega,show y+((i+1:Nat):Int)=y+1+i by omega] at this;exact⟨this.1,this.2 G⟩
  rwa[show x+((d+1:Nat):Int)=x+1+d by omega,show y+((d+1:Nat):Int)=y+1+d by omega]
theorem isL.not_fst {x:Int} (h:isL s x):fG s x=false:=by
 cases e:fG s x with
 |false=>rfl
 |true=>have:=(lW.1 e).2.1;rw[h.2] at this;cases this
theorem TU {p q:Int} (hp:0<=p/\p<s.length) (hq:0<=q/\q<s.length) (h:rd s p<rd s q):pcS s p q:=by
 refine aNl ?_;rw[zA hp.2,zA hq.2];split<;>split<;>omega
theorem aNm {p q:Int} (hp:isL s p) (hq:isS s q) (e:rd s p=rd s q):pcS s p q:=aNl (by rw[PT hp,PS hq];omega)
theorem aUh (hs:Nn s):aSj s (pcL s):=⟨λhp hq h=>(TU hp hq h).toL,λhp hq e=>(aNm hp hq e).toL,λ{q} hn q0 hq e hL=>by
  have hl:isL s (s.length-1):=⟨G,oV G G⟩;refine(HV (by rw[PT hl,PT hL,e]) λd hd=> ?_).toL;rw[uI (by omega:(s.length:Int)<=s.length-1+1+d)]
  exact bCw hs G,λhp hq _ _ e h=>(HV (by rw[PT hp,PT hq,e]) h).toL⟩
theorem aUg:aWw s (pcS s):=⟨TU,aNm,λhp hq _ _ e h=>HV (by rw[PS hp,PS hq,e]) h.toL⟩
theorem aZt (l:List Int) (ok:jD s l) (c:Int):(dK l s c).Pairwise (pcL s):=by
 refine di.2 λi j hi hj _=> ?_;have hx:=mo.1 (kz hi);have hy:=mo.1 (kz hj);rw[ii] at hx hy;intro d hd
 match d with
 |0=>simp only[Au,yu];rw[PS (ok.small hx.1),PS (ok.small hy.1)];omega
 |d+1=>
  have:=(hd 0 G).2;simp only[Au,yu] at this;rw[(ok.2 _ hx.1).2] at this;cases this
theorem aAa (hk:0<=k) (hs: ∀x∈s,0<=x/\x<k) {l:List Int} (hp:l.Perm (bM s)) (hn:0<s.length):(pJ s k l).Perm (iota s.length)/\(pJ s k l).Pairwise (pcS s):=by
 have h:=UR hk hs (aUh λx hx=>(hs x hx).1) aUg (λp q hp _ h=>h.toS hp.not_fst) (aZt l (jK hp)) hp hn;exact⟨h.1,h.2.2⟩
theorem bAo (hs:Nn s) {x y:Int} (x0:0<=x) (y0:0<=y) (e:kk s x=kk s y) (e1:kk s (x+1)=kk s (y+1)):fG s (x+1)=fG s (y+1):=by
 unfold fG;rw[show x+1-1=x by omega,show y+1-1=y by omega];rw[lh (by omega:0<x+1),lh (by omega:0<y+1)];rcases ay (x+1) s.length with a|a
 ·rw[(nX hs x0 y0 e G).2.2,(nX hs G G e1 a).2.2]
 ·have b:(s.length:Int)<=y+1:=by
   rcases ay (y+1) s.length with b|b
   ·have:=(nX hs G G e1.symm b).1;omega
   ·exact b
  rw[oV (i:=x+1) G G,oV (i:=y+1) G G];simp
theorem zG (hs:Nn s) {x y:Int} (x0:0<=x) (y0:0<=y) {i:Nat} (hi:0<i) (e: ∀j:Nat,j<=i->kk s (x+j)=kk s (y+j)):fG s (x+i)=fG s (y+i):=by
 have h1:=e (i-1) G;have h2:=e i (dh _);have:=bAo hs (x:=x+((i-1:Nat):Int)) (y:=y+((i-1:Nat):Int)) G G h1 (by rwa[show x+((i-1:Nat):Int)+1=x+i by omega,show y+((i-1:Nat):Int)+1=y+i by omega]);rwa[show x+((i-1:Nat):Int)+1=x+i by omega,show y+((i-1:Nat):Int)+1=y+i by omega] at this
theorem yB (hs:Nn s) {x u v y:Int} (x0:0<=x) (u0:0<=u) (v0:0<=v) (h1:pcS s x u) (h2:pcS s u v) (h3:pcS s v y) (he:pcE s x y): ∀d:Nat,(∀i:Nat,0<i->i<d->fG s (u+i)=false)-> ∀i:Nat,i<=d->kk s (x+i)=kk s (u+i)/\kk s (u+i)=kk s (v+i)/\kk s (x+i)=kk s (y+i)
 |0,_,i,hi=>by
  obtain rfl:i=0:=G
  have a:=h1 0 (λi hi=>G);have b:=h2 0 (λi hi=>G);have c:=h3 0 (λi hi=>G);have d:=he 0 (λi _ hi=>G);omega
 | d+1,hd,i,hi=>by
  have ih:=yB hs x0 u0 v0 h1 h2 h3 he d λi h0 hi=>hd i h0 G;rcases fe d i with g|g
  ·obtain rfl:i=d+1:=G
   have fu: ∀i:Nat,i<d+1->0<i->fG s (u+i)=false:=λi hi h0=>hd i h0 hi
   have fx: ∀i:Nat,i<d+1->0<i->fG s (x+i)=false:=λi hi h0=>by
    rw[zG hs x0 u0 h0 λj hj=>(ih j G).1];exact fu i hi h0
   have vy: ∀i:Nat,i<d+1->kk s (v+i)=kk s (y+i):=λi hi=>by have:=ih i G;omega
   have a:=h1 (d+1) λi hi=>⟨(ih i G).1,fx i hi⟩;have b:=h2 (d+1) λi hi=>⟨(ih i G).2.1,fu i hi⟩;have e:=he (d+1) λi h0 hi=>fx i hi h0
   have c:kk s (v+((d+1:Nat):Int))<=kk s (y+((d+1:Nat):Int)):=by
    refine h3 (d+1) λi hi=>⟨vy i hi,λh0=> ?_⟩;rw[<-zG hs u0 v0 h0 λj hj=>(ih j G).2.1];exact fu i hi h0
   omega
  ·exact ih i g
theorem YP (hs:Nn s) {x u v y:Int} (x0:0<=x) (u0:0<=u) (v0:0<=v) (h1:pcS s x u) (h2:pcS s u v) (h3:pcS s v y) (he:pcE s x y):pcE s x u/\pcE s u v:=by
 refine⟨λd hd=> ?_,λd hd=>(yB hs x0 u0 v0 h1 h2 h3 he d hd d (dh _)).2.1⟩
 suffices h: ∀d:Nat,(∀i:Nat,0<i->i<d->fG s (x+i)=false)-> ∀i:Nat,i<=d->kk s (x+i)=kk s (u+i) from h d hd d (dh _)
 intro d
 induction d with
 |zero=>intro _ i hi;obtain rfl:i=0:=G;exact(yB hs x0 u0 v0 h1 h2 h3 he 0 (λi h0 hi=>G) 0 (dh _)).1
 |succ d ih=>
  intro hd i hi;have Se:=ih λi h0 hi=>hd i h0 G;refine(yB hs x0 u0 v0 h1 h2 h3 he (d+1) (λj h0 hj=> ?_) i hi).1;rw[<-zG hs x0 u0 h0 λm hm=>Se m G];exact hd j h0 hj
theorem pcE.symm (hs:Nn s) {x y:Int} (x0:0<=x) (y0:0<=y) (h:pcE s x y):pcE s y x:=by
 intro d hd
 suffices g: ∀d:Nat,(∀i:Nat,0<i->i<d->fG s (y+i)=false)-> ∀i:Nat,i<=d->kk s (y+i)=kk s (x+i) from g d hd d (dh _)
 intro d
 induction d with
 |zero=>intro _ i hi;obtain rfl:i=0:=G;exact(h 0 λi h0 hi=>G).symm
 | succ d ih=>
  intro hd i hi;have Se:=ih λi h0 hi=>hd i h0 G;rcases fe d i with g|g
  ·obtain rfl:i=d+1:=G
   refine(h (d+1) λj h0 hj=> ?_).symm;rw[<-zG hs y0 x0 h0 λm hm=>Se m G];exact hd j h0 hj
  ·exact Se i g
theorem aUi (hs:Nn s) {x y:Int} (x0:0<=x) (y0:0<=y) (h:pcS s x y) (da: ¬pcE s x y):bU s x y:=by
 have key: ∀D:Nat,(∀i:Nat,0<i->i<D->fG s (x+i)=false)-> ¬kk s (x+D)=kk s (y+D)-> ∃d:Nat,(∀i:Nat,i<d->kk s (x+i)=kk s (y+i))/\kk s (x+d)<kk s (y+d):=by
  intro D
  induction D using Nat.strongRecOn with
  | ind D ih=>
   intro hD da;by_cases he: ∀i:Nat,i<D->kk s (x+i)=kk s (y+i)
   ·have:=h D λi hi=>⟨he i hi,λh0=>hD i h0 hi⟩;exact⟨D,he,G⟩
   ·obtain ⟨i,hi⟩:=Dm.1 he;obtain⟨ia,Ox⟩:=Classical.not_imp.1 hi;exact ih i ia (λj h0 hj=>hD j h0 G) Ox
 obtain⟨D,hD⟩:=Dm.1 da;obtain⟨Zs,Zt⟩:=Classical.not_imp.1 hD;obtain⟨d,h1,h2⟩:=key D Zs Zt;exact aOu hs d x y x0 y0 h1 h2
structure NxI (s:List Int) (x z:Int):Prop where
 gt:x<z
 le:z<=s.length
 no: ∀q,x<q->q<z->fG s q=false
 is:z<s.length->fG s z=true
theorem NxI.one {x z w:Int} (h:NxI s x z) (g:NxI s x w):z=w:=by
 rcases ja z w with a|a|a
 ·have h1:=h.is (by have:=g.le;omega);rw[g.no z h.gt a] at h1;cases h1
 ·exact a
 ·have h1:=g.is (by have:=h.le;omega);rw[h.no w g.gt a] at h1;cases h1
def Peq (s nx:List Int) (x y:Int):Prop:=rd nx x<s.length/\rd nx y<s.length/\rd nx x-x=rd nx y-y/\ ∀i:Int,0<=i->i<=rd nx x-x->rd s (x+i)=rd s (y+i)
theorem Peq.symm {nx:List Int} {x y:Int} (h:Peq s nx x y):Peq s nx y x:=⟨h.2.1,h.1,h.2.2.1.symm,λi h0 h1=>(h.2.2.2 i h0 (by have:=h.2.2.1;omega)).symm⟩
theorem Peq.trans {nx:List Int} {x y z:Int} (h:Peq s nx x y) (g:Peq s nx y z):Peq s nx x z:=⟨h.1,g.2.1,h.2.2.1.trans g.2.2.1,λi h0 h1=>(h.2.2.2 i h0 h1).trans (g.2.2.2 i h0 (by have:=h.2.2.1;omega))⟩
theorem Peq.E {nx:List Int} {x y:Int} (x0:0<=x) (y0:0<=y) (hx:NxI s x (rd nx x)) (hy:NxI s y (rd nx y)) (h:Peq s nx x y):pcE s x y:=by
 obtain⟨h1,h2,h3,h4⟩:=h;have Ml:=hx.gt;have fx:=lW.1 (hx.is h1);have fy:=lW.1 (hy.is h2)
 have kinds: ∀m:Nat,∀i:Int,0<=i->i<=rd nx x-x->rd nx x-x-i<=m->smB s (x+i)=smB s (y+i):=by
  intro m
  induction m with
  |zero=>
   intro i i0 i1 i2;obtain rfl:i=rd nx x-x:=G
   rw[show x+(rd nx x-x)=rd nx x by omega,show y+(rd nx x-x)=rd nx y by omega,fx.2.1,fy.2.1]
  | succ m ih=>
   intro i i0 i1 i2;rcases ay i (rd nx x-x) with g|g
   ·have e:=ih (i+1) G G G;have c0:=h4 i i0 i1;have c1:=h4 (i+1) G G;have a:=tQ (s:=s) (i:=x+i) G G;have b:=tQ (s:=s) (i:=y+i) G G;rw[show x+i+1=x+(i+1) by omega] at a;rw[show y+i+1=y+(i+1) by omega,<-c0,<-c1,<-e] at b;exact Bool.eq_iff_iff.2 (a.trans b.symm)
   ·exact ih i i0 i1 G
 intro d hd
 have Wz:(d:Int)<=rd nx x-x:=by
  rcases ay (rd nx x-x) d with g|g
  ·have:=hd (rd nx x-x).toNat G G;rw[show x+(((rd nx x-x).toNat:Nat):Int)=rd nx x by omega,hx.is h1] at this;cases this
  ·exact g
 rw[zA G,zA G,h4 d G Wz,kinds (rd nx x-x).toNat d G Wz G]
theorem Peq.of_E (hs:Nn s) {nx:List Int} {x y:Int} (x0:0<=x) (y0:0<=y) (da:x≠y) (hx:NxI s x (rd nx x)) (hy:NxI s y (rd nx y)) (h:pcE s x y):Peq s nx x y:=by
 have Ml:=hx.gt;have hgty:=hy.gt;have mj:=hx.le;have hley:=hy.le
 have he: ∀i:Int,0<=i->i<=rd nx x-x->kk s (x+i)=kk s (y+i):=λi i0 i1=>by
  have:=h i.toNat λj j0 j1=>hx.no _ G G;rwa[show((i.toNat:Nat):Int)=i by omega] at this
 have hL:=he (rd nx x-x) G (ky _);have k5:=he (rd nx x-x-1) G G;rw[show x+(rd nx x-x)=rd nx x by omega] at hL;have hb:=(nX hs G G k5 G).1
 have lf:rd nx x<s.length:=by
  rcases ay (rd nx x) s.length with g|g
  ·exact g
  ·have:(s.length:Int)<=y+(rd nx x-x):=by
    rcases ay (y+(rd nx x-x)) s.length with b|b
    ·have:=(nX hs G G hL.symm b).1;omega
    ·exact b
   omega
 have hyL:=(nX hs G G hL lf).1
 have Hh: ∀i:Int,0<i->i<=rd nx x-x->fG s (x+i)=fG s (y+i):=λi i0 i1=>by
  have:=zG hs x0 y0 (i:=i.toNat) G λj hj=>he j G G;rwa[show((i.toNat:Nat):Int)=i by omega] at this
 have hny:NxI s y (y+(rd nx x-x)):=⟨G,G,λq h1 h2=>by
  have:=Hh (q-y) G G;rw[show y+(q-y)=q by omega] at this;rw[<-this];exact hx.no _ G G,λ_=>by
  rw[<-Hh _ G (ky _),show x+(rd nx x-x)=rd nx x by omega]
  exact hx.is lf⟩
 have e:=hy.one hny;refine⟨lf,G,G,λi i0 i1=>(nX hs G G (he i i0 i1) G).2.1⟩
end
end Go.Pure
namespace Go.Pure
open Go Go.Eng
section
variable {s:List Int} {k:Int}
theorem aPm (s:List Int):(bM s).Pairwise (· < ·):=(zC _).sublist rz
theorem nD {a:Int} (h0:0<=a) (h:a<(bM s).length):(0<=rd (bM s) a/\rd (bM s) a<s.length)/\fG s (rd (bM s) a)=true:=rC.1 (bH h0 h)
theorem QA {x:Int} (h0:0<=x) (h:x<s.length) (hf:fG s x=true): ∃a:Int,0<=a/\a<(bM s).length/\rd (bM s) a=x:=by
 obtain⟨u,hu,e⟩:=gz.1 (rC.2 ⟨⟨h0,h⟩,hf⟩);exact⟨u,G,G,by rw[gM hu];exact e⟩
theorem zH {a b:Int} (h0:0<=a) (sd:a<b) (h:b<(bM s).length):rd (bM s) a<rd (bM s) b:=dW (aPm s) h0 sd h
theorem aIh (hn:0<s.length):(bM s).length<s.length:=by
 have:(bM s).length<=((iota s.length).erase 0).length:=mV (xB s) λx hx=>by
  have h:=rC.1 hx;have h0:=(lW.1 h.2).1;exact(Du G).2 (aW.2 h.1)
 rw[Bj (aW.2 ⟨ky 0,G⟩),bF] at this;omega
structure rO (s nx:List Int) (i:Int):Prop where
 len:nx.length=s.length
 at_: ∀a:Int,0<=a->a<i->rd nx (rd (bM s) a)=if a+1<(bM s).length then rd (bM s) (a+1) else s.length
 no: ∀j:Int,0<=j->j<s.length->fG s j=false->rd nx j=0
theorem aUo:rO s (List.replicate s.length 0) 0:=⟨cD,λa h0 h=>G,λj _ _ _=>rW⟩
theorem rO.step {nx Vz:List Int} {i v:Int} (h:rO s nx i) (h0:0<=i) (hi:i<(bM s).length) (hv:v=if i+1<(bM s).length then rd (bM s) (i+1) else s.length) (hl:Vz.length=s.length)
  (he: ∀j:Int,0<=j->rd Vz j=if j=rd (bM s) i then v else rd nx j):rO s Vz (i+1):=by
 have hf:=nD h0 hi;refine⟨hl,λa a0 a1=> ?_,λj j0 j1 hj=> ?_⟩
 ·have ha:=nD (s:=s) a0 G;rw[he _ ha.1.1];by_cases e:a=i
  ·subst e;rw[cu rfl,hv]
  ·rw [bu,h.at_ a a0 G];have:=zH (s:=s) a0 (by omega:a<i) hi;omega
 ·rw [he j j0,bu,h.no j j0 j1 hj];intro e;rw[e,hf.2] at hj;cases hj
theorem rO.step1 {nx:List Int} {i:Int} (h:rO s nx i) (h0:0<=i) (hi:i<(bM s).length) (hc: ¬i+1<(bM s).length):rO s (upd nx (rd (bM s) i) s.length) (i+1):=by
 have hf:=nD h0 hi;exact h.step h0 hi (by rw[bu hc]) (by rw[aV];exact h.len) λj j0=>fI hf.1.1 j0 (by rw[h.len];exact hf.1.2)
theorem rO.step2 {nx:List Int} {i:Int} {w:Int} (h:rO s nx i) (h0:0<=i) (hi:i<(bM s).length) (hc:i+1<(bM s).length):rO s (upd (upd nx (rd (bM s) i) w) (rd (bM s) i) (rd (bM s) (i+1))) (i+1):=by
 have hf:=nD h0 hi;refine h.step h0 hi (by rw[cu hc]) (by rw[aV,aV];exact h.len) λj j0=> ?_;rw[fI hf.1.1 j0 (by rw[aV,h.len];exact hf.1.2)];split
 ·rfl
 ·rename_i e;rw[fI hf.1.1 j0 (by rw[h.len];exact hf.1.2),bu e]
theorem rO.nx {nx:List Int} (h:rO s nx (bM s).length) {x:Int} (h0:0<=x) (hx:x<s.length) (hf:fG s x=true):NxI s x (rd nx x):=by
 obtain⟨a,a0,a1,rfl⟩:=QA h0 hx hf;rw[h.at_ a a0 a1];split
 ·rename_i e;have g:=nD (s:=s) (a:=a+1) G e;refine⟨zH a0 G e,G,λq h1 h2=> ?_,λ_=>g.2⟩;cases hq:fG s q with
  |false=>rfl
  | true=>
   obtain⟨b,b0,b1,rfl⟩:=QA (s:=s) (x:=q) G G hq;exfalso;rcases ja b a with d|d|d
   ·have:=zH (s:=s) b0 d a1;omega
   ·subst d;omega
   ·rcases ay (a+1) b with d2|d2
    ·have:=zH (s:=s) (a:=a+1) G d2 b1;omega
    ·obtain rfl:b=a+1:=G
     omega
 ·rename_i e;refine⟨hx,ky _,λq h1 h2=> ?_,λh=>G⟩;cases hq:fG s q with
  |false=>rfl
  |true=>
   obtain⟨b,b0,b1,rfl⟩:=QA (s:=s) (x:=q) G G hq;exfalso;rcases ja b a with d|d|d
   ·have:=zH (s:=s) b0 d a1;omega
   ·subst d;omega
   ·omega
theorem rO.zero {nx:List Int} (h:rO s nx (bM s).length) {x:Int} (h0:0<=x) (hx:x<s.length):rd nx x=0↔fG s x=false:=by
 cases hf:fG s x with
 |false=>exact⟨λ_=>rfl,λ_=>h.no x h0 hx hf⟩
 |true=>exact⟨λe=>by have:=(h.nx h0 hx hf).gt;omega,λe=>by cases e⟩
structure xJ (s ord nx:List Int) (t:Int) (nm:List Int) (n last:Int):Prop where
 len:nm.length=s.length
 bd:0<=n/\n<=t
 start:last= -1->n=0/\ ∀q:Int,0<=q->q<t->fG s (rd ord q)=false
 last_:last= -1\/ ∃q:Int,0<=q/\q<t/\rd ord q=last/\fG s last=true/\rd nm last=n/\ ∀r:Int,q<r->r<t->fG s (rd ord r)=false
 rng: ∀q:Int,0<=q->q<t->fG s (rd ord q)=true->0<=rd nm (rd ord q)/\rd nm (rd ord q)<=n
 pair: ∀q r:Int,0<=q->q<r->r<t->fG s (rd ord q)=true->fG s (rd ord r)=true->rd nm (rd ord q)<=rd nm (rd ord r)/\(rd nm (rd ord q)=rd nm (rd ord r)->Peq s nx (rd ord q) (rd ord r))/\(rd nm (rd ord q)<rd nm (rd ord r)-> ¬pcE s (rd ord q) (rd ord r))
variable {ord nx nm:List Int} {t n last:Int}
theorem aOg:xJ s ord nx 0 (List.replicate s.length 0) 0 (-1):=⟨cD,G,λ_=>⟨rfl,λq h0 h=>G⟩, .inl rfl,λq h0 h=>G,λq r h0 h h'=>G⟩
theorem xJ.skip (h:xJ s ord nx t nm n last) (hf:fG s (rd ord t)=false):xJ s ord nx (t+1) nm n last:=by
 have nj: ∀ {q:Int},q<t+1->fG s (rd ord q)=true->q<t:=λ{q} h1 h2=>by
  rcases ay q t with a|a
  ·exact a
  ·obtain rfl:q=t:=G
   rw[hf] at h2;cases h2
 refine⟨h.len,by have:=h.bd;omega,λe=>⟨(h.start e).1,λq h0 h1=> ?_⟩,?_,λq h0 h1 h2=>h.rng q h0 (nj h1 h2) h2,λq r h0 h1 h2 f1 f2=>h.pair q r h0 h1 (nj h2 f2) f1 f2⟩
 ·rcases ay q t with a|a
  ·exact(h.start e).2 q h0 a
  ·obtain rfl:q=t:=G
   exact hf
 ·rcases h.last_ with e|⟨q,h1,h2,h3,h4,h5,h6⟩
  ·exact .inl e
  ·refine .inr ⟨q,h1,G,h3,h4,h5,λr r0 r1=> ?_⟩;rcases ay r t with a|a
   ·exact h6 r r0 a
   ·obtain rfl:r=t:=G
    exact hf
theorem xJ.last_in (h:xJ s ord nx t nm n last) (hp:ord.Perm (iota s.length)) (ht:t<=s.length):last= -1\/((0<=last/\last<s.length)/\fG s last=true):=by
 rcases h.last_ with e|⟨q,h1,h2,h3,h4,_⟩
 ·exact .inl e
 ·rw [<-h3];have hl:=hp.length_eq;rw[bF] at hl;exact .inr ⟨aW.1 (hp.subset (bH h1 G)),by rw[h3];exact h4⟩
theorem xJ.step (hs:Nn s) (h:xJ s ord nx t nm n last) (hp:ord.Perm (iota s.length)) (ho:ord.Pairwise (pcS s)) (hx:rO s nx (bM s).length) (t0:0<=t) (ht:t<s.length) (hf:fG s (rd ord t)=true) {n':Int}
  (hn:(last= -1/\n'=n)\/(0<=last/\Peq s nx last (rd ord t)/\n'=n)\/(0<=last/\ ¬Peq s nx last (rd ord t)/\n'=n+1)):xJ s ord nx (t+1) (upd nm (rd ord t) n') n' (rd ord t):=by
 have hl:ord.length=s.length:=by rw[hp.length_eq,bF]
 have hnd:ord.Nodup:=hp.symm.nodup (eT _);have cm: ∀q:Int,0<=q->q<s.length->0<=rd ord q/\rd ord q<s.length:=λq q0 q1=>aW.1 (hp.subset (bH q0 G));have ob:=cm t t0 ht
 have ie: ∀q:Int,0<=q->q<t->rd (upd nm (rd ord t) n') (rd ord q)=rd nm (rd ord q):=λq q0 q1=>by
  have hq:=cm q q0 G;rw[fI ob.1 hq.1 (by rw[h.len];exact ob.2),bu];intro e;have:=jG hnd q0 G t0 G e;omega
 have b9:rd (upd nm (rd ord t) n') (rd ord t)=n':=by rw[fI ob.1 ob.1 (by rw[h.len];exact ob.2),cu rfl]
 have l4:=h.bd;have ye:n<=n':=by rcases hn with a|a|a<;>omega
 refine⟨by rw[aV];exact h.len,by rcases hn with a|a|a<;>omega,λe=>G, .inr ⟨t,t0,G,rfl,hf,b9,λr r0 r1=>G⟩,λq q0 q1 f=> ?_,λq r q0 qr r1 f1 f2=> ?_⟩
 ·rcases ay q t with a|a
  ·rw [ie q q0 a];have:=h.rng q q0 a f;omega
  ·obtain rfl:q=t:=G
   rw[b9];omega
 ·rcases ay r t with a|a
  ·rw [ie q q0 G,ie r G a];exact h.pair q r q0 qr a f1 f2
  ·obtain rfl:r=t:=G
   rw[ie q q0 qr,b9];have hq:=cm q q0 G;have hg:=h.rng q q0 qr f1;rcases h.last_ with e|⟨z,z0,z1,z2,z3,z4,z5⟩
   ·have:=(h.start e).2 q q0 qr;rw[f1] at this;cases this
   ·have hqz:q<=z:=by
     rcases ay z q with b|b
     ·have:=z5 q b qr;rw[f1] at this;cases this
     ·exact b
    have hz:=cm z z0 G;have hzr:pcS s (rd ord z) (rd ord r):=dW ho z0 z1 G;have Yh:=hx.nx hz.1 hz.2 (by rw[z2];exact z3);have Yb:=hx.nx ob.1 ob.2 hf;have hqx:=hx.nx hq.1 hq.2 f1;have da:rd ord z≠rd ord r:=λe=>by have:=jG hnd z0 G t0 G e;omega
    have sp:(n'=n->Peq s nx (rd ord z) (rd ord r))/\(n<n'-> ¬Peq s nx (rd ord z) (rd ord r)):=by
     rw[z2];rcases hn with b|b|b
     ·omega
     ·exact⟨λ_=>b.2.1,λ_=>G⟩
     ·exact⟨λ_=>G,λ_=>b.2.1⟩
    have hE:pcE s (rd ord q) (rd ord r)->pcE s (rd ord z) (rd ord r)/\(q<z->pcE s (rd ord q) (rd ord z)):=λhe=>by
     rcases ay q z with b|b
     ·have:=YP hs (u:=rd ord z) (v:=rd ord r) (y:=rd ord r) hq.1 hz.1 ob.1 (dW ho q0 b G) hzr (λd hd=>ky _) he;exact⟨this.2,λ_=>this.1⟩
     ·obtain rfl:q=z:=G
      exact⟨he,λh=>G⟩
    rcases ay q z with b|b
    ·have yk:=h.pair q z q0 b z1 f1 (by rw[z2];exact z3);have ez:rd nm (rd ord z)=n:=by rw[z2];exact z4
     rw[ez] at yk;refine⟨G,λe=>(yk.2.1 G).trans (sp.1 G),λe he=> ?_⟩;rcases ay n n' with g|g
     ·exact sp.2 g (Peq.of_E hs hz.1 ob.1 da Yh Yb (hE he).1)
     ·exact yk.2.2 G ((hE he).2 b)
    ·obtain rfl:q=z:=G
     have ez:rd nm (rd ord q)=n:=by rw[z2];exact z4
     rw[ez];refine⟨ye,λe=>sp.1 e.symm,λe he=>sp.2 e (Peq.of_E hs hz.1 ob.1 da Yh Yb he)⟩
theorem MV (hs:Nn s) (h:xJ s ord nx s.length nm n last) (hp:ord.Perm (iota s.length)) (ho:ord.Pairwise (pcS s)) (hx:rO s nx (bM s).length): ∀(m:Nat) (a b:Int),(bM s).length-a<=m->0<=a->a<(bM s).length->0<=b->b<(bM s).length->
  bU ((bM s).map (rd nm)) a b->bU s (rd (bM s) a) (rd (bM s) b)
 |0,a,b,hm,a0,a1,_,_,_=>G
 | m +1,a,b,hm,a0,a1,b0,b1,sd=>by
  have hl:ord.length=s.length:=by rw[hp.length_eq,bF]
  have Uj:((bM s).map (rd nm)).length=(bM s).length:=by rw[bi]
  have Xs: ∀c:Int,0<=c->c<(bM s).length->rd ((bM s).map (rd nm)) c=rd nm (rd (bM s) c):=λc c0 c1=>by
   rw[eQ c0 G,Ay,<-eQ c0 c1]
  have rm: ∀c:Int,0<=c->c<(bM s).length-> ∃q:Int,0<=q/\q<s.length/\rd ord q=rd (bM s) c:=λc c0 c1=>by
   have hc:=nD (s:=s) c0 c1;obtain⟨u,hu,e⟩:=gz.1 (hp.symm.subset (aW.2 hc.1));exact⟨u,G,G,by rw[gM hu];exact e⟩
  have da:a≠b:=λe=>by rw[e] at sd;exact fC _ _ sd sd
  have ha:=nD (s:=s) a0 a1;have hb:=nD (s:=s) b0 b1;have Na:rd (bM s) a≠rd (bM s) b:=λe=>da (jG (xB s) a0 a1 b0 b1 e);obtain⟨q,q0,q1,eq⟩:=rm a a0 a1;obtain⟨r,r0,r1,er⟩:=rm b b0 b1;have hqr:q≠r:=λe=>Na (by rw[<-eq,<-er,e]);rw[lS a0 G b0 G,Xs a a0 a1,Xs b b0 b1] at sd;have t7:fG s (rd ord q)=true:=by rw[eq];exact ha.2
  have Ek:fG s (rd ord r)=true:=by rw[er];exact hb.2
  rcases sd with aw|⟨he,Qa⟩
  ·rcases ay q r with c|c
   ·have yk:=h.pair q r q0 c r1 t7 Ek;rw[eq,er] at yk;have:=dW ho q0 c G;rw[eq,er] at this;exact aUi hs ha.1.1 hb.1.1 this (yk.2.2 aw)
   ·have yk:=h.pair r q r0 G q1 Ek t7;rw[eq,er] at yk;omega
  ·have hpe:Peq s nx (rd (bM s) a) (rd (bM s) b):=by
    rcases ay q r with c|c
    ·have yk:=h.pair q r q0 c r1 t7 Ek;rw[eq,er] at yk;exact yk.2.1 he
    ·have yk:=h.pair r q r0 G q1 Ek t7;rw[eq,er] at yk;exact(yk.2.1 he.symm).symm
   obtain⟨p1,p2,p3,p4⟩:=hpe;have gx:=(hx.nx ha.1.1 ha.1.2 ha.2).gt;have ea:=hx.at_ a a0 a1;have eb:=hx.at_ b b0 b1
   have Og:a+1<(bM s).length:=by
    rcases ay (a+1) (bM s).length with c|c
    ·exact c
    ·rw[bu G] at ea;omega
   have Wv:b+1<(bM s).length:=by
    rcases ay (b+1) (bM s).length with c|c
    ·exact c
    ·rw[bu G] at eb;omega
   rw[cu Og] at ea;rw[cu Wv] at eb;have ih:=MV hs h hp ho hx m (a+1) (b+1) G G Og G Wv (gX.1 Qa);rw[<-ea,<-eb] at ih;refine JN (rd nx (rd (bM s) a)-rd (bM s) a).toNat _ _ ha.1.1 hb.1.1 G G (λi hi=>p4 i G G) ?_;rwa[show rd (bM s) a+(((rd nx (rd (bM s) a)-rd (bM s) a).toNat:Nat):Int)=rd nx (rd (bM s) a) by omega,show rd (bM s) b+(((rd nx (rd (bM s) a)-rd (bM s) a).toNat:Nat):Int)=rd nx (rd (bM s) b) by omega]
theorem aOc (h:xJ s ord nx s.length nm n last) (hp:ord.Perm (iota s.length)): ∀x∈(bM s).map (rd nm),0<=x/\x<n+1:=by
 intro x hx;obtain⟨y,hy,rfl⟩:=il.1 hx;obtain⟨Vs,hy2⟩:=rC.1 hy;have hl:ord.length=s.length:=by rw[hp.length_eq,bF]
 obtain⟨u,hu,e⟩:=gz.1 (hp.symm.subset (aW.2 Vs));have:=h.rng u G G (by rw[gM hu,e];exact hy2);rw[gM hu,e] at this;omega
theorem aMq (hs:Nn s) (h:xJ s ord nx s.length nm n last) (hp:ord.Perm (iota s.length)) (ho:ord.Pairwise (pcS s)) (hx:rO s nx (bM s).length) {o:List Int} (op:o.Perm (iota ((bM s).map (rd nm)).length)) (oo:o.Pairwise (bU ((bM s).map (rd nm)))):
  (o.map (rd (bM s))).Perm (bM s)/\(o.map (rd (bM s))).Pairwise (bU s):=by
 rw[bi] at op;refine⟨?_,?_⟩
 ·have:=op.map (rd (bM s));rwa[kZ] at this
 ·refine ik.2 (mr (λ{a b} ha hb sd=> ?_) oo);have h1:=aW.1 (op.subset ha);have h2:=aW.1 (op.subset hb);exact MV hs h hp ho hx (bM s).length a b G h1.1 h1.2 h2.1 h2.2 sd
theorem aDk {l:List Int} {x i:Int} {m:Nat} (x0:0<=x) (h0:0<=i) (h:i<m):rd ((l.drop x.toNat).take m) i=rd l (x+i):=by
 unfold rd;rw[af,af,ng G,qc,show x.toNat+i.toNat=(x+i).toNat by omega]
theorem TN {x y:Int} (x0:0<=x) (y0:0<=y) (hx:x<rd nx x) (Gk:rd nx x<s.length) (hy:y<rd nx y) (Sc:rd nx y<s.length):
  (s.drop x.toNat).take ((min (rd nx x+1) ((s.length:Nat):Int)).toNat-x.toNat)=(s.drop y.toNat).take ((min (rd nx y+1) ((s.length:Nat):Int)).toNat-y.toNat)↔Peq s nx x y:=by
 have lx:((s.drop x.toNat).take ((min (rd nx x+1) ((s.length:Nat):Int)).toNat-x.toNat)).length=(rd nx x-x+1).toNat:=by rw[ax,bg];omega
 have ly:((s.drop y.toNat).take ((min (rd nx y+1) ((s.length:Nat):Int)).toNat-y.toNat)).length=(rd nx y-y+1).toNat:=by rw[ax,bg];omega
 constructor
 ·intro h;have hl:=bz List.length h;rw[lx,ly] at hl;refine⟨Gk,Sc,G,λi i0 i1=> ?_⟩;have:rd ((s.drop x.toNat).take ((min (rd nx x+1) ((s.length:Nat):Int)).toNat-x.toNat)) i=rd ((s.drop y.toNat).take ((min (rd nx y+1) ((s.length:Nat):Int)).toNat-y.toNat)) i:=by rw[h]
  rwa[aDk x0 i0 G,aDk y0 i0 G] at this
 ·rintro ⟨_,_,h3,h4⟩;refine bI (by rw[lx,ly];omega) λi i0 i1=> ?_;rw[lx] at i1;rw[aDk x0 i0 G,aDk y0 i0 G];exact h4 i i0 G
theorem aNe {r:Int->Int->Prop}: ∀ {l:List Int},l.length<2->l.Pairwise r
 |[],_=> .nil
 |[_],_=>ql _ _
 |_::_::_,h=>by simp at h;omega
theorem aOf {x y:Int} (hl:0<=x->x<s.length/\x<rd nx x/\rd nx x<=s.length) (y0:0<=y) (hy:y<rd nx y) (Sc:rd nx y<=s.length)
  (h:0<=x/\((rd nx y=((s.length:Nat):Int)\/rd nx x=((s.length:Nat):Int))\/ ¬(s.drop x.toNat).take ((min (rd nx x+1) ((s.length:Nat):Int)).toNat-x.toNat)=(s.drop y.toNat).take ((min (rd nx y+1) ((s.length:Nat):Int)).toNat-y.toNat))):
  (x= -1/\n+1=n)\/(0<=x/\Peq s nx x y/\n+1=n)\/(0<=x/\ ¬Peq s nx x y/\n+1=n+1):=by
 refine .inr (.inr ⟨h.1,λhp=> ?_,rfl⟩);have a:=hl h.1;rcases h.2 with g|g
 ·have h1:=hp.1;have h2:=hp.2.1;omega
 ·exact g ((TN h.1 y0 a.2.1 hp.1 hy hp.2.1).2 hp)
theorem aOe {x y:Int} (hx: -1<=x) (hl:0<=x->x<s.length/\x<rd nx x/\rd nx x<=s.length) (y0:0<=y) (hy:y<rd nx y) (Sc:rd nx y<=s.length)
  (h: ¬(0<=x/\((rd nx y=((s.length:Nat):Int)\/rd nx x=((s.length:Nat):Int))\/ ¬(s.drop x.toNat).take ((min (rd nx x+1) ((s.length:Nat):Int)).toNat-x.toNat)=(s.drop y.toNat).take ((min (rd nx y+1) ((s.length:Nat):Int)).toNat-y.toNat)))):
  (x= -1/\n=n)\/(0<=x/\Peq s nx x y/\n=n)\/(0<=x/\ ¬Peq s nx x y/\n=n+1):=by
 rcases ay x 0 with g|g
 ·exact .inl ⟨G,rfl⟩
 ·have a:=hl g;have h1: ¬rd nx y=((s.length:Nat):Int):=λe=>h ⟨g, .inl (.inl e)⟩;have h2: ¬rd nx x=((s.length:Nat):Int):=λe=>h ⟨g, .inl (.inr e)⟩;have h3:=yt.1 λe=>h ⟨g, .inr e⟩;exact .inr (.inl ⟨g,(TN g y0 a.2.1 G hy G).1 h3,rfl⟩)
end
end Go.Pure
namespace Go.Pure
open Go Go.Eng
theorem CU {T:Int->Int->Prop} [DecidableRel T] (Hc: ∀x y,T x y-> ¬T y x): ∀ {o:List Int} {q:Nat},o.Pairwise T->(h:q<o.length)->o.countP (λx=>decide (T x o[q]))=q
 |[],q,_,h=>by simp at h
 |a::o,0,hs,h=>by
  rw[Bf];intro x hx;simp only[List.getElem_cons_zero,ii];rcases jf.1 hx with rfl|hx
  ·exact λh=>Hc _ _ h h
  ·exact Hc _ _ ((iv.1 hs).1 x hx)
 |a::o,q+1,hs,h=>by
  obtain⟨h1,h2⟩:=iv.1 hs;have hq:q<o.length:=by simp only[dm] at h;omega
  simp only[List.getElem_cons_succ];rw[List.countP_cons_of_pos (by simpa using h1 _ (kz hq)),CU Hc h2 hq]
theorem aDm {T:Int->Int->Prop} [DecidableRel T] (Hc: ∀x y,T x y-> ¬T y x) {o:List Int} {n:Nat} (hp:o.Perm (iota n)) (hs:o.Pairwise T) {q:Int} (q0:0<=q) (hq:q<n):(((iota n).countP λx=>decide (T x (rd o q)):Nat):Int)=q:=by
 have hl:o.length=n:=by rw[hp.length_eq,bF]
 rw[<-hp.countP_eq,eQ q0 G,CU Hc hs G];omega
theorem vJ {n:Nat} {q:Int} (q0:0<=q) (hq:q<n):rd (iota n) q=q:=by
 unfold iota;rw[gH q0 hq];omega
theorem zW {n:Nat} {f:Int->Int} (hf: ∀x:Int,0<=x->x<n->0<=f x/\f x<n) (hi: ∀x y:Int,0<=x->x<n->0<=y->y<n->f x=f y->x=y):((iota n).map f).Perm (iota n):=by
 refine pF ?_ (λx hx=> ?_) cD
 ·refine ik.2 (mr (λ{a b} ha hb sd e=> ?_) (eT n));have h1:=aW.1 ha;have h2:=aW.1 hb;exact sd (hi a b h1.1 h1.2 h2.1 h2.2 e)
 ·obtain ⟨y,hy,rfl⟩:=il.1 hx;have h:=aW.1 hy;exact aW.2 (hf y h.1 h.2)
def tl (l:List Int) (i k:Int):Prop:=rd l i<rd l k\/rd l i=rd l k/\i<k
instance (l:List Int):DecidableRel (tl l):=λi k=>by unfold tl;infer_instance
theorem aLg {l:List Int} (x y:Int) (h:tl l x y): ¬tl l y x:=by unfold tl at*;omega
def lfC (l:List Int) (k:Int):Int:=((iota l.length).countP λj=>decide (tl l j k):Nat)
def Byt (l:List Int):Prop:= ∀x∈l,0<=x/\x<256
section
variable {l:List Int}
theorem jJ (hl:Byt l):(bW (iota l.length) l 256).Perm (iota l.length)/\(bW (iota l.length) l 256).Pairwise (tl l):=
 ⟨mK λi hi=>by have h:=aW.1 hi;exact hl _ (bH h.1 h.2),fV (zC _) 256⟩
theorem bCv (hl:Byt l) {q:Int} (q0:0<=q) (hq:q<l.length):lfC l (rd (bW (iota l.length) l 256) q)=q:=aDm aLg (jJ hl).1 (jJ hl).2 q0 hq
theorem UK (hl:Byt l) {i:Int} (i0:0<=i) (hi:i<l.length): ∃q:Int,0<=q/\q<l.length/\rd (bW (iota l.length) l 256) q=i/\lfC l i=q:=by
 obtain⟨u,hu,e⟩:=gz.1 ((jJ hl).1.symm.subset (aW.2 ⟨i0,hi⟩));have hlen:=(jJ hl).1.length_eq;rw[bF] at hlen;have e2:rd (bW (iota l.length) l 256) (u:Int)=i:=by rw[gM hu];exact e
 refine⟨u,G,G,e2,?_⟩;rw[<-e2];exact bCv hl G G
theorem UL (hl:Byt l) {i:Int} (i0:0<=i) (hi:i<l.length):0<=lfC l i/\lfC l i<l.length:=by
 obtain⟨q,q0,q1,_,e⟩:=UK hl i0 hi;omega
theorem aXl (hl:Byt l) {i k:Int} (i0:0<=i) (hi:i<l.length) (k0:0<=k) (hk:k<l.length):lfC l i<lfC l k↔tl l i k:=by
 obtain⟨p,p0,p1,ep,fp⟩:=UK hl i0 hi;obtain⟨q,q0,q1,eq,fq⟩:=UK hl k0 hk;have hlen:=(jJ hl).1.length_eq;rw[bF] at hlen;have hs:=(jJ hl).2;rw[fp,fq];constructor
 ·intro h;have:=dW hs p0 h G;rwa[ep,eq] at this
 ·intro h;rcases ja p q with a|a|a
  ·exact a
  ·subst a;rw[<-ep,<-eq] at h;exact absurd h (aLg _ _ h)
  ·have:=dW hs q0 a G;rw[ep,eq] at this;exact absurd h (aLg _ _ this)
theorem aOo (hl:Byt l) {i k:Int} (i0:0<=i) (hi:i<l.length) (k0:0<=k) (hk:k<l.length) (e:lfC l i=lfC l k):i=k:=by
 have h1:=aXl hl i0 hi k0 hk;have h2:=aXl hl k0 hk i0 hi;unfold tl at h1 h2;rcases ja (rd l i) (rd l k) with a|a|a
 ·have:=h1.2 (.inl a);omega
 ·rcases ja i k with b|b|b
  ·have:=h1.2 (.inr ⟨a,b⟩);omega
  ·exact b
  ·have:=h2.2 (.inr ⟨a.symm,b⟩);omega
 ·have:=h2.2 (.inl a);omega
def zat (a:List Int):Int:=if (0:Int)∈a then(a.idxOf 0:Int)+1 else 0
def ofT (s a:List Int):List Int:=(a.filter λx=>decide (x≠0)).map λx=>rd s (x-1)
def ofL (s a:List Int):List Int:=(if 0<s.length then [rd s (s.length-1)] else [])++ofT s a
theorem QW {a:List Int} (hd:a.Nodup) {i:Int} (i0:0<=i) (hi:i<a.length):zat (a.take (i+1).toNat)=if rd a i=0 then i+1 else zat (a.take i.toNat):=by
 rw[dD i0 hi];split
 ·rename_i e
  have nj:(0:Int)∉a.take i.toNat:=by
   intro h;obtain⟨q,hq,e2⟩:=gz.1 h;rw[ax] at hq;have:=jG hd (i:=(q:Int)) (j:=i) G G i0 hi (by rw[Ai] at e2;rw[e,eQ G G];simp only[az];exact e2);omega
  unfold zat;rw[cu (by simp[e]),Fw,bu nj,e];simp only[ax,List.idxOf_cons_self];omega
 ·rename_i e;have nj:(0:Int)∉[rd a i]:=by simp;exact λh=>e h.symm
  unfold zat;by_cases h:(0:Int)∈a.take i.toNat
  ·rw[cu h,cu (Dt _ h),Fw,cu h]
  ·rw[bu h,bu (by rw[fw];exact λg=>g.elim h nj)]
theorem UA {s a:List Int} {i:Int} (i0:0<=i) (hi:i<a.length):ofT s (a.take (i+1).toNat)=ofT s (a.take i.toNat)++if rd a i=0 then [] else [rd s (rd a i-1)]:=by
 unfold ofT;rw[dD i0 hi,qz,jh];congr 1;by_cases h:rd a i=0
 ·rw[cu h,ku (by simpa using h)];rfl
 ·rw[bu h,ny (by simpa using h)];rfl
variable {s a:List Int}
theorem jH {u v:List Int} {j:Int} (h0:0<=j) (h:j<u.length):rd (u++v) j=rd u j:=by
 unfold rd;rw[af,af,je G]
theorem fZ {u v:List Int} {j:Int} (h:(u.length:Int)<=j):rd (u++v) j=rd v (j-u.length):=by
 unfold rd;rw[af,af,iy G,show j.toNat-u.length=(j-u.length).toNat by omega]
theorem uA {u:List Int} {f:Int->Int} {j:Int} (h0:0<=j) (h:j<u.length):rd (u.map f) j=f (rd u j):=by
 rw[eQ h0 (by rw[bi];exact h),Ay,<-eQ h0 h]
theorem qX (hp:a.Perm (iota s.length)):(ofL s a).length=s.length/\(0<s.length->1<=zat a/\zat a<=s.length/\rd a (zat a-1)=0)/\(s.length=0->zat a=0)/\
  ∀j:Int,0<=j->j<s.length->rd (ofL s a) j=if j=0 then rd s (s.length-1) else if j<zat a then rd s (rd a (j-1)-1) else rd s (rd a j-1):=by
 have hl:a.length=s.length:=by rw[hp.length_eq,bF]
 rcases dx s.length with hz|hn
 ·have e:a=[]:=ed G;subst e;refine⟨by unfold ofL ofT;rw[bu G];simp;omega,λh=>G,λ_=>rfl,λj h0 h=>G⟩
 have hnd:a.Nodup:=hp.symm.nodup (eT _);have jt:(0:Int)∈a:=hp.symm.subset (aW.2 ⟨ky 0,G⟩);obtain⟨a1,a2,e⟩:=List.append_of_mem jt
 have l6:(0:Int)∉a1:=λh=>by
  rw[e] at hnd;exact(vz.1 hnd).2.2 0 h 0 cD rfl
 have Kt:(0:Int)∉a2:=λh=>by
  rw[e] at hnd;exact(ut.1 (vz.1 hnd).2.1).1 h
 have Vt:zat a=(a1.length:Int)+1:=by
  unfold zat;rw[cu jt,e,Fw,bu l6];simp
 have hT:ofT s a=(a1.map λx=>rd s (x-1))++a2.map λx=>rd s (x-1):=by
  unfold ofT;have f1:a1.filter (λx=>decide (x≠0))=a1:=Eg.2 λx hx=>lh λh=>l6 (by rw[<-h];exact hx);have f2:a2.filter (λx=>decide (x≠0))=a2:=Eg.2 λx hx=>lh λh=>Kt (by rw[<-h];exact hx);rw[e,qz,ku cD,f1,f2,jh]
 have hlen:a1.length+a2.length+1=s.length:=by rw[<-hl,e];simp;omega
 have hL:ofL s a=rd s (s.length-1)::((a1.map λx=>rd s (x-1))++a2.map λx=>rd s (x-1)):=by
  unfold ofL;rw[cu hn,hT];rfl
 refine⟨by rw[hL];simp;omega,λ_=>⟨G,G,?_⟩,λh=>G,λj j0 j1=> ?_⟩
 ·rw [Vt,e,fZ G,show(a1.length:Int)+1-1-a1.length=0 by omega];rfl
 ·rw [hL];by_cases hj:j=0
  ·subst hj;rw[cu rfl];rfl
  ·rw [bu hj]
   have ec:rd (rd s (s.length-1)::((a1.map λx=>rd s (x-1))++a2.map λx=>rd s (x-1))) j=rd ((a1.map λx=>rd s (x-1))++a2.map λx=>rd s (x-1)) (j-1):=by
    unfold rd;rw[show j.toNat=(j-1).toNat+1 by omega];rfl
   rw[ec];split
   ·rename_i h;rw[jH G (by rw[bi];omega),uA G G,e,jH G G]
   ·rename_i h;rw[fZ (by rw[bi];omega),uA (by rw[bi];omega) (by rw[bi];omega),e,fZ G];rw[bi]
    have:rd ((0:Int)::a2) (j-a1.length)=rd a2 (j-1-a1.length):=by
     unfold rd;rw[show(j-a1.length).toNat=(j-1-a1.length).toNat+1 by omega];rfl
    rw[this]
def ixr (m r:Int):Int:=if m<r then r-1 else r
def iT (l:List Int) (m:Int):Nat->Int
 |0=>0
 |t+1=>lfC l (ixr m (iT l m t))+1
def lI (l:List Int) (m:Int):List Int:=(List.range l.length).map λi:Nat=>rd l (ixr m (iT l m (l.length-1-i)))
def aSl (l:List Int) (m:Int):Prop:=min (l.length:Int) 1<=m/\m<=l.length
def bHa (l:List Int) (m:Int):Prop:= ∀t:Nat,t<l.length->iT l m t≠m
def aKl (l:List Int) (m:Int):Prop:=aSl l m/\bHa l m/\iT l m l.length=m
theorem rH (l:List Int) (m:Int):(lI l m).length=l.length:=by simp[lI]
theorem TI {m i:Int} (i0:0<=i) (hi:i<l.length):rd (lI l m) i=rd l (ixr m (iT l m (l.length-1-i).toNat)):=by
 unfold lI;rw[gH i0 hi,show l.length-1-i.toNat=((l.length:Int)-1-i).toNat by omega]
theorem PV {m r:Int} {n:Nat} (h0:0<=r) (h1:r<=n) (da:r≠m) (qq:0<=m) (hm:m<=n) (hn:0<n):0<=ixr m r/\ixr m r<n:=by
 unfold ixr;split<;>omega
theorem bAm {m r q:Int} (hr:r≠m) (hq:q≠m):ixr m r<ixr m q↔r<q:=by
 unfold ixr;split<;>split<;>omega
theorem aEc {m r q:Int} (hr:r≠m) (hq:q≠m) (h:ixr m r=ixr m q):r=q:=by
 unfold ixr at h;split at h<;>split at h<;>omega
theorem WZ (hl:Byt l) {m:Int} (hm:aSl l m): ∀t:Nat,(∀u:Nat,u<t->iT l m u≠m)->t<=l.length->0<=iT l m t/\iT l m t<=l.length
 |0,_,_=>by unfold iT;omega
 |t+1,h,ht=>by
  have ih:=WZ hl hm t (λu hu=>h u G) G;have hb:=PV (n:=l.length) ih.1 ih.2 (h t G) (by have:=hm.1;omega) hm.2 G;have:=UL hl hb.1 hb.2;rw[iT];omega
theorem TY {x:Int} (x0:0<=x) (hx:x<s.length) {y:Int} (hy:(s.length:Int)<=y): ¬bU s x y:=fC _ _ (yN x0 hx hy)
theorem aNp {j k:Int} (j0:0<=j) (hj:j<s.length) (k0:0<=k) (hk:k<s.length):bU s j k↔rd s j<rd s k\/rd s j=rd s k/\bU s (j+1) (k+1):=by
 rw[lS j0 hj k0 hk,gX]
end
end Go.Pure
namespace Go.Pure
open Go Go.Eng
section
variable {l s a:List Int}
def cT (s:List Int) (x y:Int):Prop:=cmpL (s.drop x.toNat) (s.drop y.toNat)<0
instance (s:List Int):DecidableRel (cT s):=λx y=>by unfold cT;infer_instance
theorem QI {x y:Int}:cT s x y↔bU s x y:=gX
theorem bFr (x y:Int) (h:cT s x y): ¬cT s y x:=λh'=>fC _ _ (QI.1 h) (QI.1 h')
def yL (s:List Int) (k:Int):Int:=((iota s.length).countP λj=>decide (cT s j k):Nat)
def kG (s:List Int) (k:Int):Int:=if k<s.length then yL s k+1 else 0
theorem aNi (hp:a.Perm (iota s.length)) (ho:a.Pairwise (bU s)) {q:Int} (q0:0<=q) (hq:q<s.length):yL s (rd a q)=q:=aDm bFr hp (ho.imp λh=>QI.2 h) q0 hq
theorem GR (hp:a.Perm (iota s.length)) (ho:a.Pairwise (bU s)) {k:Int} (k0:0<=k) (hk:k<s.length):(0<=yL s k/\yL s k<s.length)/\rd a (yL s k)=k:=by
 obtain⟨u,hu,e⟩:=gz.1 (hp.symm.subset (aW.2 ⟨k0,hk⟩));have hlen:=hp.length_eq;rw[bF] at hlen;have e2:rd a (u:Int)=k:=by rw[gM hu];exact e
 have e3:=aNi hp ho (q:=(u:Int)) G G;rw[e2] at e3;rw[e3];exact⟨G,e2⟩
theorem YQ {j k:Int} (j0:0<=j) (hj:j<=s.length) (k0:0<=k) (hk:k<=s.length):kG s j<kG s k↔bU s j k:=by
 obtain⟨a,hp,ho⟩:=nW s;have hlen:=hp.length_eq;rw[bF] at hlen;unfold kG;rcases ay j s.length with a1|a1
 ·rw [cu a1];have sn:=GR hp ho j0 a1;rcases ay k s.length with b1|b1
  ·rw [cu b1];have kx:=GR hp ho k0 b1;constructor
   ·intro h;have:=dW ho sn.1.1 (by omega:yL s j<yL s k) G;rwa[sn.2,kx.2] at this
   ·intro h;rcases ja (yL s j) (yL s k) with c|c|c
    ·omega
    ·rw [c,kx.2] at sn;rw[<-sn.2] at h;exact absurd h (fC _ _ h)
    ·have:=dW ho kx.1.1 c G;rw[sn.2,kx.2] at this;exact absurd h (fC _ _ this)
  ·rw [bu G];exact⟨λh=>G,λh=>absurd h (TY j0 a1 b1)⟩
 ·rw [bu G];rcases ay k s.length with b1|b1
  ·rw [cu b1];have kx:=GR hp ho k0 b1;exact⟨λ_=>yN k0 b1 a1,λ_=>G⟩
  ·rw [bu G];obtain rfl:j=k:=G
   exact⟨λh=>G,λh=>absurd h (fC _ _ h)⟩
theorem FX {k:Int} (k0:0<=k):0<=kG s k/\kG s k<=s.length/\(k<s.length->1<=kG s k):=by
 obtain⟨a,hp,ho⟩:=nW s;unfold kG;split
 ·rename_i h;have:=GR hp ho k0 h;omega
 ·omega
theorem vG {j k:Int} (j0:0<=j) (hj:j<=s.length) (k0:0<=k) (hk:k<=s.length) (e:kG s j=kG s k):j=k:=by
 have h1:=YQ j0 hj k0 hk;have h2:=YQ k0 hk j0 hj;rcases ay j s.length with a1|a1
 ·rcases ay k s.length with b1|b1
  ·by_cases h:j=k
   ·exact h
   ·rcases IA ⟨j0,a1⟩ ⟨k0,b1⟩ h with c|c
    ·have:=h1.2 c;omega
    ·have:=h2.2 c;omega
  ·have:=h2.2 (yN j0 a1 b1);omega
 ·rcases ay k s.length with b1|b1
  ·have:=h1.2 (yN k0 b1 a1);omega
  ·omega
theorem nT (hp:a.Perm (iota s.length)) (ho:a.Pairwise (bU s)):zat a=kG s 0:=by
 obtain⟨_,h1,h2,_⟩:=qX hp;unfold kG;rcases dx s.length with hz|hn
 ·rw[bu G,h2 hz]
 ·have h:=h1 hn;rw[cu G];have:=aNi hp ho (q:=zat a-1) G G;rw[h.2.2] at this;omega
theorem letter (hp:a.Perm (iota s.length)) (ho:a.Pairwise (bU s)) {k:Int} (k0:0<=k) (hk:k<s.length):(0<=ixr (zat a) (kG s (k+1))/\ixr (zat a) (kG s (k+1))<s.length)/\rd (ofL s a) (ixr (zat a) (kG s (k+1)))=rd s k:=by
 obtain⟨_,h1,_,h3⟩:=qX hp;have hz:=h1 G;have hb:=FX (s:=s) (k:=k+1) G
 have da:kG s (k+1)≠zat a:=by
  rw[nT hp ho];intro e;have:=vG (s:=s) G G (ky 0) G e;omega
 have rm:=PV hb.1 hb.2.1 da G hz.2.1 G;refine⟨rm,?_⟩;rw[h3 _ rm.1 rm.2];rcases ay (k+1) s.length with c|c
 ·have Jj:=GR hp ho (k:=k+1) G c;have er:kG s (k+1)=yL s (k+1)+1:=by unfold kG;rw[cu c]
  unfold ixr at rm ⊢;by_cases d:zat a<kG s (k+1)
  ·rw [cu d];rw[bu G,bu G,show kG s (k+1)-1=yL s (k+1) by omega,Jj.2];congr 1;omega
  ·rw [bu d];rw[bu G,cu G,show kG s (k+1)-1=yL s (k+1) by omega,Jj.2];congr 1;omega
 ·have er:kG s (k+1)=0:=by unfold kG;rw[bu G]
  have e0:ixr (zat a) 0=0:=by unfold ixr;rw[bu G]
  rw[er,e0,cu rfl];congr 1;omega
theorem vN (hs:Byt s) (hp:a.Perm (iota s.length)):Byt (ofL s a):=by
 intro x hx;obtain⟨h0,_,_,h3⟩:=qX hp;obtain⟨u,hu,rfl⟩:=gz.1 hx;have m7:=hp.length_eq;rw[bF] at m7;have e:=h3 u G G;rw[gM hu] at e;have hm: ∀j:Int,0<=j->j<s.length->0<=rd s j/\rd s j<256:=λj j0 j1=>hs _ (bH j0 j1);have ha: ∀j:Int,0<=j->j<s.length->0<=rd a j/\rd a j<s.length:=λj j0 j1=>aW.1 (hp.subset (bH j0 G));have Fc: ∀j:Int,j<0->rd s j=rd s 0:=λj h=>by unfold rd;rw[show j.toNat=(0:Int).toNat by omega]
 have Mr: ∀j:Int,j<s.length->0<=rd s j/\rd s j<256:=λj h=>by
  rcases ay j 0 with c|c
  ·rw[Fc j c];exact hm 0 (ky 0) G
  ·exact hm j c h
 rw[e];split
 ·exact Mr _ G
 ·split
  ·have:=ha ((u:Int)-1) G G;exact Mr _ G
  ·have:=ha u G G;exact Mr _ G
theorem aVf (hs:Byt s) (hp:a.Perm (iota s.length)) (ho:a.Pairwise (bU s)) {k:Int} (k0:0<=k) (hk:k<s.length):lfC (ofL s a) (ixr (zat a) (kG s (k+1)))=yL s k:=by
 obtain⟨h0,h1,_,_⟩:=qX hp
 have da: ∀j:Int,0<=j->j<s.length->kG s (j+1)≠zat a:=λj j0 j1 e=>by
  rw[nT hp ho] at e;have:=vG (s:=s) G G (ky 0) G e;omega
 have hb:=zW (n:=s.length) (f:=λk=>ixr (zat a) (kG s (k+1))) (λj j0 j1=>(letter hp ho j0 j1).1) λx y x0 x1 y0 y1 e=>by
  have e2:=aEc (da x x0 x1) (da y y0 y1) e;have:=vG (s:=s) G G G G e2;omega
 unfold lfC yL;rw[h0,<-hb.countP_eq,List.countP_map];congr 1;refine Fs λj hj=> ?_;have hj:=aW.1 hj;simp only[Function.comp_apply,ii];rw[QI,aNp hj.1 hj.2 k0 hk,<-YQ G G G G];unfold tl;rw[(letter hp ho hj.1 hj.2).2,(letter hp ho k0 hk).2,bAm (da j hj.1 hj.2) (da k k0 hk)]
theorem zX (hs:Byt s) (hp:a.Perm (iota s.length)) (ho:a.Pairwise (bU s)): ∀t:Nat,t<=s.length->iT (ofL s a) (zat a) t=kG s (s.length-t)
 |0,_=>by unfold iT kG;rw[bu G]
 |t+1,ht=>by
  rw[iT,zX hs hp ho t G];have:=aVf hs hp ho (k:=(s.length:Int)-((t+1:Nat):Int)) G G;rw[show(s.length:Int)-((t+1:Nat):Int)+1=s.length-(t:Int) by omega] at this;rw[this];unfold kG;rw[cu G]
theorem tJ (hs:Byt s) (hp:a.Perm (iota s.length)) (ho:a.Pairwise (bU s)):aKl (ofL s a) (zat a)/\lI (ofL s a) (zat a)=s:=by
 obtain⟨h0,h1,h2,_⟩:=qX hp;refine⟨⟨?_,λt ht=> ?_,?_⟩,?_⟩
 ·unfold aSl;rw[h0];rcases dx s.length with hz|hn
  ·have:=h2 hz;omega
  ·have:=h1 hn;omega
 ·rw [h0] at ht;rw[zX hs hp ho t G,nT hp ho];intro e;have:=vG (s:=s) G G (ky 0) G e;omega
 ·rw [h0,zX hs hp ho _ (dh _),nT hp ho];congr 1;omega
 ·refine bI (by rw[rH,h0]) λi i0 i1=> ?_;rw[rH,h0] at i1;rw[TI i0 (by rw[h0];exact i1),h0,zX hs hp ho _ G];have:=(letter hp ho i0 i1).2;rwa[show(s.length:Int)-(((s.length:Int)-1-i).toNat:Int)=i+1 by omega]
theorem aOb (hp:a.Perm (iota s.length)) (ho:a.Pairwise (bU s)):((iota s.length).map λk=>ixr (zat a) (kG s (k+1))).Perm (iota s.length):=by
 have da: ∀j:Int,0<=j->j<s.length->kG s (j+1)≠zat a:=λj j0 j1 e=>by
  rw[nT hp ho] at e;have:=vG (s:=s) G G (ky 0) G e;omega
 exact zW (n:=s.length) (f:=λk=>ixr (zat a) (kG s (k+1))) (λj j0 j1=>(letter hp ho j0 j1).1) λx y x0 x1 y0 y1 e=>by
  have e2:=aEc (da x x0 x1) (da y y0 y1) e;have:=vG (s:=s) G G G G e2;omega
theorem yO (hp:a.Perm (iota s.length)) (ho:a.Pairwise (bU s)):(ofL s a).Perm s:=by
 have h0:=(qX hp).1;have h1:=(aOb hp ho).map (rd (ofL s a));rw[xz] at h1
 have e1:(iota s.length).map (rd (ofL s a) ∘ λk=>ixr (zat a) (kG s (k+1)))=s:=by
  conv=>rhs;rw[<-kZ s]
  refine Bi λk hk=> ?_;have hk:=aW.1 hk;exact(letter hp ho hk.1 hk.2).2
 have e2:(iota s.length).map (rd (ofL s a))=ofL s a:=by
  have:=kZ (ofL s a);rwa[h0] at this
 rw[e1,e2] at h1;exact h1.symm
end
end Go.Pure
namespace Go.Pure
open Go Go.Eng
theorem TS {l m:List Int} (hl:l.Nodup) (hm:m.Nodup) (e: ∀x,x∈l↔x∈m):l.Perm m:=
 pF hl (λx h=>(e x).1 h) (mV hm λx h=>(e x).2 h)
def KR (r k:Nat):List Int:=(List.range k).map λt:Nat=>(r+3*t:Int)
theorem TL (r k:Nat):(KR r k).length=k:=by simp[KR]
theorem aHc (r k:Nat):KR r (k+1)=KR r k++[(r+3*k:Int)]:=by
 unfold KR;rw[yo,jh];rfl
def plc (n r:Nat):List Int:=KR r ((n+2-r)/3)
theorem iX (n r:Nat):(plc n r).length=(n+2-r)/3:=TL _ _
theorem PH {n r:Nat} {t:Int} (h0:0<=t) (h:t<(plc n r).length):rd (plc n r) t=r+3*t:=by
 rw[iX] at h;unfold plc KR;rw[gH h0 G];omega
theorem jC {n r:Nat} {x:Int} (hr:r<=2):x∈plc n r↔0<=x/\x<n/\x%3=r:=by
 unfold plc KR;rw[il];constructor
 ·rintro ⟨t,ht,rfl⟩;have:=ji.1 ht;omega
 ·rintro ⟨h0,h1,h2⟩;exact⟨((x-r)/3).toNat,ji.2 G,G⟩
theorem vK (n r:Nat):(plc n r).Nodup:=by
 unfold plc KR;exact ik.2 (vk.imp λ{x y} h hh=>h G)
def smp (n:Nat):List Int:=plc n 1++plc n 2
theorem kM {n:Nat} {x:Int}:x∈smp n↔0<=x/\x<n/\x%3≠0:=by
 unfold smp;rw[fw,jC G,jC G];omega
theorem yA (n:Nat):(smp n).length=(n+1)/3+n/3:=by
 unfold smp;rw[ah,iX,iX];omega
theorem oC (n:Nat):(smp n).Nodup:=by
 unfold smp;refine vz.2 ⟨vK _ _,vK _ _,λa ha b hb e=> ?_⟩;rw[jC G] at ha hb;omega
theorem aTd (n:Nat):(smp n++plc n 0).Perm (iota n):=by
 refine TS (vz.2 ⟨oC _,vK _ _,λa ha b hb e=> ?_⟩) (eT n) λx=> ?_
 ·rw [kM] at ha;rw[jC G] at hb;omega
 ·rw [fw,kM,jC G,aW];omega
def gP (s:List Int) (i:Int):Int:=if (s.length:Int)<=i then 0 else rd s i+1
def fA (s:List Int) (b:Int):List Int:=(List.range s.length).map λi:Nat=>gP s ((i:Int)+b)
theorem BL (s:List Int) (b:Int):(fA s b).length=s.length:=by simp[fA]
theorem yJ {s:List Int} {b i:Int} (h0:0<=i) (h:i<s.length):rd (fA s b) i=gP s (i+b):=by
 unfold fA;rw[gH h0 G];congr 1;omega
theorem aXk: ∀ {s:List Int},Nn s->lo s=0
 |[],_=>rfl
 |a::s,h=>by
  have:=aXk (s:=s) λx hx=>h x (dw _ hx);have ha:=h a cD;unfold lo at this ⊢;rw[List.foldr_cons,this];omega
theorem sI {s:List Int} (hs:Nn s) (i d:Nat):eu s i d=gP s ((i+d:Nat):Int):=by
 unfold eu gP;rw[aXk hs];by_cases h:i+d<s.length
 ·rw [cu h,bu G];unfold rd lt;rw[az];omega
 ·rw[bu h,cu G]
theorem aEb {s:List Int} {k:Int} (hs: ∀x∈s,0<=x/\x<k) (hk:0<=k) {i:Int} (h0:0<=i):0<=gP s i/\gP s i<k+1:=by
 unfold gP;split
 ·omega
 ·have:=hs _ (bH (L:=s) h0 G);omega
theorem UO {s:List Int} {k b:Int} (hs: ∀x∈s,0<=x/\x<k) (hk:0<=k) (hb:0<=b): ∀x∈fA s b,0<=x/\x<k+1:=by
 intro x hx;obtain⟨i,_,rfl⟩:=il.1 hx;exact aEb hs hk G
theorem aPt (s:List Int) (i d:Nat):0<=eu s i d:=by
 rcases fe (i+d) s.length with h|h
 ·exact Ej (qI h)
 ·rw[iG h];exact ky 0
def LtO (U V:Nat->Int):Prop:= ∃k,(∀i,i<k->U i=V i)/\U k<V k
theorem wZ {m:Nat} {U V:Nat->Int}:LtH m U V->LtO U V:=λ⟨k,_,h1,h2⟩=>⟨k,h1,h2⟩
theorem aVa {s:List Int} {x y:Nat}:LtO (eu s x) (eu s y)↔LtH s.length (eu s x) (eu s y):=by
 refine⟨λ⟨k,h1,h2⟩=>⟨k,?_,h1,h2⟩,wZ⟩;have:=aPt s x k;rcases fe (y+k) s.length with h|h
 ·omega
 ·rw[iG h] at h2;omega
theorem mM {s:List Int} {x y:Int}:bU s x y↔LtO (eu s x.toNat) (eu s y.toNat):=aVa.symm
theorem aHp {U V:Nat->Int} (h:LtO U V): ¬LtO V U:=by
 rintro⟨k',So,Wi⟩;obtain⟨k,h1,h2⟩:=h;rcases wo k k' with a|a|a
 ·have:=So k a;omega
 ·subst a;omega
 ·have:=h1 k' a;omega
theorem aHo {U V:Nat->Int} {m:Nat} (e:EqH m U V):LtO (λd=>U (m+d)) (λd=>V (m+d))↔LtO U V:=by
 constructor
 ·rintro ⟨k,h1,h2⟩;refine⟨m+k,λi hi=> ?_,h2⟩;rcases fe i m with a|a
  ·exact e i a
  ·have:=h1 (i-m) G;simp only[show m+(i-m)=i by omega] at this;exact this
 ·rintro ⟨k,h1,h2⟩
  have hk:m<=k:=by
   rcases fe k m with a|a
   ·have:=e k a;omega
   ·exact a
  refine⟨k-m,λi hi=>h1 (m+i) G,?_⟩;simp only[show m+(k-m)=k by omega];exact h2
theorem VF (s:List Int) (i m:Nat):(λd=>eu s i (m+d))=eu s (i+m):=funext λd=>(uN s i m d).symm
theorem IR {s:List Int} {i j m:Nat} (e:EqH m (eu s i) (eu s j)):LtO (eu s (i+m)) (eu s (j+m))↔LtO (eu s i) (eu s j):=by
 rw[<-VF,<-VF];exact aHo e
theorem sJ {s:List Int} {m i j:Nat} (hi:i<s.length) (hj:j<s.length) (na:i≠j) (e:EqH m (eu s i) (eu s j)):j+m<=s.length:=by
 refine Hr.1 λh=> ?_;have e1:=e (s.length-j) G;rw[iG (s:=s) (i:=j) G] at e1;have h1:s.length<=i+(s.length-j):=Hr.1 λhh=>by have:=qI hh;omega
 have e2:=e (s.length-i) G;rw[iG (s:=s) (i:=i) G] at e2;have:=qI (s:=s) (i:=j) (d:=s.length-i) G;omega
def aZd (s:List Int) (k:Int):List Int:=bW (bW (bW (smp s.length) (fA s 2) (k+1).toNat) (fA s 1) (k+1).toNat) (fA s 0) (k+1).toNat
section
variable {s:List Int} {k:Int}
theorem oD {o:List Int} {b:Int} (hs: ∀x∈s,0<=x/\x<k) (hk:0<=k) (hb:0<=b) (ho: ∀x∈o,0<=x/\x<s.length):(bW o (fA s b) (k+1).toNat).Perm o:=
 mK λi hi=>by
  have:=ho i hi;rw[yJ this.1 this.2];have:=aEb hs hk (i:=i+b) G;omega
theorem mI {x:Int} (h:x∈smp s.length):0<=x/\x<s.length:=by rw[kM] at h;omega
theorem aXh (hs: ∀x∈s,0<=x/\x<k) (hk:0<=k):(bW (smp s.length) (fA s 2) (k+1).toNat).Perm (smp s.length):=oD hs hk G λ_ h=>mI h
theorem aXg (hs: ∀x∈s,0<=x/\x<k) (hk:0<=k):(bW (bW (smp s.length) (fA s 2) (k+1).toNat) (fA s 1) (k+1).toNat).Perm (smp s.length):=
 (oD hs hk G λ_ h=>mI ((aXh hs hk).subset h)).trans (aXh hs hk)
theorem aXf (hs: ∀x∈s,0<=x/\x<k) (hk:0<=k):(aZd s k).Perm (smp s.length):=
 (oD hs hk G λ_ h=>mI ((aXg hs hk).subset h)).trans (aXg hs hk)
theorem YC (hs: ∀x∈s,0<=x/\x<k) (hk:0<=k):(aZd s k).Pairwise λx y=> ¬LtH 3 (eu s y.toNat) (eu s x.toNat):=by
 have h0:(smp s.length).Pairwise λ_ _=>True:=(oC s.length).imp λ_=>trivial;have h3:=fV (keys:=fA s 0) (fV (keys:=fA s 1) (fV (keys:=fA s 2) h0 (k+1).toNat) (k+1).toNat) (k+1).toNat;refine mr (λ{x y} hx hy h=> ?_) h3;have mx:=mI ((aXf hs hk).subset hx);have my:=mI ((aXf hs hk).subset hy);have nn:Nn s:=λx hx=>(hs x hx).1
 have e: ∀ {z:Int} (hz:0<=z/\z<s.length) (b:Nat),rd (fA s (b:Int)) z=eu s z.toNat b:=λ{z} hz b=>by
  rw[yJ hz.1 hz.2,sI nn];congr 1;omega
 have Zd:rd (fA s 0) x=eu s x.toNat 0:=e mx 0;have Ze:rd (fA s 1) x=eu s x.toNat 1:=e mx 1;have Zf:rd (fA s 2) x=eu s x.toNat 2:=e mx 2;have Zg:rd (fA s 0) y=eu s y.toNat 0:=e my 0;have Zh:rd (fA s 1) y=eu s y.toNat 1:=e my 1;have Zi:rd (fA s 2) y=eu s y.toNat 2:=e my 2;rw[Zd,Ze,Zf,Zg,Zh,Zi] at h;rintro⟨q,hq,h1,h2⟩
 match q,hq,h1,h2 with
 |0,_,h1,h2=>omega
 |1,_,h1,h2=>have:=h1 0 G;omega
 |2,_,h1,h2=>have:=h1 0 G;have:=h1 1 G;omega
end
structure RkI (s o V:List Int) (q n:Int):Prop where
 len:V.length=s.length+3
 n0:0<=n
 nq:n<=q
 bd: ∀p,0<=p->p<q->1<=rd V (rd o p)/\rd V (rd o p)<=n
 last:0<q->rd V (rd o (q-1))=n
 lt: ∀p p',0<=p->p<p'->p'<q->(EqH 3 (eu s (rd o p).toNat) (eu s (rd o p').toNat)/\rd V (rd o p)=rd V (rd o p'))\/(LtH 3 (eu s (rd o p).toNat) (eu s (rd o p').toNat)/\rd V (rd o p)<rd V (rd o p'))
 full:n=q-> ∀p,0<=p->p<q->rd V (rd o p)=p+1
 out: ∀j:Int,0<=j->j<s.length+3->(∀p:Int,0<=p->p<q->rd o p≠j)->rd V j=0
theorem EqH.trans' {m:Nat} {U V W:Nat->Int} (h:EqH m U V) (g:EqH m V W):EqH m U W:=λi hi=>(h i hi).trans (g i hi)
theorem EqH.ltH {m:Nat} {U V W:Nat->Int} (h:EqH m U V) (g:LtH m V W):LtH m U W:=by
 obtain⟨k,hk,a,b⟩:=g;exact⟨k,hk,λi hi=>(h i G).trans (a i hi),by rw[h k hk];exact b⟩
theorem LtH.eqH {m:Nat} {U V W:Nat->Int} (h:LtH m U V) (g:EqH m V W):LtH m U W:=by
 obtain⟨k,hk,a,b⟩:=h;exact⟨k,hk,λi hi=>(a i hi).trans (g i G),by rw[<-g k hk];exact b⟩
section
variable {s o V:List Int} {q n:Int}
theorem aMl:RkI s o (List.replicate (s.length+3) 0) 0 0:=
 ⟨bq,G,G,λp h1 h2=>G,λh=>G,λp p' h1 h2 h3=>G,λ_ p h1 h2=>G,λj _ _ _=>rW⟩
theorem RkI.step (h:RkI s o V q n) (hp:o.Perm (smp s.length)) (q0:0<=q) (hq:q<o.length) {m:Int}
  (hm:(m=n+1/\(q=0\/LtH 3 (eu s (rd o (q-1)).toNat) (eu s (rd o q).toNat)))\/(m=n/\0<q/\EqH 3 (eu s (rd o (q-1)).toNat) (eu s (rd o q).toNat))):
  RkI s o (upd V (rd o q) m) (q+1) m:=by
 have cm: ∀p:Int,0<=p->p<o.length->0<=rd o p/\rd o p<s.length:=λp p0 p1=>mI (hp.subset (bH p0 p1));have hnd:o.Nodup:=hp.symm.nodup (oC _);have hV:=h.len;have iq:=cm q q0 hq;have same:rd (upd V (rd o q) m) (rd o q)=m:=eD iq.1 G
 have other: ∀p,0<=p->p<q->rd (upd V (rd o q) m) (rd o p)=rd V (rd o p):=λp p0 p1=>by
  have ip:=cm p p0 G;exact eP iq.1 ip.1 λe=>by have:=jG hnd q0 hq p0 G e;omega
 have Xo:=h.n0;have Xt:=h.nq;refine⟨by rw[aV];exact hV,G,G,λp p0 p1=> ?_,λ_=>by rw[show q+1-1=q by omega];exact same,λp p' p0 pp p1=> ?_,λe p p0 p1=> ?_,λj j0 j1 hj=> ?_⟩
 ·rcases ay p q with a|a
  ·rw [other p p0 a];have:=h.bd p p0 a;omega
  ·rw [show p=q by omega,same];rcases hm with⟨a,_⟩|⟨a,b,_⟩
   ·omega
   ·have:=h.bd (q-1) G G;have:=h.last b;omega
 ·rcases ay p' q with a|a
  ·rw [other p p0 G,other p' G a];exact h.lt p p' p0 pp a
  ·obtain rfl:p'=q:=G
   rw[other p p0 pp,same];have hl:=h.last G;have hb:=h.bd p p0 pp;rcases ay p (p'-1) with c|c
   ·have h1:=h.lt p (p'-1) p0 c G;rcases hm with⟨rfl,z|g⟩|⟨rfl,_,g⟩
    ·omega
    ·refine .inr ⟨?_,G⟩;rcases h1 with⟨e,_⟩|⟨e,_⟩
     ·exact e.ltH g
     ·exact e.trans g
    ·rcases h1 with⟨e,v⟩|⟨e,v⟩
     ·exact .inl ⟨e.trans' g,G⟩
     ·exact .inr ⟨e.eqH g,G⟩
   ·obtain rfl:p=p'-1:=G
    rcases hm with⟨rfl,z|g⟩|⟨rfl,_,g⟩
    ·omega
    ·exact .inr ⟨g,G⟩
    ·exact .inl ⟨g,hl⟩
 ·rcases hm with⟨a,_⟩|⟨a,_,_⟩
  ·rcases ay p q with c|c
   ·rw [other p p0 c];exact h.full G p p0 c
   ·rw [show p=q by omega,same];omega
  ·omega
 ·rw [eP iq.1 j0 (hj q q0 G)];exact h.out j j0 j1 λp p0 p1=>hj p p0 G
theorem aAb {l:List Int} {x:Int} (h:x∈l): ∃p:Int,0<=p/\p<l.length/\rd l p=x:=by
 obtain⟨i,hi,rfl⟩:=gz.1 h;exact⟨i,G,G,gM hi⟩
structure RkF (s V:List Int) (n:Int):Prop where
 len:V.length=s.length+3
 bd: ∀i:Nat,i<s.length->i%3≠0->1<=rd V i/\rd V i<=n
 lt: ∀i j:Nat,i<s.length->i%3≠0->j<s.length->j%3≠0->(rd V i<rd V j↔LtH 3 (eu s i) (eu s j))
 eq: ∀i j:Nat,i<s.length->i%3≠0->j<s.length->j%3≠0->(rd V i=rd V j↔EqH 3 (eu s i) (eu s j))
 out: ∀j:Int,0<=j->j<s.length+3->(j%3=0\/s.length<=j)->rd V j=0
theorem RkI.done (h:RkI s o V o.length n) (hp:o.Perm (smp s.length)):RkF s V n:=by
 have at_: ∀i:Nat,i<s.length->i%3≠0-> ∃p:Int,0<=p/\p<o.length/\rd o p=i:=λi h1 h2=>aAb (hp.symm.subset (kM.2 ⟨G,G,G⟩))
 have key: ∀i j:Nat,i<s.length->i%3≠0->j<s.length->j%3≠0->(EqH 3 (eu s i) (eu s j)/\rd V i=rd V j)\/(LtH 3 (eu s i) (eu s j)/\rd V i<rd V j)\/(LtH 3 (eu s j) (eu s i)/\rd V j<rd V i):=by
  intro i j i1 i2 j1 j2;obtain⟨p,p0,p1,ep⟩:=at_ i i1 i2;obtain⟨r,r0,r1,er⟩:=at_ j j1 j2;rcases ja p r with a|a|a
  ·have:=h.lt p r p0 a r1;rw[ep,er,az,az] at this;exact this.elim .inl λh=> .inr (.inl h)
  ·subst a;have e:(i:Int)=j:=ep.symm.trans er;have e:i=j:=G
   subst e;exact .inl ⟨λ_ _=>rfl,rfl⟩
  ·have:=h.lt r p r0 a p1;rw[ep,er,az,az] at this;exact this.elim (λh=> .inl ⟨h.1.symm,h.2.symm⟩) λh=> .inr (.inr h)
 refine⟨h.len,λi i1 i2=> ?_,λi j i1 i2 j1 j2=> ?_,λi j i1 i2 j1 j2=> ?_,λj j0 j1 hj=>h.out j j0 j1 λp p0 p1 e=> ?_⟩
 ·obtain ⟨p,p0,p1,ep⟩:=at_ i i1 i2;have:=h.bd p p0 p1;rwa[ep] at this
 ·rcases key i j i1 i2 j1 j2 with⟨e,v⟩|⟨e,v⟩|⟨e,v⟩
  ·exact⟨λh=>G,λh=>absurd e h.not_eq⟩
  ·exact⟨λ_=>e,λ_=>v⟩
  ·exact⟨λh=>G,λh=>absurd h e.asymm⟩
 ·rcases key i j i1 i2 j1 j2 with⟨e,v⟩|⟨e,v⟩|⟨e,v⟩
  ·exact⟨λ_=>e,λ_=>v⟩
  ·exact⟨λh=>G,λh=>absurd h e.not_eq⟩
  ·exact⟨λh=>G,λh=>absurd h.symm e.not_eq⟩
 ·have:=kM.1 (hp.subset (e▸bH (L:=o) p0 p1));omega
structure RkO (s o V:List Int):Prop where
 perm:o.Perm (smp s.length)
 sorted:o.Pairwise (bU s)
 len:V.length=s.length+3
 rk: ∀p:Int,0<=p->p<o.length->rd V (rd o p)=p+1
 out: ∀j:Int,0<=j->j<s.length+3->(j%3=0\/s.length<=j)->rd V j=0
theorem RkI.all (h:RkI s o V o.length n) (hp:o.Perm (smp s.length)) (hn:n=o.length):RkO s o V:=by
 have hf:=h.full hn;refine⟨hp,?_,h.len,hf,(h.done hp).out⟩;refine di.2 λi j hi hj na=> ?_;have:=h.lt i j G G G;have e1:=hf i G G;have e2:=hf j G G;rw[gM hi,gM hj] at this;rw[gM hi] at e1;rw[gM hj] at e2;rcases this with⟨_,v⟩|⟨v,_⟩
 ·omega
 ·exact mM.2 (wZ v)
def blw (s V:List Int):List Int:=(plc s.length 1).map (rd V)++[0]++(plc s.length 2).map (rd V)
theorem sM (s V:List Int):(blw s V).length=(s.length+1)/3+1+s.length/3:=by
 unfold blw;rw[ah,ah,bi,bi,iX,iX,ic];omega
def rG (s:List Int) (i:Nat):Nat:=if i%3=1 then i/3 else(s.length+1)/3+1+i/3
theorem aWl {t:Int} (h0:0<=t) (h:t<(plc s.length 1).length):rd (blw s V) t=rd V (1+3*t):=by
 unfold blw;rw[jH h0 (by rw[ah,bi];omega),jH h0 (by rw[bi];exact h),uA h0 h,PH h0 h];rfl
theorem aWk:rd (blw s V) (plc s.length 1).length=0:=by
 unfold blw;rw[jH G (by rw[ah,bi,ic];omega),fZ (by rw[bi];omega),bi,Hl];rfl
theorem aWj {t:Int} (h0:0<=t) (h:t<(plc s.length 2).length):rd (blw s V) ((plc s.length 1).length+1+t)=rd V (2+3*t):=by
 unfold blw;have e:(((plc s.length 1).map (rd V)++[0]).length:Int)=(plc s.length 1).length+1:=by rw[ah,bi,ic];rfl
 rw[fZ (by rw[e];omega),e,show((plc s.length 1).length+1+t:Int)-((plc s.length 1).length+1)=t by omega,uA h0 h,PH h0 h];rfl
theorem RkF.nn (h:RkF s V n): ∀i:Nat,i<s.length->i%3≠0->0<=rd V i:=λi a b=>by have:=h.bd i a b;omega
theorem aRs (h:RkF s V n) (hn:0<=n): ∀x∈blw s V,0<=x/\x<n+1:=by
 intro x hx;unfold blw at hx
 have g: ∀r:Nat,r=1\/r=2->x∈(plc s.length r).map (rd V)->0<=x/\x<n+1:=λr hr hx=>by
  obtain⟨i,hi,rfl⟩:=il.1 hx;rw[jC G] at hi;have:=h.bd i.toNat G G;rw[show((i.toNat:Nat):Int)=i by omega] at this;omega
 rcases fw.1 hx with hx|hx
 ·rcases fw.1 hx with hx|hx
  ·exact g 1 (.inl rfl) hx
  ·rw[jc.1 hx];omega
 ·exact g 2 (.inr rfl) hx
theorem aRr (h:RkF s V n) (hn:0<=n):Nn (blw s V):=λx hx=>(aRs h hn x hx).1
theorem BV (h:RkF s V n) (hn:0<=n) {i:Nat} (hi:i<s.length) (h3:i%3≠0):eu (blw s V) (rG s i) 0=rd V i+1:=by
 have l1:=iX s.length 1;have l2:=iX s.length 2;rw[sI (aRr h hn)];unfold gP;rw[sM];unfold rG;by_cases c:i%3=1
 ·rw[cu c,bu G,qa,aWl G (by rw[l1];omega),show(1+3*((i/3:Nat):Int))=i by omega]
 ·rw[bu c,bu G,qa,show(((s.length+1)/3+1+i/3:Nat):Int)=(plc s.length 1).length+1+(i/3:Nat) by rw[l1];omega,aWj G (by rw[l2];omega),show(2+3*((i/3:Nat):Int))=i by omega]
theorem aFe (h:RkF s V n) (hn:0<=n) (h3:s.length%3≠0):eu (blw s V) (rG s s.length) 0<=1:=by
 have l1:=iX s.length 1;rw[sI (aRr h hn)];unfold gP;rw[sM];unfold rG;by_cases c:s.length%3=1
 ·rw [cu c,bu G,qa,show((s.length/3:Nat):Int)=(plc s.length 1).length by rw[l1];omega,aWk];omega
 ·rw [bu c,cu G];omega
theorem aRo {i:Nat} (h3:i%3≠0):rG s (i+3)=rG s i+1:=by
 unfold rG;by_cases c:i%3=1
 ·rw[cu c,cu G];omega
 ·rw[bu c,bu G];omega
theorem aWm (h:RkF s V n) (hn:0<=n): ∀(k i j:Nat),i%3≠0->j%3≠0->i<=s.length->j<=s.length->i≠j->
  (∀d,d<k->eu (blw s V) (rG s i) d=eu (blw s V) (rG s j) d)->eu (blw s V) (rG s i) k<eu (blw s V) (rG s j) k->LtO (eu s i) (eu s j):=by
 intro k
 induction k with
 | zero=>
  intro i j i3 j3 hi hj na _ aw;rcases fe j s.length with j1|j1
  ·rcases fe i s.length with i1|i1
   ·rw [BV h hn i1 i3,BV h hn j1 j3] at aw;exact wZ ((h.lt i j i1 i3 j1 j3).1 G)
   ·exact⟨0,λi hi=>G,by rw[iG G];exact qI G⟩
  ·have e:j=s.length:=G
   rw[e] at aw j3;have h1:=aFe h hn j3;rw[BV h hn G i3] at aw;have:=h.bd i G i3;omega
 | succ k ih=>
  intro i j i3 j3 hi hj na b6 aw;have e0:=b6 0 G;rcases fe j s.length with j1|j1
  ·rcases fe i s.length with i1|i1
   ·rw [BV h hn i1 i3,BV h hn j1 j3] at e0;have e:=(h.eq i j i1 i3 j1 j3).1 G;have r1:=sJ i1 j1 na e;have r2:=sJ j1 i1 (Fz na) e.symm
    have sh: ∀ {x d:Nat},x%3≠0->eu (blw s V) (rG s (x+3)) d=eu (blw s V) (rG s x) (d+1):=λ{x d} hx=>by
     rw[aRo hx,uN,wh]
    have:=ih (i+3) (j+3) G G r2 r1 G (λd hd=>by rw[sh i3,sh j3];exact b6 (d+1) G) (by rw[sh i3,sh j3];exact aw);exact(IR e).1 this
   ·exact⟨0,λi hi=>G,by rw[iG G];exact qI G⟩
  ·exfalso;have e:j=s.length:=G
   rw[e] at e0 j3;have h1:=aFe h hn j3;rw[BV h hn G i3] at e0;have:=h.bd i G i3;omega
def bk (s:List Int) (t:Int):Int:=if t<(plc s.length 1).length then 1+3*t else 2+3*(t-(plc s.length 1).length-1)
theorem WY {t:Int} (h0:0<=t) (h:t<(blw s V).length) (da:t≠(plc s.length 1).length):(0<=bk s t/\bk s t<s.length)/\bk s t%3≠0/\rG s (bk s t).toNat=t.toNat:=by
 have l1:=iX s.length 1;rw[sM] at h;unfold bk;by_cases c:t<(plc s.length 1).length
 ·rw [cu c];refine⟨G,G,?_⟩;unfold rG;rw[cu G];omega
 ·rw [bu c];refine⟨G,G,?_⟩;unfold rG;rw[bu G];omega
def ofB (s sb:List Int):List Int:=(sb.filter λt:Int=>decide (t≠(plc s.length 1).length)).map (bk s)
theorem UB {sb:List Int} {t:Int} (h:t=(plc s.length 1).length):ofB s (sb++[t])=ofB s sb:=by
 unfold ofB;rw[qz,ku (by simpa using h)];simp
theorem UC {sb:List Int} {t:Int} (h:t≠(plc s.length 1).length):ofB s (sb++[t])=ofB s sb++[bk s t]:=by
 unfold ofB;rw[qz,ny (by simpa using h),jh];rfl
theorem aUn (sb:List Int):(ofB s sb).length<=sb.length:=by
 unfold ofB;rw[bi];exact yj _ _
variable {sb:List Int}
theorem yP (hb:sb.Perm (iota (blw s V).length)) {t:Int} (ht:t∈sb.filter λt:Int=>decide (t≠(plc s.length 1).length)):(0<=t/\t<(blw s V).length)/\t≠(plc s.length 1).length:=by
 rw[mo] at ht;exact⟨aW.1 (hb.subset ht.1),by simpa using ht.2⟩
theorem aOa (hb:sb.Perm (iota (blw s V).length)):(ofB s sb).Perm (smp s.length):=by
 have hd:(sb.filter λt:Int=>decide (t≠(plc s.length 1).length)).Nodup:=(hb.symm.nodup (eT _)).sublist rz;refine TS ?_ (oC _) λx=>⟨λhx=> ?_,λhx=> ?_⟩
 ·unfold ofB;refine ik.2 (hd.imp_of_mem λ{x y} hx hy da e=> ?_);obtain⟨⟨x0,x1⟩,xn⟩:=yP hb hx;obtain⟨⟨y0,y1⟩,yn⟩:=yP hb hy;have a:=(WY x0 x1 xn).2.2;have b:=(WY y0 y1 yn).2.2;rw[e,b] at a;omega
 ·obtain ⟨t,ht,rfl⟩:=il.1 hx;obtain⟨⟨x0,x1⟩,xn⟩:=yP hb ht;have:=WY x0 x1 xn;exact kM.2 ⟨this.1.1,this.1.2,this.2.1⟩
 ·obtain ⟨x0,x1,x3⟩:=kM.1 hx;have l1:=iX s.length 1;refine il.2 ⟨rG s x.toNat,mo.2 ⟨hb.symm.subset (aW.2 ⟨G,?_⟩),?_⟩,?_⟩
  ·rw [sM];unfold rG;split<;>omega
  ·rw [ii,l1];unfold rG;split<;>omega
  ·unfold bk rG;rw[l1];by_cases c:x.toNat%3=1
   ·rw[cu c,cu G];omega
   ·rw[bu c,bu G];omega
theorem ZL (h:RkF s V n) (hn:0<=n) (hb:sb.Perm (iota (blw s V).length)) (hs:sb.Pairwise (bU (blw s V))):(ofB s sb).Pairwise (bU s):=by
 unfold ofB;refine ik.2 ((hs.filter _).imp_of_mem λ{x y} hx hy ho=> ?_);obtain⟨⟨x0,x1⟩,xn⟩:=yP hb hx;obtain⟨⟨y0,y1⟩,yn⟩:=yP hb hy;obtain⟨a1,a2,a3⟩:=WY x0 x1 xn;obtain⟨b1,b2,b3⟩:=WY y0 y1 yn;rw[mM] at ho ⊢;obtain⟨k,h1,h2⟩:=ho;rw[<-a3,<-b3] at h2;refine aWm h hn k _ _ G G G G ?_ (λd hd=>by rw[a3,b3];exact h1 d hd) h2;intro e;rw[e] at h2;omega
structure RkN (s o V:List Int) (q:Int):Prop where
 len:V.length=s.length+3
 rk: ∀p,0<=p->p<q->rd V (rd o p)=p+1
 out: ∀j:Int,0<=j->j<s.length+3->(j%3=0\/s.length<=j)->rd V j=0
theorem RkF.zero (h:RkF s V n) (o:List Int):RkN s o V 0:=⟨h.len,λp h1 h2=>G,h.out⟩
theorem RkN.step (h:RkN s o V q) (hp:o.Perm (smp s.length)) (q0:0<=q) (hq:q<o.length):RkN s o (upd V (rd o q) (q+1)) (q+1):=by
 have cm: ∀p:Int,0<=p->p<o.length->rd o p∈smp s.length:=λp p0 p1=>hp.subset (bH p0 p1);have hnd:o.Nodup:=hp.symm.nodup (oC _);have iq:=kM.1 (cm q q0 hq);have hl:=h.len;refine⟨by rw[aV];exact hl,λp p0 p1=> ?_,λj j0 j1 hj=> ?_⟩
 ·rcases ay p q with a|a
  ·have ip:=kM.1 (cm p p0 G);rw[eP iq.1 ip.1 λe=>by have:=jG hnd q0 hq p0 G e;omega];exact h.rk p p0 a
  ·rw[show p=q by omega,eD iq.1 G]
 ·rw [eP iq.1 j0 G];exact h.out j j0 j1 hj
theorem RkN.done (h:RkN s o V o.length) (hp:o.Perm (smp s.length)) (hs:o.Pairwise (bU s)):RkO s o V:=⟨hp,hs,h.len,h.rk,h.out⟩
def aGf (s:List Int) (a:Int):Prop:=0<=a/\(a<s.length/\a%3≠0\/a=s.length)
theorem RkO.at_ (h:RkO s o V) {a:Int} (ha:aGf s a) (hl:a<s.length): ∃p:Int,(0<=p/\p<o.length)/\rd o p=a/\rd V a=p+1:=by
 obtain⟨p,p0,p1,e⟩:=aAb (h.perm.symm.subset (kM.2 ⟨ha.1,hl,ha.2.elim (·.2) λh=>G⟩));exact⟨p,⟨p0,p1⟩,e,by rw[<-e];exact h.rk p p0 p1⟩
theorem RkO.end_ (h:RkO s o V):rd V (s.length:Int)=0:=h.out _ G G (.inr G)
theorem RkO.bd (h:RkO s o V) {a:Int} (ha:aGf s a):0<=rd V a/\rd V a<=o.length:=by
 rcases ay a s.length with c|c
 ·obtain ⟨p,hp,_,e⟩:=h.at_ ha c;omega
 ·have e:a=s.length:=ha.2.elim (λh=>G) id;rw[e,h.end_];omega
theorem RkO.cmp (h:RkO s o V) {a b:Int} (ha:aGf s a) (hb:aGf s b) (da:a≠b):rd V a<rd V b↔LtO (eu s a.toNat) (eu s b.toNat):=by
 rcases ay a s.length with ca|ca
 ·obtain ⟨p,hp,ep,vp⟩:=h.at_ ha ca;rcases ay b s.length with cb|cb
  ·obtain ⟨r,hr,er,vr⟩:=h.at_ hb cb;rw[vp,vr];constructor
   ·intro aw;have:=dW h.sorted hp.1 (show p<r by omega) hr.2;rw[ep,er] at this;exact mM.1 this
   ·intro aw;rcases ja p r with c|c|c
    ·omega
    ·subst c;exact absurd (ep.symm.trans er) da
    ·have:=dW h.sorted hr.1 c hp.2;rw[ep,er] at this;exact absurd aw (aHp (mM.1 this))
  ·have e:b=s.length:=hb.2.elim (λh=>G) id;rw[e,h.end_,vp];refine⟨λh=>G,λ⟨k,_,h2⟩=> ?_⟩;rw[iG (s:=s) (i:=(s.length:Int).toNat) G] at h2;have:=aPt s a.toNat k;omega
 ·have e:a=s.length:=ha.2.elim (λh=>G) id;rw[e,h.end_];have cb:b<s.length:=hb.2.elim (·.1) λh=>G
  obtain⟨r,hr,er,vr⟩:=h.at_ hb cb;rw[vr];refine⟨λ_=>⟨0,λi hi=>G,?_⟩,λ_=>G⟩;rw[iG G];exact qI (by have:=hb.1;omega)
def bhd (s V:List Int):List Int:=(List.range s.length).map λi:Nat=>rd V ((i:Int)+1)
theorem aFi (s V:List Int):(bhd s V).length=s.length:=by simp[bhd]
theorem ZA {i:Int} (h0:0<=i) (h:i<s.length):rd (bhd s V) i=rd V (i+1):=by
 unfold bhd;rw[gH h0 G];congr 1;omega
theorem RkO.all_bd (h:RkO s o V) {j:Int} (j0:0<=j) (hj:j<=s.length):0<=rd V j/\rd V j<=s.length:=by
 have ho:o.length<=s.length:=by rw[h.perm.length_eq,yA];omega
 by_cases c:j%3=0
 ·rw[h.out j j0 G (.inl c)];omega
 ·have:=h.bd (a:=j) ⟨j0,G⟩;omega
theorem aRt (h:RkO s o V): ∀x∈bhd s V,0<=x/\x<(s.length:Int)+1:=by
 intro x hx;obtain⟨i,hi,rfl⟩:=il.1 hx;have:=ji.1 hi;have:=h.all_bd (j:=(i:Int)+1) G G;omega
def oth (s V:List Int) (k:Int):List Int:=bW (bW (plc s.length 0) (bhd s V) ((s.length:Int)+1).toNat) (fA s 0) (k+1).toNat
theorem aNo (h:RkO s o V):(bW (plc s.length 0) (bhd s V) ((s.length:Int)+1).toNat).Perm (plc s.length 0):=
 mK λi hi=>by
  rw[jC G] at hi;have:=aRt h _ (bH (L:=bhd s V) hi.1 (by rw[aFi];exact hi.2.1));omega
theorem HY (h:RkO s o V) {k:Int} (hs: ∀x∈s,0<=x/\x<k) (hk:0<=k):(oth s V k).Perm (plc s.length 0):=
 (oD hs hk G λx hx=>by have:=(aNo h).subset hx;rw[jC G] at this;omega).trans (aNo h)
theorem ZH (h:RkO s o V) {k:Int} (hs: ∀x∈s,0<=x/\x<k) (hk:0<=k):(oth s V k).Pairwise (bU s):=by
 have h3:=fV (keys:=fA s 0) (fV (keys:=bhd s V) (vK s.length 0) ((s.length:Int)+1).toNat) (k+1).toNat;refine mr (λ{x y} hx hy g=> ?_) h3;have mx:=(HY h hs hk).subset hx;have my:=(HY h hs hk).subset hy;rw[jC G] at mx my;have nn:Nn s:=λx hx=>(hs x hx).1
 have e: ∀ {z:Int},0<=z->z<s.length->rd (fA s 0) z=eu s z.toNat 0:=λ{z} h0 h1=>by
  rw[yJ h0 h1,sI nn];congr 1;omega
 rw[e mx.1 mx.2.1,e my.1 my.2.1,ZA mx.1 mx.2.1,ZA my.1 my.2.1] at g;have sx:aGf s (x+1):=⟨G,G⟩;have sy:aGf s (y+1):=⟨G,G⟩;rw[mM];rcases g with g|⟨g1,g2|⟨g2,g3⟩⟩
 ·exact⟨0,λi hi=>G,g⟩
 ·have:=(h.cmp sx sy λe=>by rw[e] at g2;omega).1 g2;refine(IR (m:=1) λi hi=> ?_).1 ?_
  ·rw[show i=0 by omega];exact g1
  ·rw [show x.toNat+1=(x+1).toNat by omega,show y.toNat+1=(y+1).toNat by omega];exact this
 ·exfalso;have Na:x≠y:=g3;have t:=h.cmp sx sy G;have t':=h.cmp sy sx G;rcases tri s.length (eu s (x+1).toNat) (eu s (y+1).toNat) with a|a|a
  ·have:=t.2 (wZ a);omega
  ·have a0:EqH s.length (eu s x.toNat) (eu s y.toNat):=λi hi=>by
    cases i with
    |zero=>exact g1
    |succ i=>
     have:=a i G;rw[show(x+1).toNat=x.toNat+1 by omega,show(y+1).toNat=y.toNat+1 by omega,uN,uN,wh] at this;exact this
   have:=aAj G G a0;omega
  ·have:=t'.2 (wZ a);omega
theorem aOp (nn:Nn s) {i j:Int} (i0:0<=i) (j0:0<=j) {c:Nat} (e:EqH c (eu s i.toNat) (eu s j.toNat)) (da:gP s (i+c)≠gP s (j+c)):gP s (i+c)<gP s (j+c)↔bU s i j:=by
 have k1:gP s (i+c)=eu s i.toNat c:=by rw[sI nn];congr 1;omega
 have k2:gP s (j+c)=eu s j.toNat c:=by rw[sI nn];congr 1;omega
 rw[k1,k2] at da ⊢;rw[mM];refine⟨λh=>⟨c,e,h⟩,λ⟨k,h1,h2⟩=> ?_⟩;rcases wo k c with a|a|a
 ·have:=e k a;omega
 ·rw[<-a];exact h2
 ·exact absurd (h1 c a) da
theorem aVh (nn:Nn s) {i j:Int} (i0:0<=i) (j0:0<=j) {c:Nat} (e:EqH c (eu s i.toNat) (eu s j.toNat)) (h:gP s (i+c)=gP s (j+c)):EqH (c+1) (eu s i.toNat) (eu s j.toNat):=λd hd=>by
 rcases fe d c with a|a
 ·exact e d a
 ·have k1:gP s (i+c)=eu s i.toNat c:=by rw[sI nn];congr 1;omega
  have k2:gP s (j+c)=eu s j.toNat c:=by rw[sI nn];congr 1;omega
  rw[show d=c by omega,<-k1,<-k2,h]
theorem aHs (h:RkO s o V) {i j:Int} (hi:0<=i/\i<s.length) (hj:0<=j/\j<s.length) (na:i≠j) {c:Nat} (e:EqH c (eu s i.toNat) (eu s j.toNat)) (i3:(i+c)%3≠0) (j3:(j+c)%3≠0):
  (i+c<=s.length/\j+c<=s.length)/\(rd V (i+c)<rd V (j+c)↔bU s i j):=by
 have r1:=sJ (s:=s) (i:=i.toNat) (j:=j.toNat) G G G e;have r2:=sJ (s:=s) (i:=j.toNat) (j:=i.toNat) G G G e.symm;refine⟨G,?_⟩;rw[h.cmp ⟨G,G⟩ ⟨G,G⟩ G,mM,<-IR e,show(i+c).toNat=i.toNat+c by omega,show(j+c).toNat=j.toNat+c by omega]
structure MgI (s o t acc:List Int) (a q:Int):Prop where
 perm:acc.Perm (o.take a.toNat++t.take q.toNat)
 sorted:acc.Pairwise (bU s)
 ahead: ∀x∈acc,∀y,y∈o.drop a.toNat\/y∈t.drop q.toNat->bU s x y
variable {t acc:List Int} {a:Int}
theorem aOh:MgI s o t [] 0 0:=⟨.refl _, .nil,λx hx=>by cases hx⟩
theorem MgI.len (h:MgI s o t acc a q) (a0:0<=a) (ha:a<=o.length) (q0:0<=q) (hq:q<=t.length):(acc.length:Int)=a+q:=by
 rw[h.perm.length_eq,ah,ax,ax];omega
theorem aCx {r:Int->Int->Prop} {l:List Int} {x:Int} (h:l.Pairwise r) (hx: ∀y∈l,r y x):(l++[x]).Pairwise r:=by
 rw[pq];exact⟨h,ql _ _,λy hy z hz=>by rw[jc.1 hz];exact hx y hy⟩
theorem MgI.left (h:MgI s o t acc a q) (ho:o.Pairwise (bU s)) (ht:t.Pairwise (bU s)) (a0:0<=a) (ha:a<o.length) (q0:0<=q) (hq:q<t.length) (hl:bU s (rd o a) (rd t q)):MgI s o t (acc++[rd o a]) (a+1) q:=by
 have eo:=fM (s:=o) a0 ha;have et:=fM (s:=t) q0 hq;refine⟨?_,aCx h.sorted λy hy=>h.ahead y hy _ (.inl (by rw[eo];simp)),λx hx y hy=> ?_⟩
 ·rw [dD a0 ha];refine(h.perm.append_right _).trans ?_;rw[ig,ig];exact Cx _ yl
 ·rcases fw.1 hx with hx|hx
  ·exact h.ahead x hx y (hy.imp_left λhy=>by rw[eo];exact dw _ hy)
  ·rw [jc.1 hx];have so:(o.drop a.toNat).Pairwise (bU s):=ho.sublist (yx _ _);have st:(t.drop q.toNat).Pairwise (bU s):=ht.sublist (yx _ _);rw[eo,iv] at so;rw[et,iv] at st;rcases hy with hy|hy
   ·exact so.1 y hy
   ·rw [et] at hy;rcases jf.1 hy with rfl|hy
    ·exact hl
    ·exact IB _ _ _ hl (st.1 y hy)
theorem MgI.right (h:MgI s o t acc a q) (ho:o.Pairwise (bU s)) (ht:t.Pairwise (bU s)) (a0:0<=a) (q0:0<=q) (hq:q<t.length) (hl:a<o.length->bU s (rd t q) (rd o a)):MgI s o t (acc++[rd t q]) a (q+1):=by
 have et:=fM (s:=t) q0 hq;refine⟨?_,aCx h.sorted λy hy=>h.ahead y hy _ (.inr (by rw[et];simp)),λx hx y hy=> ?_⟩
 ·rw [dD q0 hq,<-ig];exact h.perm.append_right _
 ·rcases fw.1 hx with hx|hx
  ·exact h.ahead x hx y (hy.imp_right λhy=>by rw[et];exact dw _ hy)
  ·rw [jc.1 hx];have st:(t.drop q.toNat).Pairwise (bU s):=ht.sublist (yx _ _);rw[et,iv] at st;rcases hy with hy|hy
   ·rcases ay a o.length with c|c
    ·have eo:=fM (s:=o) a0 c;have so:(o.drop a.toNat).Pairwise (bU s):=ho.sublist (yx _ _);rw[eo,iv] at so;rw[eo] at hy;rcases jf.1 hy with rfl|hy
     ·exact hl c
     ·exact IB _ _ _ (hl c) (so.1 y hy)
    ·rw [uk G] at hy;cases hy
   ·exact st.1 y hy
theorem MgI.done (h:MgI s o t acc a q) (ho:o.Pairwise (bU s)) (hq:(t.length:Int)<=q) (hp:o.Perm (smp s.length)) (tp:t.Perm (plc s.length 0)):(acc++o.drop a.toNat).Perm (iota s.length)/\(acc++o.drop a.toNat).Pairwise (bU s):=by
 refine⟨?_,?_⟩
 ·have h1:=h.perm;rw[bn (l:=t) G] at h1;refine((h1.append_right _).trans ?_).trans (((hp.append_right _).trans (tp.append_left _)).trans (aTd _));refine(yl.append_right _).trans ?_;rw[ig,gq];exact yl
 ·rw [pq];exact⟨h.sorted,ho.sublist (yx _ _),λx hx y hy=>h.ahead x hx y (.inl hy)⟩
end
def thr (s:List Int) (m:Int):List Int:=(List.range (m+1).toNat).map λc:Nat=>if (c:Int)∈s then 1 else 0
theorem jB (s:List Int) (m:Int):(thr s m).length=(m+1).toNat:=by simp[thr]
theorem GD {s:List Int} {m c:Int} (h0:0<=c) (h:c<=m):rd (thr s m) c=if c∈s then 1 else 0:=by
 unfold thr;rw[gH h0 G,show((c.toNat:Nat):Int)=c by omega]
theorem aSu (m:Int):thr [] m=List.replicate (m+1).toNat 0:=by
 refine bI (by rw[jB,bq]) λj h0 h1=> ?_;rw[jB] at h1;rw[GD h0 G,rW];rfl
theorem aLh {s:List Int} {m x:Int} (h0:0<=x) (h:x<=m):upd (thr s m) x 1=thr (s++[x]) m:=by
 refine bI (by rw[aV,jB,jB]) λj j0 j1=> ?_;rw[aV,jB] at j1;rw[fI h0 j0 (by rw[jB];omega),GD j0 G,GD j0 G];by_cases e:j=x
 ·rw[cu e,cu (by rw[e];simp)]
 ·rw [bu e];by_cases c:j∈s
  ·rw[cu c,cu (Dt _ c)]
  ·rw[bu c,bu (by rw[fw,jc];exact λh=>h.elim c e)]
theorem aLi (s:List Int) (m:Int): ∀x∈thr s m,0<=x:=by
 intro x hx;obtain⟨c,_,rfl⟩:=il.1 hx;split<;>omega
theorem aNf {s:List Int} {m:Int}: ∀x:Nat,(x:Int)<=m+1->ps (thr s m) x=((List.range x).filter λc:Nat=>decide ((c:Int)∈s)).length
 |0,_=>rfl
 | x+1,h=>by
  rw[show((x+1:Nat):Int)=(x:Int)+1 by omega,lQ G (by rw[jB];omega),aNf x G,GD G G,yo,qz,ah];by_cases c:(x:Int)∈s
  ·rw [cu c,ny (by simpa using c)];simp
  ·rw [bu c,ku (by simpa using c)];simp
theorem aUd {L:List Int} (h: ∀x∈L,0<=x) {a b:Int} (h0:0<=a) (sd:a<=b) (hb:b<=L.length):ps L a<=ps L b:=by
 obtain⟨d,rfl⟩: ∃d:Nat,b=a+d:=⟨(b-a).toNat,G⟩
 induction d with
 |zero=>simp
 |succ d ih=>
  have:=ih G G;rw[show a+((d+1:Nat):Int)=a+(d:Int)+1 by omega,lQ G G];have:=h _ (bH (L:=L) (k:=a+d) G G);omega
theorem aCv {s:List Int} {m x y:Int} (hx:x∈s) (x0:0<=x) (Na:x<y) (hy:y<=m):ps (thr s m) x<ps (thr s m) y:=by
 have h1:=lQ (L:=thr s m) (k:=x) x0 (by rw[jB];omega);rw[GD x0 G,cu hx] at h1;have h2:=aUd (aLi s m) (a:=x+1) (b:=y) G G (by rw[jB];omega);omega
theorem bCr {s:List Int} {m x:Int} (hx:x∈s) (x0:0<=x) (hm:x<=m):0<=ps (thr s m) x/\ps (thr s m) x<s.length:=by
 have e:ps (thr s m) x=((List.range x.toNat).filter λc:Nat=>decide ((c:Int)∈s)).length:=by
  have:=aNf (s:=s) (m:=m) x.toNat G;rwa[show((x.toNat:Nat):Int)=x by omega] at this
 rw[e];have hl:=mV (l:=(((List.range x.toNat).filter λc:Nat=>decide ((c:Int)∈s)).map λc:Nat=>(c:Int))++[x]) (m:=s) ?_ ?_
 ·rw [ah,bi,ic] at hl;omega
 ·refine vz.2 ⟨ik.2 ((vk.sublist rz).imp λ{x y} h hh=>h G),ql _ _,λa ha b hb e=> ?_⟩;obtain⟨c,hc,rfl⟩:=il.1 ha;have:=ji.1 (mo.1 hc).1;rw[jc] at hb;omega
 ·intro z hz;rcases fw.1 hz with hz|hz
  ·obtain ⟨c,hc,rfl⟩:=il.1 hz;simpa using (mo.1 hc).2
  ·rw[jc.1 hz];exact hx
def sqz (s:List Int) (m:Int):List Int:=s.map λx=>ps (thr s m) x
theorem EG (s:List Int) (m:Int):(sqz s m).length=s.length:=by simp[sqz]
theorem aZf {s:List Int} {m:Int} (hs: ∀x∈s,0<=x/\x<=m): ∀x∈sqz s m,0<=x/\x<s.length:=by
 intro y hy;obtain⟨x,hx,rfl⟩:=il.1 hy;exact bCr hx (hs x hx).1 (hs x hx).2
theorem JJ {P:Int->Prop} {f:Int->Int} (hf: ∀x y:Int,P x->P y->(x<y↔f x<f y)): ∀a b:List Int,(∀x∈a,P x)->(∀x∈b,P x)->cmpL (a.map f) (b.map f)=cmpL a b
 |[],[],_,_=>rfl
 |[],b::v,_,_=>rfl
 |a::u,[],_,_=>rfl
 |a::u,b::v,ha,hb=>by
  have pa:=ha a cD;have pb:=hb b cD;simp only[kv,cmpL,<-hf a b pa pb,<-hf b a pb pa];rw[JJ hf u v (λx hx=>ha x (dw _ hx)) λx hx=>hb x (dw _ hx)]
theorem aSz {s:List Int} {m:Int} (hs: ∀x∈s,0<=x/\x<=m) {x y:Int}:bU (sqz s m) x y↔bU s x y:=by
 rw[<-gX,<-gX];unfold sqz;rw[<-Gr,<-Gr,JJ (P:=λx=>x∈s) (λx y hx hy=>⟨λh=>aCv hx (hs x hx).1 h (hs y hy).2,λh=> ?_⟩) _ _ (λx hx=>pg hx) λx hx=>pg hx];refine Int.not_le.1 λc=> ?_;rcases ay y x with d|d
 ·have:=aCv hy (hs y hy).1 d (hs x hx).2;omega
 ·rw [show x=y by omega] at h;omega
theorem aGb {s b:List Int} {m:Int} (hs: ∀x∈s,0<=x/\x<=m) (hp:b.Perm (iota (sqz s m).length)) (ho:b.Pairwise (bU (sqz s m))):b.Perm (iota s.length)/\b.Pairwise (bU s):=by
 rw[EG] at hp;exact⟨hp,ho.imp λh=>(aSz hs).1 h⟩
def aZc (s:List Int) (k:Int):Nat->List Int
 |0=>smp s.length
 |j+1=>bW (aZc s k j) (fA s (2-(j:Int))) (k+1).toNat
theorem AC {s:List Int} {k:Int} (hs: ∀x∈s,0<=x/\x<k) (hk:0<=k): ∀j:Nat,j<=3->(aZc s k j).Perm (smp s.length)
 |0,_=> .refl _
 |j+1,h=>(oD hs hk G λx hx=>mI ((AC hs hk j G).subset hx)).trans (AC hs hk j G)
def LB (s:List Int) (i j:Int):Prop:=gP s (i+0)=gP s (j+0)/\gP s (i+1)=gP s (j+1)/\gP s (i+2)=gP s (j+2)
instance (s:List Int) (i j:Int):Decidable (LB s i j):=by unfold LB;exact inferInstance
theorem XI {s:List Int} (nn:Nn s) {i j:Int} (i0:0<=i) (j0:0<=j):LB s i j↔EqH 3 (eu s i.toNat) (eu s j.toNat):=by
 have e: ∀(z:Int) (b:Nat),0<=z->gP s (z+b)=eu s z.toNat b:=λz b hz=>by rw[sI nn];congr 1;omega
 have a0:gP s (i+0)=eu s i.toNat 0:=e i 0 i0;have a1:gP s (i+1)=eu s i.toNat 1:=e i 1 i0;have a2:gP s (i+2)=eu s i.toNat 2:=e i 2 i0;have b0:gP s (j+0)=eu s j.toNat 0:=e j 0 j0;have b1:gP s (j+1)=eu s j.toNat 1:=e j 1 j0;have b2:gP s (j+2)=eu s j.toNat 2:=e j 2 j0;unfold LB;rw[a0,a1,a2,b0,b1,b2];constructor
 ·rintro ⟨h0,h1,h2⟩ d hd
  match d,hd with
  |0,_=>exact h0
  |1,_=>exact h1
  |2,_=>exact h2
 ·intro h;exact⟨h 0 G,h 1 G,h 2 G⟩
theorem aWs {s:List Int} {i j:Int} (h: ∀c:Int,0<=c->c<3->gP s (i+c)=gP s (j+c)):LB s i j:=⟨h 0 G G,h 1 G G,h 2 G G⟩
theorem aSb {s:List Int} {i j c:Int} (c0:0<=c) (c3:c<3) (h:gP s (i+c)≠gP s (j+c)): ¬LB s i j:=by
 rintro⟨h0,h1,h2⟩;rcases(by omega:c=0\/c=1\/c=2) with rfl|rfl|rfl
 ·exact h h0
 ·exact h h1
 ·exact h h2
section
variable {s o V:List Int} {q n:Int}
theorem bAd (nn:Nn s) (hp:o.Perm (smp s.length)) (hs:o.Pairwise λx y=> ¬LtH 3 (eu s y.toNat) (eu s x.toNat)) (q0:0<=q) (hq:q<o.length) (h:q=0\/ ¬LB s (rd o (q-1)) (rd o q)):
  q=0\/LtH 3 (eu s (rd o (q-1)).toNat) (eu s (rd o q).toNat):=by
 rcases ay 0 q with c|c
 ·rcases h with h|h
  ·exact .inl h
  ·have cm: ∀p:Int,0<=p->p<o.length->0<=rd o p:=λp a b=>(mI (hp.subset (bH a b))).1;rw[XI nn (cm (q-1) G G) (cm q q0 hq)] at h;have g:=dW hs (i:=q-1) (j:=q) G G hq;rcases tri 3 (eu s (rd o (q-1)).toNat) (eu s (rd o q).toNat) with a|a|a
   ·exact .inr a
   ·exact absurd a h
   ·exact absurd a g
 ·exact .inl G
theorem bAb (nn:Nn s) (hp:o.Perm (smp s.length)) (q0:0<=q) (hq:q<o.length) (h: ¬(q=0\/ ¬LB s (rd o (q-1)) (rd o q))):0<q/\EqH 3 (eu s (rd o (q-1)).toNat) (eu s (rd o q).toNat):=by
 have c:0<q:=G
 have cm: ∀p:Int,0<=p->p<o.length->0<=rd o p:=λp a b=>(mI (hp.subset (bH a b))).1;refine⟨c,(XI nn (cm (q-1) G G) (cm q q0 hq)).1 (yt.1 λg=>h (.inr g))⟩
theorem RkI.short (h:RkI s o V o.length n) (hp:o.Perm (smp s.length)) (h2:2<=s.length) (h3:s.length<=3):n=o.length:=by
 have hl:o.length=(s.length+1)/3+s.length/3:=by rw[hp.length_eq,yA]
 have cm: ∀p:Int,0<=p->p<o.length->(0<=rd o p/\rd o p<s.length/\rd o p%3≠0):=λp a b=>kM.1 (hp.subset (bH a b));have Xt:=h.nq;have b0:=h.bd 0 G G;rcases(by omega:o.length=1\/o.length=2) with e|e
 ·omega
 ·have b1:=h.bd 1 G G;have i0:=cm 0 G G;have i1:=cm 1 G G;rcases h.lt 0 1 G G G with⟨a,_⟩|⟨_,a⟩
  ·exfalso;have da:rd o 0≠rd o 1:=λg=>by have:=jG (hp.symm.nodup (oC _)) (i:=0) (j:=1) G G G G g;omega
   have:=sJ (s:=s) (i:=(rd o 0).toNat) (j:=(rd o 1).toNat) G G G a;omega
  ·omega
theorem bBg {t:Int} (h0:0<=t) (h:t<(plc s.length 1).length):rd (plc s.length 1) t=bk s t:=by
 unfold bk;rw[cu h,PH h0 h];rfl
theorem bBf {t:Int} (h:(plc s.length 1).length<t) (ht:t-1<(smp s.length).length):rd (smp s.length) (t-1)=bk s t:=by
 unfold bk;rw[bu G];unfold smp at ht ⊢;rw[ah] at ht;rw[fZ G,PH G G];omega
theorem aHb (h:s.length<2):plc s.length 0=iota s.length:=by
 rcases(by omega:s.length=0\/s.length=1) with e|e<;>rw[e]<;>rfl
theorem aZp (h:s.length<2):(iota s.length).Pairwise (bU s):=by
 rcases(by omega:s.length=0\/s.length=1) with e|e
 ·rw[e];exact .nil
 ·rw[e];exact ql _ _
theorem bBj {W:List Int} (hl:W.length=s.length) (h: ∀j:Int,0<=j->j<s.length->rd W j=rd V (j+1)):W=bhd s V:=
 bI (hl.trans (aFi s V).symm) λj h0 h1=>by rw[ZA h0 G];exact h j h0 G
theorem aOx {W:List Int} {b:Int} (hl:W.length=s.length) (h: ∀j:Int,0<=j->j<s.length->rd W j=gP s (j+b)):W=fA s b:=
 bI (hl.trans (BL s b).symm) λj h0 h1=>by rw[yJ h0 G];exact h j h0 G
end
theorem FJ: ∀ {L:List Int},(∀x∈L,x<=1)->L.sum<=L.length
 |[],_=>cD
 |a::L,h=>by
  have:=FJ (L:=L) λx hx=>h x (dw _ hx);have:=h a cD;rw[xg,dm];omega
theorem aSt (s:List Int) (m:Int):(thr s m).sum<=(m+1).toNat:=by
 rw[<-jB s m];refine FJ λx hx=> ?_;obtain⟨c,_,rfl⟩:=il.1 hx;split<;>omega
theorem aZe {s W:List Int} {m:Int} (hs: ∀x∈s,0<=x/\x<=m) (hl:W.length=s.length) (h: ∀j:Int,0<=j->j<s.length->rd W j=rd (bZ (thr s m)) (rd s j)):W=sqz s m:=
 bI (hl.trans (EG s m).symm) λj h0 h1=>by
  have hm:=hs _ (bH (L:=s) h0 G);unfold sqz;rw[uA h0 G,h j h0 G,mJ hm.1 (by rw[jB];omega)]
def BO (s:List Int) (i j:Nat) (d:Nat):Prop:=(i+d<s.length/\j+d<s.length)/\lt s (i+d)=lt s (j+d)
instance (s:List Int) (i j d:Nat):Decidable (BO s i j d):=by unfold BO;exact inferInstance
def WN (s:List Int):Nat->Nat->Nat->Nat
 |0,_,_=>0
 |f+1,i,j=>if BO s i j 0 then WN s f (i+1) (j+1)+1 else 0
def com (s:List Int) (i j:Int):Nat:=WN s s.length i.toNat j.toNat
theorem VI {s:List Int} {i j m d:Nat}:BO s (i+m) (j+m) d↔BO s i j (m+d):=by
 unfold BO;rw[qd,qd]
theorem WM {s:List Int}: ∀(f i j:Nat),∀d,d<WN s f i j->BO s i j d
 |0,i,j,d,h=>by simp[WN] at h
 | f+1,i,j,d,h=>by
  unfold WN at h;split at h
  ·rename_i c;cases d with
   |zero=>exact c
   |succ d=>
    have:=WM (s:=s) f (i+1) (j+1) d G;rwa[VI,wh] at this
  ·omega
theorem WL {s:List Int}: ∀(f i j:Nat),s.length<=i+f-> ¬BO s i j (WN s f i j)
 |0,i,j,h=>by
  unfold WN BO;omega
 | f+1,i,j,h=>by
  unfold WN;by_cases c:BO s i j 0
  ·rw [cu c];have:=WL (s:=s) f (i+1) (j+1) G;rwa[VI,wh] at this
  ·rw[bu c];exact c
theorem aEz {s:List Int} {i j:Int}: ∀d,d<com s i j->BO s i.toNat j.toNat d:=WM _ _ _
theorem aWd {s:List Int} {i j:Int}: ¬BO s i.toNat j.toNat (com s i j):=WL _ _ _ G
theorem bAz {s:List Int} {i j:Int} {n:Nat}:n<=com s i j↔ ∀d,d<n->BO s i.toNat j.toNat d:=by
 refine⟨λh d hd=>aEz d G,λh=>Hr.1 λc=> ?_⟩;exact aWd (h _ c)
theorem bBa {s:List Int} {i j:Int} (i0:0<=i) (hi:i<=s.length) (j0:0<=j) (hj:j<=s.length):i+com s i j<=s.length/\j+com s i j<=s.length:=by
 rcases dx (com s i j) with z|z
 ·omega
 ·have:=(aEz (s:=s) (i:=i) (j:=j) (com s i j-1) G).1;omega
theorem aEy {s:List Int} {i j:Int} {n:Nat} (hi:0<=i/\i<s.length) (hj:0<=j/\j<s.length) (na:i≠j):n<=com s i j↔EqH n (eu s i.toNat) (eu s j.toNat):=by
 rw[bAz];constructor
 ·intro h d hd;obtain⟨⟨a,b⟩,c⟩:=h d hd;unfold eu;rw[cu a,cu b,c]
 ·intro h d hd;have r1:=sJ (s:=s) (i:=i.toNat) (j:=j.toNat) G G G h;have r2:=sJ (s:=s) (i:=j.toNat) (j:=i.toNat) G G G h.symm;refine⟨⟨G,G⟩,?_⟩;have:=h d hd;unfold eu at this;rw[cu G,cu G] at this;omega
theorem eq_between {n:Nat} {U V W:Nat->Int} (e:EqH n U W) (h1: ¬LtO V U) (h2: ¬LtO W V):EqH n U V:=by
 rcases tri n U V with a|a|a
 ·exact absurd (wZ (e.symm.ltH a)) h2
 ·exact a
 ·exact absurd (wZ a) h1
structure sN (s a R:List Int):Prop where
 perm:a.Perm (iota s.length)
 sorted:a.Pairwise (bU s)
 len:R.length=s.length
 inv: ∀r:Int,0<=r->r<s.length->rd R (rd a r)=r
section
variable {s a R:List Int}
theorem sN.alen (h:sN s a R):a.length=s.length:=by rw[h.perm.length_eq,bF]
theorem sN.ain (h:sN s a R) {r:Int} (r0:0<=r) (hr:r<s.length):0<=rd a r/\rd a r<s.length:=aW.1 (h.perm.subset (bH r0 (by rw[h.alen];exact hr)))
theorem sN.at_ (h:sN s a R) {i:Int} (i0:0<=i) (hi:i<s.length):(0<=rd R i/\rd R i<s.length)/\rd a (rd R i)=i:=by
 obtain⟨p,p0,p1,e⟩:=aAb (h.perm.symm.subset (aW.2 ⟨i0,hi⟩));rw[h.alen] at p1;have:=h.inv p p0 p1;rw[e] at this;rw[this];exact⟨⟨p0,p1⟩,e⟩
theorem sN.ord (h:sN s a R) {p q:Int} (p0:0<=p) (Uy:p<q) (hq:q<s.length):bU s (rd a p) (rd a q):=dW h.sorted p0 Uy (by rw[h.alen];exact hq)
theorem sN.rank (h:sN s a R) {i j:Int} (hi:0<=i/\i<s.length) (hj:0<=j/\j<s.length):rd R i<rd R j↔bU s i j:=by
 obtain⟨a1,a2⟩:=h.at_ hi.1 hi.2;obtain⟨b1,b2⟩:=h.at_ hj.1 hj.2;constructor
 ·intro c;have:=h.ord a1.1 c b1.2;rwa[a2,b2] at this
 ·intro c;rcases ja (rd R i) (rd R j) with d|d|d
  ·exact d
  ·rw [d,b2] at a2;rw[a2] at c;exact absurd c (fC _ _ c)
  ·have:=h.ord b1.1 d a1.2;rw[a2,b2] at this;exact absurd c (fC _ _ this)
theorem ZX (h:sN s a R) {i:Int} (i0:0<=i) (hi:i+1<s.length) (h1:0<rd R i) (h2:0<rd R (i+1)):
  com s i (rd a (rd R i-1))-1<=com s (i+1) (rd a (rd R (i+1)-1)):=by
 rcases fe 1 (com s i (rd a (rd R i-1))) with c|c
 ·obtain ⟨ra,rb⟩:=h.at_ i0 G;obtain⟨sa,sb⟩:=h.at_ (i:=i+1) G hi;generalize hj:rd a (rd R i-1)=j at c ⊢;generalize hp:rd a (rd R (i+1)-1)=p;have Yi:=h.ain (r:=rd R i-1) G G;have Yu:=h.ain (r:=rd R (i+1)-1) G G;rw[hj] at Yi;rw[hp] at Yu;have Qs:=h.ord (p:=rd R i-1) (q:=rd R i) G G ra.2;rw[hj,rb] at Qs;have Qt:=h.ord (p:=rd R (i+1)-1) (q:=rd R (i+1)) G G sa.2;rw[hp,sb] at Qt;have b7:j≠i:=λe=>by rw[e] at Qs;exact fC _ _ Qs Qs
  have Mu:p≠i+1:=λe=>by rw[e] at Qt;exact fC _ _ Qt Qt
  have bj:=bBa (s:=s) (i:=i) (j:=j) G G G G;have Mn:j+1<s.length:=G
  have e:=(aEy (n:=com s i j) ⟨i0,G⟩ Yi (Fz b7)).1 (dh _);have e1:EqH 1 (eu s j.toNat) (eu s i.toNat):=(e.mono G).symm
  have o1:LtO (eu s (j+1).toNat) (eu s (i+1).toNat):=by
   rw[show(j+1).toNat=j.toNat+1 by omega,show(i+1).toNat=i.toNat+1 by omega,IR e1];exact mM.1 Qs
  have r1:=(h.rank (i:=j+1) (j:=i+1) ⟨G,Mn⟩ ⟨G,hi⟩).2 (mM.2 o1);obtain⟨ta,tb⟩:=h.at_ (i:=j+1) G Mn
  have e2:EqH (com s i j-1) (eu s (i+1).toNat) (eu s (j+1).toNat):=λd hd=>by
   have:=e (d+1) G;rw[show(j+1).toNat=j.toNat+1 by omega,show(i+1).toNat=i.toNat+1 by omega,uN,uN,wh 1 d];exact this
  refine(aEy ⟨G,hi⟩ Yu (Fz Mu)).2 ?_
  have mj:j+1=p\/bU s (j+1) p:=by
   rcases ay (rd R (j+1)) (rd R (i+1)-1) with d|d
   ·have:=h.ord ta.1 d G;rw[tb,hp] at this;exact .inr this
   ·refine .inl ?_;rw[<-tb,<-hp];congr 1;omega
  rcases mj with rfl|mj
  ·exact e2
  ·refine e2.trans' (eq_between e2.symm (λg=> ?_) λg=> ?_)
   ·exact fC _ _ mj (mM.2 g)
   ·exact fC _ _ Qt (mM.2 g)
 ·omega
def aHv (s a:List Int):List Int:=(List.range a.length).map λr:Nat=>if r=0 then 0 else(com s (rd a r) (rd a ((r:Int)-1)):Int)
theorem aOr (s a:List Int):(aHv s a).length=a.length:=by simp[aHv]
theorem aDj {r:Int} (h0:0<=r) (h:r<a.length):rd (aHv s a) r=if r=0 then 0 else(com s (rd a r) (rd a (r-1)):Int):=by
 unfold aHv;rw[gH h0 G,show((r.toNat:Nat):Int)=r by omega];by_cases c:r=0
 ·rw[cu c,cu G]
 ·rw[bu c,bu G]
structure XN (s a R V:List Int) (i n:Int):Prop where
 len:V.length=s.length
 n0:0<=n
 nl:i<s.length->0<rd R i->n.toNat<=com s i (rd a (rd R i-1))
 val: ∀p:Int,0<=p->p<i->rd V (rd R p)=rd (aHv s a) (rd R p)
 zero:0<s.length->rd V 0=0
variable {V:List Int} {i n:Int}
theorem XN.skip (k:XN s a R V i n) (h:sN s a R) (i0:0<=i) (hi:i<s.length) (hr:rd R i=0):XN s a R V (i+1) 0:=by
 refine⟨k.len,G,λ_ _=>uh _,λp p0 p1=> ?_,k.zero⟩;rcases ay p i with c|c
 ·exact k.val p p0 c
 ·rw [show p=i by omega,hr,aDj G (by rw[h.alen];omega),cu rfl];exact k.zero G
theorem XN.put (k:XN s a R V i n) (h:sN s a R) (i0:0<=i) (hi:i<s.length) (hr:rd R i≠0) {m:Int} (hm:m=com s i (rd a (rd R i-1))):XN s a R (upd V (rd R i) m) (i+1) (max (m-1) 0):=by
 obtain⟨ra,rb⟩:=h.at_ i0 hi;have hl:=k.len;refine⟨by rw[aV];exact hl,G,λh1 h2=> ?_,λp p0 p1=> ?_,λhs=> ?_⟩
 ·have:=ZX h i0 h1 G h2;omega
 ·obtain ⟨pa,pb⟩:=h.at_ p0 (show p<s.length by omega);rcases ay p i with c|c
  ·rw [eP ra.1 pa.1 λe=>by rw[<-e,rb] at pb;omega];exact k.val p p0 c
  ·rw[show p=i by omega,eD ra.1 G,aDj ra.1 (by rw[h.alen];exact ra.2),bu hr,rb,hm]
 ·rw [eP ra.1 G hr];exact k.zero hs
theorem XN.done (k:XN s a R V s.length n) (h:sN s a R):V=aHv s a:=by
 refine bI (by rw[k.len,aOr,h.alen]) λj j0 j1=> ?_;rw[k.len] at j1;have e:=k.val (rd a j) (h.ain j0 j1).1 (h.ain j0 j1).2;rwa[h.inv j j0 j1] at e
def GU (s a R:List Int):List Int:=(List.range s.length).map λi:Nat=>if rd R i=0 then 0 else(com s i (rd a (rd R i-1)):Int)
theorem aHa:(GU s a R).length=s.length:=by simp[GU]
theorem aMz (h0:0<=i) (h:i<s.length):rd (GU s a R) i=if rd R i=0 then 0 else(com s i (rd a (rd R i-1)):Int):=by
 unfold GU;rw[gH h0 G,show((i.toNat:Nat):Int)=i by omega]
theorem sN.next (h:sN s a R) {r:Int} (r0:1<=r) (hr:r<s.length):rd s (rd a (r-1))<rd s (rd a r)\/rd s (rd a (r-1))=rd s (rd a r)/\
  ((rd a (r-1)+1=s.length/\rd a r+1<s.length)\/(rd a (r-1)+1<s.length/\rd a r+1<s.length/\rd R (rd a (r-1)+1)<rd R (rd a r+1))):=by
 have o:=h.ord (p:=r-1) (q:=r) G G hr;have x:=h.ain (r:=r-1) G G;have y:=h.ain (r:=r) G hr;generalize rd a (r-1)=p at o x ⊢;generalize rd a r=q at o y ⊢;rw[mM] at o
 have e0: ∀z:Int,0<=z->z<s.length->eu s z.toNat 0=rd s z-lo s+1:=λz z0 z1=>by
  unfold eu;rw[cu G];rfl
 obtain⟨k,h1,h2⟩:=o;cases k with
 |zero=>rw[e0 p x.1 x.2,e0 q y.1 y.2] at h2;exact .inl G
 | succ k=>
  have e:=h1 0 G;rw[e0 p x.1 x.2,e0 q y.1 y.2] at e;refine .inr ⟨G,?_⟩
  have hq:q+1<s.length:=by
   rcases fe (q.toNat+(k+1)) s.length with c|c
   ·omega
   ·rw [iG c] at h2;have:=aPt s p.toNat (k+1);omega
  rcases ay (p+1) s.length with c|c
  ·refine .inr ⟨c,hq,(h.rank ⟨G,c⟩ ⟨G,hq⟩).2 (mM.2 ?_)⟩;rw[show(p+1).toNat=p.toNat+1 by omega,show(q+1).toNat=q.toNat+1 by omega,IR (λd hd=>by rw[show d=0 by omega];exact h1 0 G)];exact⟨k+1,h1,h2⟩
  ·exact .inl ⟨G,hq⟩
end
structure QV (a V:List Int) (B:List Bool) (q:Int):Prop where
 len:V.length=a.length
 blen:B.length=a.length
 val: ∀p:Int,0<=p->p<q->rd V (rd a p)=p
 seen: ∀x:Int,0<=x->x<a.length->(rdb B x=true↔ ∃p:Int,0<=p/\p<q/\rd a p=x)
theorem QV.fresh {a V:List Int} {B:List Bool} {q:Int} (h:QV a V B q) (hp:a.Perm (iota a.length)) (q0:0<=q) (hq:q<a.length):(0<=rd a q/\rd a q<a.length)/\ ¬rdb B (rd a q)=true:=by
 have cm:=aW.1 (hp.subset (bH q0 hq));refine⟨cm,λhs=> ?_⟩;obtain⟨p,p0,p1,e⟩:=(h.seen _ cm.1 cm.2).1 hs;have:=jG (hp.symm.nodup (eT _)) p0 G q0 hq e;omega
theorem QV.step {a V:List Int} {B:List Bool} {q:Int} (h:QV a V B q) (hp:a.Perm (iota a.length)) (q0:0<=q) (hq:q<a.length):QV a (upd V (rd a q) q) (oO B (rd a q) true) (q+1):=by
 obtain⟨⟨x0,x1⟩,_⟩:=h.fresh hp q0 hq;have hl:=h.len;have hb:=h.blen;have hnd:=hp.symm.nodup (eT a.length);refine⟨by rw[aV];exact hl,by rw[kF];exact hb,λp p0 p1=> ?_,λx h0 h1=> ?_⟩
 ·rcases ay p q with c|c
  ·have cm:=aW.1 (hp.subset (bH (L:=a) p0 G));rw[eP x0 cm.1 λe=>by have:=jG hnd q0 hq p0 G e;omega];exact h.val p p0 c
  ·rw[show p=q by omega,eD x0 G]
 ·rw [vI x0 G h0];by_cases c:x=rd a q
  ·rw [cu c];exact⟨λ_=>⟨q,q0,G,c.symm⟩,λ_=>rfl⟩
  ·rw [bu c,h.seen x h0 h1];exact⟨λ⟨p,p0,p1,e⟩=>⟨p,p0,G,e⟩,λ⟨p,p0,p1,e⟩=>⟨p,p0,(ay p q).elim id λd=>absurd (by rw[<-e,show p=q by omega]) c,e⟩⟩
theorem QV.done {s a V:List Int} {B:List Bool} (h:QV a V B a.length) (hp:a.Perm (iota s.length)) (hs:a.Pairwise (bU s)):sN s a V:=by
 have hl:a.length=s.length:=by rw[hp.length_eq,bF]
 exact⟨hp,hs,by rw[h.len,hl],λr r0 hr=>h.val r r0 G⟩
def bBq (a V:List Int):Prop:=V.length=a.length/\ ∀r:Int,0<=r->r<a.length->rd V (rd a r)=r
theorem QV.all {a V:List Int} {B:List Bool} (h:QV a V B a.length):bBq a V:=⟨h.len,h.val⟩
theorem bBq.ord {s a V:List Int} (h:bBq a V) (hp:a.Perm (iota s.length)) (hs:a.Pairwise (bU s)):sN s a V:=by
 have hl:a.length=s.length:=by rw[hp.length_eq,bF]
 exact⟨hp,hs,by rw[h.1,hl],λr r0 hr=>h.2 r r0 G⟩
section
variable {s a R:List Int}
structure AhI (a V:List Int) (q l:Int):Prop where
 len:V.length=a.length
 last:l=if q=0 then -1 else rd a (q-1)
 val: ∀p:Int,0<=p->p<q->rd V (rd a p)=if p=0 then -1 else rd a (p-1)
def AhF (a V:List Int):Prop:=V.length=a.length/\ ∀p:Int,0<=p->p<a.length->rd V (rd a p)=if p=0 then -1 else rd a (p-1)
variable {V:List Int} {q l:Int}
theorem AhI.step (h:AhI a V q l) (hp:a.Perm (iota a.length)) (q0:0<=q) (hq:q<a.length):AhI a (upd V (rd a q) l) (q+1) (rd a q):=by
 have cm:=aW.1 (hp.subset (bH q0 hq));have hnd:=hp.symm.nodup (eT a.length);have hl:=h.len;refine⟨by rw[aV];exact hl,by rw[bu G,show q+1-1=q by omega],λp p0 p1=> ?_⟩;rcases ay p q with c|c
 ·have ip:=aW.1 (hp.subset (bH (L:=a) p0 G));rw[eP cm.1 ip.1 λe=>by have:=jG hnd q0 hq p0 G e;omega];exact h.val p p0 c
 ·rw [show p=q by omega,eD cm.1 G];exact h.last
theorem AhI.done (h:AhI a V a.length l):AhF a V:=⟨h.len,h.val⟩
theorem AhF.at_ (h:AhF a V) (o:sN s a R) {i:Int} (h0:0<=i) (hi:i<s.length):rd V i=if rd R i=0 then -1 else rd a (rd R i-1):=by
 obtain⟨x,y⟩:=o.at_ h0 hi;have:=h.2 (rd R i) x.1 (by rw[o.alen];exact x.2);rwa[y] at this
structure PlI (s a R V:List Int) (i n:Int):Prop where
 len:V.length=s.length
 n0:0<=n
 nl:i<s.length->0<rd R i->(n-1).toNat<=com s i (rd a (rd R i-1))
 val: ∀p:Int,0<=p->p<i->rd V p=rd (GU s a R) p
variable {i n:Int}
theorem PlI.put (k:PlI s a R V i n) (i0:0<=i) (hi:i<s.length) {m:Int} (hm:m=rd (GU s a R) i) (h0:0<=m) (hn:i+1<s.length->0<rd R (i+1)->(m-1).toNat<=com s (i+1) (rd a (rd R (i+1)-1))):PlI s a R (upd V i m) (i+1) m:=by
 have hl:=k.len;refine⟨by rw[aV];exact hl,h0,hn,λp p0 p1=> ?_⟩;rcases ay p i with c|c
 ·rw [eP i0 p0 G];exact k.val p p0 c
 ·rw [show p=i by omega,eD i0 G];exact hm
theorem PlI.zero (k:PlI s a R V i n) (i0:0<=i) (hi:i<s.length) (hr:rd R i=0):PlI s a R (upd V i 0) (i+1) 0:=
 k.put i0 hi (by rw[aMz i0 hi,cu hr]) G λ_ _=>uh _
theorem PlI.done (k:PlI s a R V s.length n):V=GU s a R:=
 bI (by rw[k.len,aHa]) λj j0 j1=>k.val j j0 (by have:=k.len;omega)
end
variable {l b:List Int} {k c i:Int}
def mtf (l:List Int) (k:Int):List Int:=rd l k::(l.take k.toNat++l.drop (k.toNat+1))
def idx (l:List Int) (c:Int):Int:=(l.findIdx (λx=>x==c):Nat)
def bB (l:List Int):List Int->List Int
 |[]=>[]
 |c::b=>idx l c::bB (mtf l (idx l c)) b
def yC (l:List Int):List Int->List Int
 |[]=>l
 |c::b=>yC (mtf l (idx l c)) b
def jV (l:List Int):List Int->List Int
 |[]=>[]
 |k::b=>rd l k::jV (mtf l k) b
def DL (l:List Int):List Int->List Int
 |[]=>l
 |k::b=>DL (mtf l k) b
theorem ML (c:Int): ∀(b l:List Int),yC l (b++[c])=mtf (yC l b) (idx (yC l b) c)
 |[],l=>rfl
 |x::b,l=>by simp only[jd,yC,ML c b]
theorem MJ (k:Int): ∀(b l:List Int),DL l (b++[k])=mtf (DL l b) k
 |[],l=>rfl
 |x::b,l=>by simp only[jd,DL,MJ k b]
theorem iL: ∀(b l:List Int),(bB l b).length=b.length
 |[],_=>rfl
 |x::b,l=>by simp only[bB,dm,iL b]
theorem vD: ∀(b l:List Int),(jV l b).length=b.length
 |[],_=>rfl
 |x::b,l=>by simp only[jV,dm,vD b]
theorem yX (h0:0<=k) (h:k<l.length):(mtf l k).Perm l:=by
 have e:=fM (s:=l) h0 h;rw[show(k+1).toNat=k.toNat+1 by omega] at e;unfold mtf
 conv=>rhs;rw[<-gq k.toNat l,e]
 exact List.perm_middle.symm
theorem sG (h:c∈l):0<=idx l c/\idx l c<l.length:=by
 unfold idx;have:=List.findIdx_lt_length_of_exists (xs:=l) (p:=λx=>x==c) ⟨c,h,cD⟩;omega
theorem YY (h:c∈l):rd l (idx l c)=c:=by
 have hi:=sG h;have aw:l.findIdx (λx=>x==c)<l.length:=by unfold idx at hi;omega
 have:=Dq (xs:=l) (p:=λx=>x==c) (w:=aw);unfold idx;rw[gM aw];simpa using this
theorem MM: ∀(b l:List Int),(∀c∈b,c∈l)->(yC l b).Perm l
 |[],l,_=> .refl _
 |c::b,l,h=>by
  have hc:=sG (h c cD);have hp:=yX hc.1 hc.2;exact(MM b _ λx hx=>hp.symm.subset (h x (dw _ hx))).trans hp
theorem MK: ∀(b l:List Int),(∀k∈b,0<=k/\k<l.length)->(DL l b).Perm l
 |[],l,_=> .refl _
 |k::b,l,h=>by
  have hk:=h k cD;have hp:=yX hk.1 hk.2;exact(MK b _ λx hx=>by rw[hp.length_eq];exact h x (dw _ hx)).trans hp
theorem UH: ∀(b l:List Int),(∀c∈b,c∈l)-> ∀k∈bB l b,0<=k/\k<l.length
 |[],l,_=>λk hk=>by cases hk
 | c::b,l,h=>by
  have hc:=sG (h c cD);have hp:=yX hc.1 hc.2;intro k hk;rcases jf.1 hk with rfl|hk
  ·exact hc
  ·have:=UH b _ (λx hx=>hp.symm.subset (h x (dw _ hx))) k hk;rwa[hp.length_eq] at this
theorem LJ: ∀(b l:List Int),(∀c∈b,c∈l)->jV l (bB l b)=b
 |[],_,_=>rfl
 |c::b,l,h=>by
  have hc:=sG (h c cD);have hp:=yX hc.1 hc.2;simp only[bB,jV];rw[YY (h c cD),LJ b _ λx hx=>hp.symm.subset (h x (dw _ hx))]
def aS:List Int:=iota 256
theorem wU:aS.length=256:=bF _
theorem wT {b:List Int} (h:aO b): ∀c∈b,c∈aS:=λc hc=>by
 have:=h c hc;exact aW.2 G
theorem mW (h:aO b):aO (bB aS b):=λk hk=>by
 have:=UH b _ (wT h) k hk;rw[wU] at this;omega
theorem oP (h:aO b):jV aS (bB aS b)=b:=LJ b _ (wT h)
theorem MW: ∀(x y l:List Int),bB l (x++y)=bB l x++bB (yC l x) y
 |[],_,_=>rfl
 |c::x,y,l=>by simp only[jd,bB,yC,MW x y]
theorem LK: ∀(x y l:List Int),jV l (x++y)=jV l x++jV (DL l x) y
 |[],_,_=>rfl
 |c::x,y,l=>by simp only[jd,jV,DL,LK x y]
theorem aNb (h0:0<=i) (h:i<b.length):rd (bB l b) i=idx (yC l (b.take i.toNat)) (rd b i):=by
 have e:b=b.take i.toNat++(rd b i::b.drop (i+1).toNat):=by rw[<-fM h0 h,gq]
 have hl:((bB l (b.take i.toNat)).length:Int)=i:=by rw[iL,ax];omega
 conv=>lhs;rw[e,MW]
 rw[fZ G,hl,Hl];rfl
theorem aMy (h0:0<=i) (h:i<b.length):rd (jV l b) i=rd (DL l (b.take i.toNat)) (rd b i):=by
 have e:b=b.take i.toNat++(rd b i::b.drop (i+1).toNat):=by rw[<-fM h0 h,gq]
 have hl:((jV l (b.take i.toNat)).length:Int)=i:=by rw[vD,ax];omega
 conv=>lhs;rw[e,LK]
 rw[fZ G,hl,Hl];rfl
theorem aGq (h0:0<=i) (h:i<b.length):yC l (b.take (i+1).toNat)=mtf (yC l (b.take i.toNat)) (idx (yC l (b.take i.toNat)) (rd b i)):=by
 rw[dD h0 h,ML]
theorem aGp (h0:0<=i) (h:i<b.length):DL l (b.take (i+1).toNat)=mtf (DL l (b.take i.toNat)) (rd b i):=by
 rw[dD h0 h,MJ]
theorem bAf (h0:0<=k) (h:k<l.length):upd (l.take 1++(l.take k.toNat).take (min k.toNat (l.length-1))++l.drop (1+min k.toNat (l.length-1))) 0 (rd l k)=mtf l k:=by
 have e:min k.toNat (l.length-1)=k.toNat:=G
 rw[e,List.take_take,Nat.min_self,wh 1];unfold mtf upd;cases l with
 |nil=>simp at h;omega
 |cons x l=>simp
theorem aMd (hb:aO b) (k:Nat):(yC aS (b.take k)).Perm aS:=MM _ _ λc hc=>wT hb c (lu hc)
theorem aMc (hb:aO b) (k:Nat):(DL aS (b.take k)).Perm aS:=MK _ _ λc hc=>by
 have:=hb c (lu hc);rw[wU];omega
theorem MI {V:List Int} (h:V.Perm aS):V.length=256/\aO V/\ ∀c:Int,0<=c->c<256->c∈V/\0<=idx V c/\idx V c<256:=by
 have hl:V.length=256:=by rw[h.length_eq,wU]
 refine⟨hl,λx hx=>by have:=aW.1 (h.subset hx);omega,λc c0 c1=> ?_⟩;have hm:c∈V:=h.symm.subset (aW.2 ⟨c0,c1⟩);have:=sG hm;exact⟨hm,this.1,G⟩
def CP:Nat->Nat->List Int
 |0,_=>[]
 |f+1,n=>if n=0 then [] else(((n-1)%2:Nat):Int)::CP f ((n-1)/2)
def iD (n:Nat):List Int:=CP n n
theorem SB: ∀(f g n:Nat),n<=f->n<=g->CP f n=CP g n
 |0,0,n,_,_=>rfl
 |0,g+1,n,h,_=>by
  have:n=0:=G
  simp[CP,this]
 |f+1,0,n,_,h=>by
  have:n=0:=G
  simp[CP,this]
 |f+1,g+1,n,h1,h2=>by
  simp only[CP];by_cases z:n=0
  ·rw[cu z,cu z]
  ·rw[bu z,bu z,SB f g _ G G]
theorem LP:iD 0=[]:=rfl
theorem xU {n:Nat} (h:0<n):iD n=(((n-1)%2:Nat):Int)::iD ((n-1)/2):=by
 obtain⟨m,rfl⟩: ∃m,n=m+1:=⟨n-1,G⟩;unfold iD;rw[CP,bu G];congr 1;exact SB _ _ _ G (dh _)
theorem OV: ∀(m n:Nat),n<=m-> ∀x∈iD n,0<=x/\x<=1
 |0,n,h=>by
  have:n=0:=G
  subst this;intro x hx;cases hx
 | m+1,n,h=>by
  rcases dx n with z|z
  ·subst z;intro x hx;cases hx
  ·rw [xU z];intro x hx;rcases jf.1 hx with rfl|hx
   ·omega
   ·exact OV m _ G x hx
theorem xV: ∀(m n:Nat),n<=m->(iD n).length<=n
 |0,n,h=>by
  have:n=0:=G
  subst this;exact dh _
 | m+1,n,h=>by
  rcases dx n with z|z
  ·subst z;exact dh _
  ·rw [xU z,dm];have:=xV m ((n-1)/2) G;omega
def bD:Nat->List Int->List Int
 |n,[]=>iD n
 |n,c::b=>if c=0 then bD (n+1) b else iD n++((c+1)::bD 0 b)
theorem oQ: ∀(b:List Int) (n:Nat),(bD n b).length<=n+b.length
 |[],n=>by
  have:=xV n n (dh _);simp only[bD,jy];omega
 | c::b,n=>by
  simp only[bD];split
  ·have:=oQ b (n+1);simp only[dm];omega
  ·have:=oQ b 0;have:=xV n n (dh _);rw[ah,dm,dm];omega
theorem ED: ∀(b:List Int) (n:Nat),aO b-> ∀x∈bD n b,0<=x/\x<=256
 |[],n,_=>λx hx=>by have:=OV n n (dh _) x hx;omega
 | c::b,n,h=>by
  have hc:=h c cD;have hb:aO b:=λx hx=>h x (dw _ hx);intro x hx;simp only[bD] at hx;split at hx
  ·exact ED b _ hb x hx
  ·rcases fw.1 hx with hx|hx
   ·have:=OV n n (dh _) x hx;omega
   ·rcases jf.1 hx with rfl|hx
    ·omega
    ·exact ED b _ hb x hx
def bkL (cy:Int):List Int->List Int->Int->Option (List Int)
 |[],out,_=>some out
 |x::l,out,p=>if x<0\/257<=x then none else
  if 2<=x then(if cy<out.length+1 then none else bkL cy l (out++[x-1]) 1)
  else if cy<p\/cy-out.length<(x+1)*p then none else bkL cy l (out++List.replicate ((x+1)*p).toNat 0) (p*2)
theorem QK (cy:Int) (t:List Int): ∀(m n:Nat),n<=m-> ∀(out:List Int) (p:Nat),0<p->(out.length:Int)+n*p<=cy->
  ∃p':Nat,0<p'/\bkL cy (iD n++t) out p=bkL cy t (out++List.replicate (n*p) 0) p'
 |0,n,h=>by
  intro out p hp _;have:n=0:=G
  subst this;exact⟨p,hp,by simp[LP]⟩
 | m+1,n,h=>by
  intro out p hp hm;rcases dx n with z|z
  ·subst z;exact⟨p,hp,by simp[LP]⟩
  ·rw [xU z,jd];have hd:n=((n-1)%2+1)+2*((n-1)/2):=G
   generalize ha:(n-1)%2=a at hd;generalize hb:(n-1)/2=b at hd;have ha1:a<=1:=G
   have fa:n*p=(a+1)*p+b*(p*2):=by rw[hd,xm,zt 2 b,Nat.mul_assoc,zt 2 p]
   have hnp2:(n:Int)*p=((n*p:Nat):Int):=cD
   have h1:(((a:Nat):Int)+1)*p=(((a+1)*p:Nat):Int):=cD
   have ue:p<=(a+1)*p:=Co _ G
   obtain⟨p',bw,e⟩:=QK cy t m b G (out++List.replicate ((a+1)*p) 0) (p*2) G (by
    rw[ah,bq];have:(b:Int)*((p*2:Nat):Int)=((b*(p*2):Nat):Int):=cD
    rw[this]
    omega)
   refine⟨p',bw,?_⟩;rw[bkL,bu G,bu G,bu (by rw[h1];omega),h1,az];have e2:((p:Nat):Int)*2=((p*2:Nat):Int):=cD
   rw[e2,e,ig,Cw,<-fa]
theorem QL (cy:Int): ∀(b:List Int) (n:Nat) (out:List Int),aO b->(out.length:Int)+n+b.length<=cy->bkL cy (bD n b) out 1=some (out++List.replicate n 0++b)
 |[],n,out,_,h=>by
  obtain⟨p',bw,e⟩:=QK cy [] n n (dh _) out 1 G (by simp only[jy] at h;omega);rw[jo,qy] at e;simp only[bD];have e1:((1:Nat):Int)=1:=rfl;rw[e1] at e;rw[e];simp[bkL]
 | c::b,n,out,hb,h=>by
  have hc:=hb c cD;have Hn:aO b:=λx hx=>hb x (dw _ hx);simp only[dm] at h;simp only[bD];split
  ·rename_i z;rw[QL cy b (n+1) out Hn G,z,List.replicate_succ'];simp
  ·rename_i z;obtain⟨p',bw,e⟩:=QK cy ((c+1)::bD 0 b) n n (dh _) out 1 G G;have e1:((1:Nat):Int)=1:=rfl;rw[qy,e1] at e;rw[e,bkL,bu G,cu G,bu (by rw[ah,bq];omega),QL cy b 0 _ Hn (by rw[ah,ah,bq,ic];omega)];rw[show c+1-1=c by omega];simp
theorem bBh {cy:Int} (hb:aO b) (h:b.length<=cy):bkL cy (bD 0 b) [] 1=some b:=by
 have:=QL cy b 0 [] hb (by simpa using h);simpa using this
variable {l V b C U:List Int} {i v x x0 s t:Int}
def beL:Nat->Int->List Int
 |0,_=>[]
 |k+1,N=>beL k (N/256)++[N%256]
theorem kP: ∀(k:Nat) (N:Int),(beL k N).length=k
 |0,_=>rfl
 |k+1,N=>by rw[beL,ah,kP k,ic]
theorem BX: ∀(k:Nat) (N:Int),aO (beL k N)
 |0,_=>λx h=>by cases h
 |k+1,N=>λx h=>by
  rw[beL] at h;rcases fw.1 h with h|h
  ·exact BX k _ x h
  ·rw[jc.1 h];omega
def aSc:List Int->Int->List Int
 |[],_=>[]
 |d::l,x=>(x+d)%256::aSc l ((x+d)/256)
def DW (l:List Int) (x:Int):List Int:=(aSc l.reverse x).reverse
theorem OD (l:List Int) (d x:Int):DW (l++[d]) x=DW l ((x+d)/256)++[(x+d)%256]:=by
 unfold DW;rw[List.reverse_append,List.reverse_singleton,nz,aSc,List.reverse_cons]
theorem OE: ∀l:List Int,aO l->aSc l 0=l
 |[],_=>rfl
 |d::l,h=>by
  have hd:=h d cD;rw[aSc,Int.zero_add,sj hd.1 hd.2,Int.ediv_eq_zero_of_lt hd.1 hd.2,OE l λx hx=>h x (dw _ hx)]
theorem aKi (h:aO l):DW l 0=l:=by
 unfold DW;rw[OE _ λx hx=>h x (Ba.1 hx),List.reverse_reverse]
theorem QP: ∀(k:Nat) (N x:Int),DW (beL k N) x=beL k (N+x)
 |0,_,_=>rfl
 |k+1,N,x=>by
  rw[beL,OD,QP k,beL,show N/256+(x+N%256)/256=(N+x)/256 by omega,show(x+N%256)%256=(N+x)%256 by omega]
theorem aFt (i0:0<=i) (hi:i<V.length):upd V i v=V.take i.toNat++v::V.drop (i+1).toNat:=by
 unfold upd;rw[Ch,cu G,show(i+1).toNat=i.toNat+1 by omega]
def aCd (b:List Int) (x0:Int) (V:List Int) (i x:Int):Prop:=V.length=b.length/\aO V/\DW (V.take (i+1).toNat) x++V.drop (i+1).toNat=DW b x0
theorem aKj (hb:aO b) (hi:i=b.length-1):aCd b x b i x:=by
 refine⟨rfl,hb,?_⟩;rw[bn G,xx G,jo]
theorem aCd.step {d y:Int} (h:aCd b x0 V i x) (i0:0<=i) (hi:i<b.length) (hd:d=(x+rd V i)%256) (hy:y=(x+rd V i)/256):aCd b x0 (upd V i d) (i-1) y:=by
 obtain⟨hl,hV,ha⟩:=h;have hs:=aFt (V:=V) (v:=d) i0 G
 have h1:(upd V i d).take i.toNat=V.take i.toNat:=by
  unfold upd;rw[List.take_set_of_le (dh _)]
 have h2:(upd V i d).drop i.toNat=d::V.drop (i+1).toNat:=by
  rw[hs,List.drop_append_of_le_length (by rw[ax];omega),xx (by rw[ax];omega),jb]
 refine⟨by rw[aV];exact hl,λc hc=> ?_,?_⟩
 ·rw [hs] at hc;rcases fw.1 hc with hc|hc
  ·exact hV c (lu hc)
  ·rcases jf.1 hc with rfl|hc
   ·omega
   ·exact hV c (pg hc)
 ·rw [Int.sub_add_cancel,h1,h2,<-ha,dD i0 G,OD,hd,hy,ig];rfl
theorem aCd.stop (h:aCd b x0 V i x) (hx:x=0\/i<0):V=DW b x0:=by
 obtain⟨hl,hV,ha⟩:=h;rw[<-ha];rcases hx with rfl|hx
 ·rw[aKi (λc hc=>hV c (lu hc)),gq]
 ·rw [show(i+1).toNat=0 by omega];rfl
theorem aWo: ∀(k:Nat) (N:Int),beL (k+4) N=beL k (N/4294967296)++[N%4294967296/16777216,N%16777216/65536,N%65536/256,N%256]:=λk N=>by
 rw[beL,beL,beL,beL,ig,ig,ig];rw[show N/256/256/256/256=N/4294967296 by omega,show N/256/256/256%256=N%4294967296/16777216 by omega,show N/256/256%256=N%16777216/65536 by omega,show N/256%256=N%65536/256 by omega];rfl
theorem PE {k:Int} (h0:0<=i) (h:i<k):rd (l.take k.toNat) i=rd l i:=by
 unfold rd;rw[af,af,ng G]
def aU (l:List Int):Int:=l.sum
theorem qP (x:Int) (l:List Int):aU (x::l)=x+aU l:=xg
theorem CQ (x y:List Int):aU (x++y)=aU x+aU y:=Bq
theorem aGa (l:List Int) (x:Int):aU (l++[x])=aU l+x:=by rw[CQ];simp[aU]
theorem qN (h0:0<=i) (h:i<l.length):aU (l.take (i+1).toNat)=aU (l.take i.toNat)+rd l i:=by rw[dD h0 h,aGa]
theorem aSx {l:List Int} (h: ∀c∈l,1<=c):(l.length:Int)<=aU l:=by
 induction l with
 |nil=>simp[aU]
 |cons x l ih=>
  have:=ih λc hc=>h c (dw _ hc);have:=h x cD;rw[qP,dm];omega
theorem tN {l:List Int} (h: ∀c∈l,1<=c):0<=aU l:=by have:=aSx h;omega
theorem wR (h0:0<=i) (h:i<l.length):aU l=aU (l.take i.toNat)+rd l i+aU (l.drop (i+1).toNat):=by
 conv=>lhs;rw[<-gq i.toNat l,fM h0 h]
 rw[CQ,qP];omega
theorem aLo {l:List Int} (h: ∀c∈l,1<=c) (k:Nat): ∀c∈l.take k,1<=c:=λc hc=>h c (lu hc)
theorem aQq {l:List Int} (h: ∀c∈l,1<=c) (k:Nat): ∀c∈l.drop k,1<=c:=λc hc=>h c (pg hc)
theorem qO {l:List Int} (hp: ∀c∈l,1<=c) (h0:0<=i) (h:i<l.length):0<=aU (l.take i.toNat)/\1<=rd l i/\aU (l.take i.toNat)+rd l i<=aU l:=by
 have h1:=wR h0 h;have h2:=tN (aQq hp (i+1).toNat);have h3:=tN (aLo hp i.toNat);have h4:=hp _ (bH h0 h);omega
theorem SG (h0:0<=i) (h:i<l.length):aU (upd l i v)=aU l-rd l i+v:=by
 have e1:=wR (l:=upd l i v) h0 (by rw[aV];exact h);have e2:=wR h0 h;rw[eD h0 h] at e1
 have e3:(upd l i v).take i.toNat=l.take i.toNat:=by
  unfold upd;rw[List.take_set_of_le (dh _)]
 have e4:(upd l i v).drop (i+1).toNat=l.drop (i+1).toNat:=by
  unfold upd;rw[List.drop_set_of_lt G]
 rw[e3,e4] at e1;omega
theorem LY {l:List Int} (h: ∀c∈l,1<=c):2*aU (l.map λn=>(n+1)/2)<=aU l+l.length:=by
 induction l with
 |nil=>simp[aU]
 |cons x l ih=>
  have:=ih λc hc=>h c (dw _ hc);rw[kv,qP,qP,dm];omega
def lJ (C:List Int):Prop:=C.length=258/\(∀c∈C,1<=c)/\aU C<=65504
def wY:List Int:=List.replicate 258 1
theorem FK (n:Nat) (x:Int):aU (List.replicate n x)=n*x:=by
 induction n with
 |zero=>simp[aU]
 |succ n ih=>rw[List.replicate_succ,qP,ih];rw[Int.natCast_succ,Iq];omega
theorem PP:lJ wY:=⟨bq,λc hc=>by rw[List.eq_of_mem_replicate hc];omega,by unfold wY;rw[FK];omega⟩
def nS (C:List Int):List Int:=C.map λn=>(n+1)/2
def lK (C:List Int) (s:Int):List Int:=if 65504<aU (upd C s (rd C s+32)) then nS (upd C s (rd C s+32)) else upd C s (rd C s+32)
theorem aCq {C:List Int} {s v:Int} (h: ∀c∈C,1<=c) (hv:1<=v): ∀c∈upd C s v,1<=c:=λc hc=>by
 unfold upd at hc;rcases List.mem_or_eq_of_mem_set hc with h1|h1
 ·exact h c h1
 ·omega
theorem aTg (h:lJ C) (h0:0<=s) (hs:s<258):lJ (lK C s):=by
 obtain⟨hl,hp,ht⟩:=h;have h1:=hp _ (bH (L:=C) (k:=s) h0 G);have hu:=SG (l:=C) (i:=s) (v:=rd C s+32) h0 G;have hq:=aCq (C:=C) (s:=s) (v:=rd C s+32) hp G;unfold lK;split
 ·refine ⟨by unfold nS;rw[bi,aV];exact hl,λc hc=> ?_,?_⟩
  ·obtain ⟨x,hx,rfl⟩:=il.1 hc;have:=hq x hx;omega
  ·have:=LY hq;rw[aV,hl] at this;unfold nS;omega
 ·exact⟨by rw[aV];exact hl,hq,G⟩
theorem aNc (h0:0<=i) (h:i<C.length):rd (nS C) i=(rd C i+1)/2:=by
 unfold nS;rw[eQ h0 (by rw[bi];exact h),eQ h0 h,Ay]
theorem BA {n:Nat} (h0:0<=i) (h:i<n):rd (List.replicate n x) i=x:=by
 rw[eQ h0 (by rw[bq];exact h),List.getElem_replicate]
theorem bAg (hl:V.length=258) (h: ∀j:Int,0<=j->j<258->rd V j=1):V=wY:=
 bI (by rw[hl];exact bq.symm) λj j0 j1=>by
  unfold wY;rw[h j j0 G,BA j0 G]
def OI (C:List Int):Prop:=C.length=258/\(∀c∈C,1<=c)/\aU C<=65536
theorem lJ.le (h:lJ C):OI C:=⟨h.1,h.2.1,by have:=h.2.2;omega⟩
theorem OI.part (h:OI C) (h0:0<=i) (hi:i<258):(0<=aU (C.take i.toNat)/\aU (C.take i.toNat)<=65536)/\(1<=rd C i/\rd C i<=65536)/\aU (C.take i.toNat)+rd C i<=65536:=by
 have:=qO (i:=i) h.2.1 h0 (by rw[h.1];omega);have:=h.2.2;omega
theorem lJ.up (h:lJ C) (h0:0<=s) (hs:s<258):OI (upd C s (rd C s+32))/\aU (upd C s (rd C s+32))=aU C+32:=by
 have hp:=h.le.part h0 hs;have hu:=SG (l:=C) (i:=s) (v:=rd C s+32) h0 (by rw[h.1];omega);have:=h.2.2;exact⟨⟨by rw[aV];exact h.1,aCq h.2.1 G,G⟩,G⟩
theorem OI.half (h:OI C):lJ (nS C):=by
 have:=LY h.2.1;rw[h.1] at this;have hl:=h.2.2;refine⟨by unfold nS;rw[bi];exact h.1,λc hc=> ?_,by unfold nS;omega⟩;obtain⟨x,hx,rfl⟩:=il.1 hc;have:=h.2.1 x hx;omega
structure KD (U V:List Int) (i:Int) (t:Int):Prop where
 len:V.length=258
 done: ∀j:Int,0<=j->j<i->rd V j=rd (nS U) j
 left: ∀j:Int,i<=j->j<258->rd V j=rd U j
 sum:t=aU ((nS U).take i.toNat)
theorem aAd (h:U.length=258):KD U U 0 0:=⟨h,λj h1 h2=>G,λj _ _=>rfl,rfl⟩
theorem KD.step (h:KD U V i t) (hU:U.length=258) (h0:0<=i) (hi:i<258):KD U (upd V i ((rd V i+1)/2)) (i+1) (t+rd (upd V i ((rd V i+1)/2)) i):=by
 have hl:=h.len;have e:(rd V i+1)/2=rd (nS U) i:=by rw[h.left i G hi,aNc h0 G]
 refine⟨by rw[aV];exact hl,λj j0 j1=> ?_,λj j0 j1=> ?_,?_⟩
 ·rw [fI h0 j0 G];by_cases c:j=i
  ·rw[cu c,e,c]
  ·rw[bu c];exact h.done j j0 G
 ·rw[fI h0 G G,bu G];exact h.left j G j1
 ·rw[qN h0 (by unfold nS;rw[bi];omega),<-h.sum,eD h0 G,e]
theorem KD.done_all (h:KD U V 258 t) (hU:U.length=258):V=nS U/\t=aU (nS U):=by
 have hh:(nS U).length=258:=by unfold nS;rw[bi];exact hU
 refine⟨bI (by rw[h.len,hh]) λj j0 j1=>h.done j j0 (by have:=h.len;omega),?_⟩;rw[h.sum,bn (by rw[hh];decide)]
def shN (R:Int):Nat:=if 16777216<=R then 0 else if 65536<=R then 1 else if 256<=R then 2 else 3
theorem FP (R:Int):shN R<=3:=by unfold shN;split<;>(try split)<;>(try split)<;>omega
theorem FO {R:Int} {j:Nat} (h1:1<=R) (hj:j<=shN R) (h:R*256^j<16777216):j+1<=shN R:=by
 have:=FP R;rcases(by omega:j=0\/j=1\/j=2\/j=3) with rfl|rfl|rfl|rfl<;>unfold shN at* <;>(split<;>(try split)<;>(try split)<;>omega)
variable {R low size total o x:Int} {j:Nat} {b:List Int}
theorem OY (h1:1<=R) (hj:j<=shN R) (h:16777216<=R*256^j):j=shN R:=by
 have:=FP R;rcases(by omega:j=0\/j=1\/j=2\/j=3) with rfl|rfl|rfl|rfl<;>unfold shN at* <;>(split at hj<;>(try split at hj)<;>(try split at hj)<;>split<;>(try split)<;>(try split)<;>omega)
theorem GQ (h:1<=R):1<=R*256^j:=by
 have h1:(0:Int)<256^j:=Dp G;have:=Int.mul_pos (show 0<R by omega) h1;omega
theorem aGj (h:256<=R):shN R<=2:=by unfold shN;split<;>(try split)<;>(try split)<;>omega
theorem aGi (h:256<=R) (hl:R<4294967296):16777216<=R*256^shN R/\R*256^shN R<4294967296:=by
 unfold shN;split
 ·omega
 ·split
  ·omega
  ·omega
structure CdS where
 N:Int
 R:Int
 k:Nat
def cd0:CdS:=⟨0,4294967295,0⟩
def gN (s:CdS) (low size total:Int):CdS:=⟨(s.N+s.R/total*low)*256^shN (s.R/total*size),s.R/total*size*256^shN (s.R/total*size),s.k+shN (s.R/total*size)⟩
def XP (s:CdS):Prop:=16777216<=s.R/\s.R<4294967296/\0<=s.N/\s.N+s.R<=256^(s.k+4)
theorem bBe:XP cd0:=by unfold XP cd0;dsimp only;omega
def uV (low size total:Int):Prop:=0<=low/\1<=size/\low+size<=total/\total<=65536
theorem oU (h:uV low size total) (hR:16777216<=R/\R<4294967296):
  256<=R/total/\R/total<=R/\0<=R/total*low/\R/total<=R/total*size/\R/total*low+R/total*size<=R:=by
 obtain⟨h0,h1,h2,h3⟩:=h;have hq:256<=R/total:=(zo G).2 G;have hm:R/total*total<=R:=Int.ediv_mul_le R G;have a1:0<=R/total*low:=zh G h0;have a2:R/total*1<=R/total*size:=Dn h1 G;have a3:R/total*(low+size)<=R/total*total:=Dn h2 G;rw[Ir] at a3;refine⟨hq,?_,a1,G,G⟩;exact Gx _ G
theorem aUb {s:CdS} (h:XP s) (hs:uV low size total):XP (gN s low size total)/\(gN s low size total).k<=s.k+2:=by
 obtain⟨r0,r1,n0,nr⟩:=h;obtain⟨f1,f2,f3,f4,f5⟩:=oU hs ⟨r0,r1⟩;have hw:=aGi (R:=s.R/total*size) G G;have hj:=aGj (R:=s.R/total*size) G;unfold gN;generalize hq:s.R/total*size=R1 at*;generalize hl:s.R/total*low=x at*;generalize shN R1=j at*;refine⟨⟨hw.1,hw.2,zh G (uq G),?_⟩,by dsimp only;omega⟩;show(s.N+x)*256^j+R1*256^j<=256^(s.k+j+4);rw[<-Iq,show s.k+j+4=s.k+4+j by omega,yw];exact mg G (uq G)
theorem XB (m:Nat) (M:Int):beL (m+1) (M*256/4294967296)=beL m (M/4294967296)++[M%4294967296/16777216%256]:=by
 rw[beL,show M*256/4294967296/256=M/4294967296 by omega,show M*256/4294967296%256=M%4294967296/16777216%256 by omega]
theorem aWp (m:Nat) (M x:Int) (hx:x=M%4294967296):beL m (M/4294967296)++[x/16777216%256]++[x/65536%256]++[x/256%256]++[x/1%256]=beL (m+4) M:=by
 rw[aWo,show x/16777216%256=M%4294967296/16777216 by omega,show x/65536%256=M%16777216/65536 by omega,show x/256%256=M%65536/256 by omega,show x/1%256=M%256 by omega];simp
structure PpS where
 c0:List Int
 c1:List Int
 c2:List Int
 cls:Int
 cd:CdS
def pp0:PpS:=⟨wY,wY,wY,0,cd0⟩
def lF (s:Int):Int:=if s<2 then 0 else if s<6 then 1 else 2
theorem aRe (s:Int):0<=lF s/\lF s<=2:=by unfold lF;split<;>(try split)<;>omega
def tT (o:Int) (s:PpS):List Int:=if s.cls*o=0 then s.c0 else if s.cls*o=1 then s.c1 else s.c2
def aGk (o:Int) (s:PpS) (C:List Int) (cls:Int) (cd:CdS):PpS:=if s.cls*o=0 then⟨C,s.c1,s.c2,cls,cd⟩ else if s.cls*o=1 then⟨s.c0,C,s.c2,cls,cd⟩ else⟨s.c0,s.c1,C,cls,cd⟩
def sO (c:CdS) (C:List Int) (x:Int):CdS:=gN c (aU (C.take x.toNat)) (rd C x) (aU C)
def jX (o:Int) (s:PpS) (x:Int):PpS:=aGk o s (lK (tT o s) x) (lF x) (sO s.cd (tT o s) x)
def encP (o:Int) (l:List Int):PpS:=l.foldl (jX o) pp0
theorem aIu (o:Int) (l:List Int) (x:Int):encP o (l++[x])=jX o (encP o l) x:=by unfold encP;rw[Fu];rfl
def bL (b:List Int):List Int:=bD 0 (bB aS b)++[257]
def dJ (b:List Int) (o:Int):List Int:=beL ((encP o (bL b)).cd.k+4) (encP o (bL b)).cd.N
def LC (s:PpS):Prop:=(lJ s.c0/\lJ s.c1/\lJ s.c2)/\(0<=s.cls/\s.cls<=2)/\XP s.cd
theorem aZr:LC pp0:=⟨⟨PP,PP,PP⟩,by unfold pp0;dsimp only;omega,bBe⟩
theorem EI {s:PpS} (h:LC s):lJ (tT o s):=by
 unfold tT;split
 ·exact h.1.1
 ·split
  ·exact h.1.2.1
  ·exact h.1.2.2
theorem lT {C:List Int} (h:lJ C) (h0:0<=x) (hx:x<258):uV (aU (C.take x.toNat)) (rd C x) (aU C):=by
 obtain⟨hl,hp,ht⟩:=h;have:=qO (i:=x) hp h0 G;exact⟨G,G,G,G⟩
theorem FM {s:PpS} (h:LC s) (h0:0<=x) (hx:x<258):LC (jX o s x)/\(jX o s x).cd.k<=s.cd.k+2:=by
 have hm:=aTg (EI (o:=o) h) h0 hx;have hc:=aUb h.2.2 (lT (EI (o:=o) h) h0 hx);have hb:=aRe x;unfold jX aGk;split
 ·exact⟨⟨⟨hm,h.1.2.1,h.1.2.2⟩,hb,hc.1⟩,hc.2⟩
 ·split
  ·exact⟨⟨⟨h.1.1,hm,h.1.2.2⟩,hb,hc.1⟩,hc.2⟩
  ·exact⟨⟨⟨h.1.1,h.1.2.1,hm⟩,hb,hc.1⟩,hc.2⟩
def aCb (l:List Int):Prop:= ∀x∈l,0<=x/\x<258
theorem qM (h:aO b):aCb (bL b):=λx hx=>by
 unfold bL at hx;rcases fw.1 hx with hx|hx
 ·have:=ED (bB aS b) 0 (mW h) x hx;omega
 ·rw[jc.1 hx];omega
theorem LW (b:List Int):(bL b).length<=b.length+1:=by
 unfold bL;have:=oQ (bB aS b) 0;rw[iL] at this;rw[ah,ic];omega
theorem aEi {o:Int}: ∀(l:List Int) (s:PpS),aCb l->LC s->LC (l.foldl (jX o) s)/\(l.foldl (jX o) s).cd.k<=s.cd.k+2*l.length
 |[],s,_,h=>⟨h,dh _⟩
 |x::l,s,hl,h=>by
  have hx:=hl x cD;have h1:=FM (o:=o) h hx.1 hx.2;have h2:=aEi (o:=o) l (jX o s x) (λy hy=>hl y (dw _ hy)) h1.1;rw[List.foldl_cons,dm];exact⟨h2.1,G⟩
theorem zK {l:List Int} (h:aCb l):LC (encP o l)/\(encP o l).cd.k<=2*l.length:=by
 have:=aEi (o:=o) l pp0 h aZr;unfold encP;have e:pp0.cd.k=0:=rfl;rw[e] at this;exact⟨this.1,G⟩
theorem oF (h:aO b):(dJ b o).length<=2*b.length+6:=by
 unfold dJ;rw[kP];have:=(zK (o:=o) (qM h)).2;have:=LW b;omega
theorem gB (b:List Int) (o:Int):aO (dJ b o):=BX _ _
variable {v:Int}
def GL:Nat->Int->List Int
 |0,v=>[v]
 |f+1,v=>if v<128 then [v] else(v%128+128)::GL f (v/128)
def bQ (v:Int):List Int:=GL v.toNat v
theorem EL: ∀(f g:Nat) (v:Int),v.toNat<=f->v.toNat<=g->GL f v=GL g v
 |0,0,v,_,_=>rfl
 |0,g+1,v,h,_=>by rw[GL,GL,cu G]
 |f+1,0,v,_,h=>by rw[GL,GL,cu G]
 |f+1,g+1,v,h1,h2=>by
  simp only[GL];by_cases z:v<128
  ·rw[cu z,cu z]
  ·rw[bu z,bu z,EL f g _ G G]
theorem jI (h:v<128):bQ v=[v]:=by
 rw[bQ,EL v.toNat (v.toNat+1) v G G,GL,cu h]
theorem qU (h:128<=v):bQ v=(v%128+128)::bQ (v/128):=by
 rw[bQ,EL v.toNat (v.toNat+1) v G G,GL,bu G,bQ,EL v.toNat (v/128).toNat _ G G]
theorem aGz {v0:Int} {acc:List Int} (h:bQ v0=acc++bQ v) (hv:128<=v) {d q:Int} (hd:d=v%128+128) (hq:q=v/128):bQ v0=(acc++[d])++bQ q:=by
 rw[h,qU hv,<-hd,<-hq,ig];rfl
theorem eF: ∀(k:Nat) (v:Int),v<128^(k+1)->(bQ v).length<=k+1
 |0,v,h=>by rw[jI G];exact dh _
 | k+1,v,h=>by
  by_cases z:v<128
  ·rw[jI z];simp
  ·rw [qU G,dm]
   have:v/128<128^(k+1):=by
    rw[xe] at h;exact yh G h
   have:=eF k (v/128) this;omega
theorem GK: ∀(k:Nat) (v:Int),v.toNat<=k->0<=v->aO (bQ v)
 |0,v,h,h0=>by
  rw[jI G];intro x hx;rw[jc.1 hx];omega
 | k+1,v,h,h0=>by
  by_cases z:v<128
  ·rw [jI z];intro x hx;rw[jc.1 hx];omega
  ·rw [qU G];intro x hx;rcases jf.1 hx with rfl|hx
   ·omega
   ·exact GK k (v/128) G G x hx
theorem eY (h:0<=v):aO (bQ v):=GK _ v (dh _) h
def iE (v:Int):List Int:=[v/1%256,v/256%256,v/65536%256,v/16777216%256]
theorem iR (v:Int):aO (iE v):=λx hx=>by
 simp only[iE,jf,yf,or_false] at hx;omega
end Go.Pure
namespace Go.Eng
open Go Go.RowKit Go.Pure
section
variable {P:Program} {n:Nd} {B:Nat} {w0:World} {L:Env} {R:List Row} {ty:TypeId}
theorem QS {f:FuncId} {i6:List Operand} {ts:Array TypeId} {vs:List Value} {Post:Value->List Row->Prop} (ha:evs L i6=some vs)
  (hx: ∀w,Hp B w0 w R-> ∃v w' R',(callFunc f vs.toArray).run P w= .ok (.value v) w'/\Hp B w0 w' R'/\Post v R'):
  Ac P n B w0 (.call {callee:= .value (.func f),args:=i6.toArray,argTypes:=ts}) ty L R Post:=by
 intro a w o K Q ho _ hs hp hk;have e1:=hs.evs ha;obtain⟨v,w',R',hr,bw,hv⟩:=hx w hp;have hf:a.eval (.func f)= .func (.func f) #[] #[]:=hs.ev rfl;unfold Oper.wp;simp only[execOp,ho,resolve,hf,Deferred.ofValue,invoke,jm,lv,jk,rf,e1,ry,jb,jo,hr,Oper.upon];exact hk v w' R' bw hv
theorem WW (u:List Int):(Lib.bytesOf u).length=u.length:=by simp[Lib.bytesOf]
theorem NV: ∀ {u t:List Int},aO u->aO t->Lib.compareBytes (Lib.bytesOf u) (Lib.bytesOf t)=cmpL u t
 |[],[],_,_=>rfl
 |[],_::_,_,_=>rfl
 |_::_,[],_,_=>rfl
 | x::u,y::t,hu,ht=>by
  have ih:=NV (u:=u) (t:=t) (λz hz=>hu z (dw _ hz)) λz hz=>ht z (dw _ hz);have hx:=hu x cD;have hy:=ht y cD
  have e: ∀z:Int,0<=z/\z<256->((z.toNat.toUInt8).toNat:Int)=z:=λz hz=>by
   rw[Nat.toUInt8,Bn (by simp[UInt8.size];omega)];omega
  have aw: ∀ {a b:Int},0<=a/\a<256->0<=b/\b<256->(a.toNat.toUInt8<b.toNat.toUInt8↔a<b):=λ{a b} ha hb=>by
   rw[UInt8.lt_iff_toNat_lt];have h1:=e a ha;have h2:=e b hb;omega
  show(if x.toNat.toUInt8<y.toNat.toUInt8 then -1 else if y.toNat.toUInt8<x.toNat.toUInt8 then 1 else Lib.compareBytes (Lib.bytesOf u) (Lib.bytesOf t))=cmpL (x::u) (y::t);rw[cmpL,ih];by_cases c:x<y
  ·rw[cu c,cu ((aw hx hy).2 c)]
  ·rw [bu c,bu (λh=>c ((aw hx hy).1 h))];by_cases d:y<x
   ·rw[cu d,cu ((aw hy hx).2 d)]
   ·rw[bu d,bu (λh=>d ((aw hy hx).1 h))]
theorem tV {w:World} {A:Option Addr} {m c:Nat} {u:List Int} (h:Rd w A m c 1 (ints .u8 u)):(Extern.Bytes.bytesOf (.slice A m c)).run P w= .ok ⟨(Lib.bytesOf u).toArray⟩ w:=by
 have hl:=h.lenI;rcases A with _|a
 ·have h0:u=[]:=by
   cases u with
   |nil=>rfl
   |cons y l'=>obtain⟨_,g,_⟩:=h.at_ 0 (.int .u8 y) (by simp[ints]);cases g
  subst h0;rfl
 ·have:=Lib.run_loadBytesX (P:=P) w u a .empty λj x hj=>by
   obtain⟨b,e,hc⟩:=h.at_ j (.int .u8 x) (by simp[ints,hj]);obtain rfl:=iw e;exact hc
  rw[<-hl] at this;show(Extern.Bytes.loadBytes a m .empty).run P w=_;rw[this];simp
theorem aTl {w:World} {A A2:Option Addr} {m c m2 c2:Nat} {u t:List Int} (h:Rd w A m c 1 (ints .u8 u)) (h2:Rd w A2 m2 c2 1 (ints .u8 t)) (hu:aO u) (ht:aO t):
  (Extern.BytealgCompare.compare #[.slice A m c, .slice A2 m2 c2]).run P w= .ok (.int .i64 (cmpL u t)) w:=by
 change Sem.run P (do pure (goInt (Extern.BytealgCompare.cmp (<-Extern.Bytes.bytesOf (.slice A m c)) (<-Extern.Bytes.bytesOf (.slice A2 m2 c2))))) w=_;simp only[jm,tV h,tV h2,jk,lv];rw[Lib.cmp_eq,NV hu ht];rfl
theorem bFt {f:FuncId} {fn:Func} {x y:Operand} {ts:Array TypeId} {A A2:Option Addr} {m c m2 c2:Nat} {u t:List Int} (hf:P.funcs[f]? =some fn) (vn:(fn.name== "runtime.NumGoroutine")=false) (hb:fn.body.isNone=true) (hn:Extern.findNext fn=none) (he:Extern.find fn=some Extern.BytealgCompare.compare)
  (hx:ev L x=some (.slice A m c)) (hy:ev L y=some (.slice A2 m2 c2)) (h:RdC B w0 R A m c 1 (ints .u8 u)) (h2:RdC B w0 R A2 m2 c2 1 (ints .u8 t)) (hu:aO u) (ht:aO t):
  Ac P n B w0 (.call {callee:= .value (.func f),args:=[x,y].toArray,argTypes:=ts}) ty L R (λv R'=>v= .int .i64 (cmpL u t)/\R'=R):=
 QS (vs:=[.slice A m c, .slice A2 m2 c2]) (by simp[evs,hx,hy]) λw hw=>⟨_,w,R,by
  rw[Ei hf vn hb hn he];rw[show [Value.slice A m c,Value.slice A2 m2 c2].toArray= #[.slice A m c, .slice A2 m2 c2] from rfl,aTl (h w hw) (h2 w hw) hu ht]
  rfl,hw,rfl,rfl⟩
theorem aXe {x:Operand} {t e:TypeId} {A:Option Addr} {m c:Nat} (ht:P.underlying t=some (.slice e)) (hx:ev L x=some (.slice A m c)):Yl P n B w0 (.call {callee:= .builtin .cap,args:= #[x],argTypes:= #[t]}) ty L R (.int .i64 (c:Int)):=by
 intro a w o ho _ hs _;simp[execOp,ho,resolve,invoke,builtin,Builtin.cap_,lq ht,hs.ev hx,goInt]
theorem QX {x z:Operand} {t e:TypeId} {A:Option Addr} {m c sz:Nat} {k2:IntKind} (ht:P.underlying t=some (.slice e)) (hi:(P.info? e).map (·.size)=some sz) (hx:ev L x=some (.slice A m c)) (hz:ev L z=some (.int k2 0)):
  Yl P n B w0 (.slice t x none (some z) none) ty L R (.slice A 0 c):=by
 intro a w o ho _ hs hp;obtain⟨i0,ar,hsz0⟩:=ib.1 hi;have pn:P.elem t=e:=by simp[Program.elem,ht]
 have ob:P.underlying t=some (.slice (P.elem t)):=by rw[pn];exact ht
 simp only[execOp,ho,jr,zz,hs.ev hx,hs.ev hz,jm,za w t _ _ _ _ ob,run_slice_h w t A m c ob k2 0 (ky 0) G,pn]
 have:(if c=0 then A else Option.map (λx=>x.add 0) A)=A:=by
  split
  ·rfl
  ·exact yM A
 simp[sizeOf,typeInfo,ar,hsz0,sliced,this]
theorem Row.lies_cut {w:World} {e sz m c:Nat} {A:Option Addr} {xs:List Value} (h:Row.lies B w ⟨e,sz,A,m,c,xs,false⟩) {k:Nat} (hk:k<=m) (hA:A≠none):Row.lies B w ⟨e,sz,A,k,c,xs.take (k*sz),false⟩:=by
 have h1:=Row.lies_w h rfl;have mj:k*sz<=m*sz:=ug _ hk;unfold Row.lies;simp only;obtain⟨hl,h2⟩:=h1;simp only at hl h2;refine⟨by rw[ax];omega,?_⟩;rcases h2 with⟨hv,_⟩|⟨g,cap,cur,hv,hb,hg,hnc,pj,hcs,ht⟩
 ·simp only[jq] at hv;exact absurd hv.1 hA
 ·simp only[jq] at hv;obtain⟨rfl,_,rfl⟩:=hv;refine .inr ⟨g,c,cur,rfl,hb,hg,G,pj,hcs,?_⟩;rw[<-ht,List.take_take];congr 1;omega
theorem Hp.cut {w:World} {e sz m c:Nat} {A:Option Addr} {xs:List Value} (h:Hp B w0 w (⟨e,sz,A,m,c,xs,false⟩::R)) {k:Nat} (hk:k<=m) (hA:A≠none):Hp B w0 w (⟨e,sz,A,k,c,xs.take (k*sz),false⟩::R):=
 ⟨h.below,h.base,λr hr=>by
  rcases jf.1 hr with rfl|hr
  ·exact Row.lies_cut (h.own _ (.head _)) hk hA
  ·exact h.own r (.tail _ hr),by
  obtain⟨h1,h2⟩:=iv.1 h.apart
  exact iv.2 ⟨λr hr=>h1 r hr,h2⟩,h.late⟩
theorem Hp.newC {w:World} (h:Hp B w0 w R) (cs:Array Value) (e m:Nat) (hm:m<=cs.size) (hc:cs.size<=maxLen):Hp B w0 (w.alloc (.cells cs e)) (⟨e,1,some ⟨w.heap.size,0,none⟩,m,cs.size,cs.toList.take m,false⟩::R):=by
 have h1:=h.new cs e cs.size 1 hc G;have:=h1.cut (k:=m) hm cD;rwa[qy] at this
theorem aWt {x y:Operand} {t tn e:TypeId} {z:Value} {bytes:Nat} {kn:IntKind} {m:Nat} (ht:P.underlying t=some (.slice e)) (Lw:P.underlying tn=some (.int kn)) (co:(P.info? e).map (λi=>(i.zero,i.size,i.bytes))=some (some z,1,bytes)) (hz:z.cells= #[z])
  (hx:ev L x=some (.slice none 0 0)) (hy:ev L y=some (.int .i64 (m:Int))) (h0:0<m) (hm:m<=9223372036854775807) (hb:m*bytes<=281474976710656):
  Ac P n B w0 (.call {callee:= .builtin .append,args:= #[x,y],argTypes:= #[t,tn]}) ty L R (λv R'=> ∃g c,v= .slice (some ⟨g,0,none⟩) m c/\R'=⟨e,1,some ⟨g,0,none⟩,m,c,List.replicate m z,false⟩::R):=by
 intro a w o K Q ho _ hs hp hk;obtain⟨i0,hi,ua⟩:=ib.1 co;simp only[xh] at ua;obtain⟨sf,tz,g7⟩:=ua;have hr:=Lib.run_append_nil_zeros (P:=P) w t tn o.type e i0 z .i64 kn ht Lw hi sf m h0 G G (by rw[g7];exact hb)
 have Nb: ∀q,(Builtin.zeroCells z.cells q).toList=List.replicate q z:=λq=>by
  rw[hz];refine ve (by simp[Builtin.zeroCells]) λi h1 h2=> ?_;simp[Builtin.zeroCells,Nat.mod_one]
 unfold Oper.wp;simp only[execOp,ho,resolve,invoke,builtin,jm,lv,jk,rf,kv,qi,hs.ev hx,hs.ev hy,hr,Oper.upon];have l8:=grownCap_ge w m 0 e;have mj:=Fj w m 0 e (by unfold maxLen;omega)
 have hsz:(Builtin.zeroCells z.cells m++Builtin.zeroCells z.cells (grownCap w m 0 e-m)).size=grownCap w m 0 e:=by
  rw[<-jl,um,ah,Nb,Nb,bq,bq];omega
 have lz:=(hp.drawn (w.drawn+1) G).newC (Builtin.zeroCells z.cells m++Builtin.zeroCells z.cells (grownCap w m 0 e-m)) e m (by rw[hsz];exact l8) (by rw[hsz];exact mj);rw[um,Nb,Nb,Eb (by rw[bq]),hsz] at lz;exact hk _ _ _ lz ⟨_,_,rfl,rfl⟩
end
end Go.Eng
namespace Go.Eng
open Go Go.RowKit
section
variable {P:Program} {n:Nd} {B:Nat} {w0:World}
theorem DZ {σ0 σ1 σ2 σ3 σ4 σ5 σ6 σ7:Type} {c:Code} {Q:eH} {L:Env} {R:List Row} (Lx:σ0->σ1->σ2->σ3->σ4->σ5->σ6->σ7->Env) (Rx:σ0->σ1->σ2->σ3->σ4->σ5->σ6->σ7->List Row) (J:σ0->σ1->σ2->σ3->σ4->σ5->σ6->σ7->Prop) (μ:σ0->σ1->σ2->σ3->σ4->σ5->σ6->σ7->Nat)
  (h0: ∃x0 x1 x2 x3 x4 x5 x6 x7,J x0 x1 x2 x3 x4 x5 x6 x7/\Sub (Lx x0 x1 x2 x3 x4 x5 x6 x7) L/\ ∀w,Hp B w0 w R->Hp B w0 w (Rx x0 x1 x2 x3 x4 x5 x6 x7))
  (round: ∀x0 x1 x2 x3 x4 x5 x6 x7,J x0 x1 x2 x3 x4 x5 x6 x7->W P n B w0 c {Q with nrm:=λL' R'=> ∃y0 y1 y2 y3 y4 y5 y6 y7,J y0 y1 y2 y3 y4 y5 y6 y7/\μ y0 y1 y2 y3 y4 y5 y6 y7<μ x0 x1 x2 x3 x4 x5 x6 x7/\Sub (Lx y0 y1 y2 y3 y4 y5 y6 y7) L'/\ ∀w,Hp B w0 w R'->Hp B w0 w (Rx y0 y1 y2 y3 y4 y5 y6 y7)} (Lx x0 x1 x2 x3 x4 x5 x6 x7) (Rx x0 x1 x2 x3 x4 x5 x6 x7)):W P n B w0 (.loop c) Q L R:=by
 obtain⟨x0,x1,x2,x3,x4,x5,x6,x7,h1,h2,h3⟩:=h0;refine oN (σ:=σ0 × σ1 × σ2 × σ3 × σ4 × σ5 × σ6 × σ7) (λp=>Lx p.1 p.2.1 p.2.2.1 p.2.2.2.1 p.2.2.2.2.1 p.2.2.2.2.2.1 p.2.2.2.2.2.2.1 p.2.2.2.2.2.2.2) (λp=>Rx p.1 p.2.1 p.2.2.1 p.2.2.2.1 p.2.2.2.2.1 p.2.2.2.2.2.1 p.2.2.2.2.2.2.1 p.2.2.2.2.2.2.2) (λp=>J p.1 p.2.1 p.2.2.1 p.2.2.2.1 p.2.2.2.2.1 p.2.2.2.2.2.1 p.2.2.2.2.2.2.1 p.2.2.2.2.2.2.2) (λp=>μ p.1 p.2.1 p.2.2.1 p.2.2.2.1 p.2.2.2.2.1 p.2.2.2.2.2.1 p.2.2.2.2.2.2.1 p.2.2.2.2.2.2.2) ⟨(x0,x1,x2,x3,x4,x5,x6,x7),h1,h2,h3⟩ λp hp=>gL (round p.1 p.2.1 p.2.2.1 p.2.2.2.1 p.2.2.2.2.1 p.2.2.2.2.2.1 p.2.2.2.2.2.2.1 p.2.2.2.2.2.2.2 hp) ?_ (λ_ _ h=>h) (λ_ _ _ h=>h);rintro L' R' ⟨y0,y1,y2,y3,y4,y5,y6,y7,g1,g2,g3,g4⟩;exact⟨(y0,y1,y2,y3,y4,y5,y6,y7),⟨g1,g2⟩,g3,g4⟩
theorem OQ {σ0 σ1 σ2 σ3 σ4 σ5 σ6 σ7 σ8:Type} {c:Code} {Q:eH} {L:Env} {R:List Row} (Lx:σ0->σ1->σ2->σ3->σ4->σ5->σ6->σ7->σ8->Env) (Rx:σ0->σ1->σ2->σ3->σ4->σ5->σ6->σ7->σ8->List Row) (J:σ0->σ1->σ2->σ3->σ4->σ5->σ6->σ7->σ8->Prop) (μ:σ0->σ1->σ2->σ3->σ4->σ5->σ6->σ7->σ8->Nat)
  (h0: ∃x0 x1 x2 x3 x4 x5 x6 x7 x8,J x0 x1 x2 x3 x4 x5 x6 x7 x8/\Sub (Lx x0 x1 x2 x3 x4 x5 x6 x7 x8) L/\ ∀w,Hp B w0 w R->Hp B w0 w (Rx x0 x1 x2 x3 x4 x5 x6 x7 x8))
  (round: ∀x0 x1 x2 x3 x4 x5 x6 x7 x8,J x0 x1 x2 x3 x4 x5 x6 x7 x8->W P n B w0 c {Q with nrm:=λL' R'=> ∃y0 y1 y2 y3 y4 y5 y6 y7 y8,J y0 y1 y2 y3 y4 y5 y6 y7 y8/\μ y0 y1 y2 y3 y4 y5 y6 y7 y8<μ x0 x1 x2 x3 x4 x5 x6 x7 x8/\Sub (Lx y0 y1 y2 y3 y4 y5 y6 y7 y8) L'/\ ∀w,Hp B w0 w R'->Hp B w0 w (Rx y0 y1 y2 y3 y4 y5 y6 y7 y8)} (Lx x0 x1 x2 x3 x4 x5 x6 x7 x8) (Rx x0 x1 x2 x3 x4 x5 x6 x7 x8)):W P n B w0 (.loop c) Q L R:=by
 obtain⟨x0,x1,x2,x3,x4,x5,x6,x7,x8,h1,h2,h3⟩:=h0;refine oN (σ:=σ0 × σ1 × σ2 × σ3 × σ4 × σ5 × σ6 × σ7 × σ8) (λp=>Lx p.1 p.2.1 p.2.2.1 p.2.2.2.1 p.2.2.2.2.1 p.2.2.2.2.2.1 p.2.2.2.2.2.2.1 p.2.2.2.2.2.2.2.1 p.2.2.2.2.2.2.2.2) (λp=>Rx p.1 p.2.1 p.2.2.1 p.2.2.2.1 p.2.2.2.2.1 p.2.2.2.2.2.1 p.2.2.2.2.2.2.1 p.2.2.2.2.2.2.2.1 p.2.2.2.2.2.2.2.2) (λp=>J p.1 p.2.1 p.2.2.1 p.2.2.2.1 p.2.2.2.2.1 p.2.2.2.2.2.1 p.2.2.2.2.2.2.1 p.2.2.2.2.2.2.2.1 p.2.2.2.2.2.2.2.2) (λp=>μ p.1 p.2.1 p.2.2.1 p.2.2.2.1 p.2.2.2.2.1 p.2.2.2.2.2.1 p.2.2.2.2.2.2.1 p.2.2.2.2.2.2.2.1 p.2.2.2.2.2.2.2.2) ⟨(x0,x1,x2,x3,x4,x5,x6,x7,x8),h1,h2,h3⟩ λp hp=>gL (round p.1 p.2.1 p.2.2.1 p.2.2.2.1 p.2.2.2.2.1 p.2.2.2.2.2.1 p.2.2.2.2.2.2.1 p.2.2.2.2.2.2.2.1 p.2.2.2.2.2.2.2.2 hp) ?_ (λ_ _ h=>h) (λ_ _ _ h=>h);rintro L' R' ⟨y0,y1,y2,y3,y4,y5,y6,y7,y8,g1,g2,g3,g4⟩;exact⟨(y0,y1,y2,y3,y4,y5,y6,y7,y8),⟨g1,g2⟩,g3,g4⟩
theorem aKz {σ0 σ1 σ2 σ3 σ4 σ5 σ6 σ7 σ8 σ9:Type} {c:Code} {Q:eH} {L:Env} {R:List Row} (Lx:σ0->σ1->σ2->σ3->σ4->σ5->σ6->σ7->σ8->σ9->Env) (Rx:σ0->σ1->σ2->σ3->σ4->σ5->σ6->σ7->σ8->σ9->List Row) (J:σ0->σ1->σ2->σ3->σ4->σ5->σ6->σ7->σ8->σ9->Prop) (μ:σ0->σ1->σ2->σ3->σ4->σ5->σ6->σ7->σ8->σ9->Nat)
  (h0: ∃x0 x1 x2 x3 x4 x5 x6 x7 x8 x9,J x0 x1 x2 x3 x4 x5 x6 x7 x8 x9/\Sub (Lx x0 x1 x2 x3 x4 x5 x6 x7 x8 x9) L/\ ∀w,Hp B w0 w R->Hp B w0 w (Rx x0 x1 x2 x3 x4 x5 x6 x7 x8 x9))
  (round: ∀x0 x1 x2 x3 x4 x5 x6 x7 x8 x9,J x0 x1 x2 x3 x4 x5 x6 x7 x8 x9->W P n B w0 c {Q with nrm:=λL' R'=> ∃y0 y1 y2 y3 y4 y5 y6 y7 y8 y9,J y0 y1 y2 y3 y4 y5 y6 y7 y8 y9/\μ y0 y1 y2 y3 y4 y5 y6 y7 y8 y9<μ x0 x1 x2 x3 x4 x5 x6 x7 x8 x9/\Sub (Lx y0 y1 y2 y3 y4 y5 y6 y7 y8 y9) L'/\ ∀w,Hp B w0 w R'->Hp B w0 w (Rx y0 y1 y2 y3 y4 y5 y6 y7 y8 y9)} (Lx x0 x1 x2 x3 x4 x5 x6 x7 x8 x9) (Rx x0 x1 x2 x3 x4 x5 x6 x7 x8 x9)):W P n B w0 (.loop c) Q L R:=by
 obtain⟨x0,x1,x2,x3,x4,x5,x6,x7,x8,x9,h1,h2,h3⟩:=h0;refine oN (σ:=σ0 × σ1 × σ2 × σ3 × σ4 × σ5 × σ6 × σ7 × σ8 × σ9) (λp=>Lx p.1 p.2.1 p.2.2.1 p.2.2.2.1 p.2.2.2.2.1 p.2.2.2.2.2.1 p.2.2.2.2.2.2.1 p.2.2.2.2.2.2.2.1 p.2.2.2.2.2.2.2.2.1 p.2.2.2.2.2.2.2.2.2) (λp=>Rx p.1 p.2.1 p.2.2.1 p.2.2.2.1 p.2.2.2.2.1 p.2.2.2.2.2.1 p.2.2.2.2.2.2.1 p.2.2.2.2.2.2.2.1 p.2.2.2.2.2.2.2.2.1 p.2.2.2.2.2.2.2.2.2) (λp=>J p.1 p.2.1 p.2.2.1 p.2.2.2.1 p.2.2.2.2.1 p.2.2.2.2.2.1 p.2.2.2.2.2.2.1 p.2.2.2.2.2.2.2.1 p.2.2.2.2.2.2.2.2.1 p.2.2.2.2.2.2.2.2.2) (λp=>μ p.1 p.2.1 p.2.2.1 p.2.2.2.1 p.2.2.2.2.1 p.2.2.2.2.2.1 p.2.2.2.2.2.2.1 p.2.2.2.2.2.2.2.1 p.2.2.2.2.2.2.2.2.1 p.2.2.2.2.2.2.2.2.2) ⟨(x0,x1,x2,x3,x4,x5,x6,x7,x8,x9),h1,h2,h3⟩ λp hp=>gL (round p.1 p.2.1 p.2.2.1 p.2.2.2.1 p.2.2.2.2.1 p.2.2.2.2.2.1 p.2.2.2.2.2.2.1 p.2.2.2.2.2.2.2.1 p.2.2.2.2.2.2.2.2.1 p.2.2.2.2.2.2.2.2.2 hp) ?_ (λ_ _ h=>h) (λ_ _ _ h=>h);rintro L' R' ⟨y0,y1,y2,y3,y4,y5,y6,y7,y8,y9,g1,g2,g3,g4⟩;exact⟨(y0,y1,y2,y3,y4,y5,y6,y7,y8,y9),⟨g1,g2⟩,g3,g4⟩
theorem aKy {σ0 σ1 σ2 σ3 σ4 σ5 σ6 σ7 σ8 σ9 σ10 σ11 σ12 σ13:Type} {c:Code} {Q:eH} {L:Env} {R:List Row} (Lx:σ0->σ1->σ2->σ3->σ4->σ5->σ6->σ7->σ8->σ9->σ10->σ11->σ12->σ13->Env) (Rx:σ0->σ1->σ2->σ3->σ4->σ5->σ6->σ7->σ8->σ9->σ10->σ11->σ12->σ13->List Row) (J:σ0->σ1->σ2->σ3->σ4->σ5->σ6->σ7->σ8->σ9->σ10->σ11->σ12->σ13->Prop) (μ:σ0->σ1->σ2->σ3->σ4->σ5->σ6->σ7->σ8->σ9->σ10->σ11->σ12->σ13->Nat)
  (h0: ∃x0 x1 x2 x3 x4 x5 x6 x7 x8 x9 v6 v7 v8 w4,J x0 x1 x2 x3 x4 x5 x6 x7 x8 x9 v6 v7 v8 w4/\Sub (Lx x0 x1 x2 x3 x4 x5 x6 x7 x8 x9 v6 v7 v8 w4) L/\ ∀w,Hp B w0 w R->Hp B w0 w (Rx x0 x1 x2 x3 x4 x5 x6 x7 x8 x9 v6 v7 v8 w4))
  (round: ∀x0 x1 x2 x3 x4 x5 x6 x7 x8 x9 v6 v7 v8 w4,J x0 x1 x2 x3 x4 x5 x6 x7 x8 x9 v6 v7 v8 w4->W P n B w0 c {Q with nrm:=λL' R'=> ∃y0 y1 y2 y3 y4 y5 y6 y7 y8 y9 Ne Nf Ng Nh,J y0 y1 y2 y3 y4 y5 y6 y7 y8 y9 Ne Nf Ng Nh/\μ y0 y1 y2 y3 y4 y5 y6 y7 y8 y9 Ne Nf Ng Nh<μ x0 x1 x2 x3 x4 x5 x6 x7 x8 x9 v6 v7 v8 w4/\Sub (Lx y0 y1 y2 y3 y4 y5 y6 y7 y8 y9 Ne Nf Ng Nh) L'/\ ∀w,Hp B w0 w R'->Hp B w0 w (Rx y0 y1 y2 y3 y4 y5 y6 y7 y8 y9 Ne Nf Ng Nh)} (Lx x0 x1 x2 x3 x4 x5 x6 x7 x8 x9 v6 v7 v8 w4) (Rx x0 x1 x2 x3 x4 x5 x6 x7 x8 x9 v6 v7 v8 w4)):W P n B w0 (.loop c) Q L R:=by
 obtain⟨x0,x1,x2,x3,x4,x5,x6,x7,x8,x9,v6,v7,v8,w4,h1,h2,h3⟩:=h0;refine oN (σ:=σ0 × σ1 × σ2 × σ3 × σ4 × σ5 × σ6 × σ7 × σ8 × σ9 × σ10 × σ11 × σ12 × σ13) (λp=>Lx p.1 p.2.1 p.2.2.1 p.2.2.2.1 p.2.2.2.2.1 p.2.2.2.2.2.1 p.2.2.2.2.2.2.1 p.2.2.2.2.2.2.2.1 p.2.2.2.2.2.2.2.2.1 p.2.2.2.2.2.2.2.2.2.1 p.2.2.2.2.2.2.2.2.2.2.1 p.2.2.2.2.2.2.2.2.2.2.2.1 p.2.2.2.2.2.2.2.2.2.2.2.2.1 p.2.2.2.2.2.2.2.2.2.2.2.2.2) (λp=>Rx p.1 p.2.1 p.2.2.1 p.2.2.2.1 p.2.2.2.2.1 p.2.2.2.2.2.1 p.2.2.2.2.2.2.1 p.2.2.2.2.2.2.2.1 p.2.2.2.2.2.2.2.2.1 p.2.2.2.2.2.2.2.2.2.1 p.2.2.2.2.2.2.2.2.2.2.1 p.2.2.2.2.2.2.2.2.2.2.2.1 p.2.2.2.2.2.2.2.2.2.2.2.2.1 p.2.2.2.2.2.2.2.2.2.2.2.2.2) (λp=>J p.1 p.2.1 p.2.2.1 p.2.2.2.1 p.2.2.2.2.1 p.2.2.2.2.2.1 p.2.2.2.2.2.2.1 p.2.2.2.2.2.2.2.1 p.2.2.2.2.2.2.2.2.1 p.2.2.2.2.2.2.2.2.2.1 p.2.2.2.2.2.2.2.2.2.2.1 p.2.2.2.2.2.2.2.2.2.2.2.1 p.2.2.2.2.2.2.2.2.2.2.2.2.1 p.2.2.2.2.2.2.2.2.2.2.2.2.2) (λp=>μ p.1 p.2.1 p.2.2.1 p.2.2.2.1 p.2.2.2.2.1 p.2.2.2.2.2.1 p.2.2.2.2.2.2.1 p.2.2.2.2.2.2.2.1 p.2.2.2.2.2.2.2.2.1 p.2.2.2.2.2.2.2.2.2.1 p.2.2.2.2.2.2.2.2.2.2.1 p.2.2.2.2.2.2.2.2.2.2.2.1 p.2.2.2.2.2.2.2.2.2.2.2.2.1 p.2.2.2.2.2.2.2.2.2.2.2.2.2) ⟨(x0,x1,x2,x3,x4,x5,x6,x7,x8,x9,v6,v7,v8,w4),h1,h2,h3⟩ λp hp=>gL (round p.1 p.2.1 p.2.2.1 p.2.2.2.1 p.2.2.2.2.1 p.2.2.2.2.2.1 p.2.2.2.2.2.2.1 p.2.2.2.2.2.2.2.1 p.2.2.2.2.2.2.2.2.1 p.2.2.2.2.2.2.2.2.2.1 p.2.2.2.2.2.2.2.2.2.2.1 p.2.2.2.2.2.2.2.2.2.2.2.1 p.2.2.2.2.2.2.2.2.2.2.2.2.1 p.2.2.2.2.2.2.2.2.2.2.2.2.2 hp) ?_ (λ_ _ h=>h) (λ_ _ _ h=>h);rintro L' R' ⟨y0,y1,y2,y3,y4,y5,y6,y7,y8,y9,Ne,Nf,Ng,Nh,g1,g2,g3,g4⟩;exact⟨(y0,y1,y2,y3,y4,y5,y6,y7,y8,y9,Ne,Nf,Ng,Nh),⟨g1,g2⟩,g3,g4⟩
end
section
variable {P:Program} {n:Nd} {B:Nat} {w0:World} {L:Env} {R:List Row} {ty:TypeId}
end
end Go.Eng
namespace Go.Eng
open Go Go.RowKit Go.Proofs
theorem SlW.elim {C:Prop} {k:IntKind} {w:World} {vals:List Value} {ls:List (List Int)} (h:SlW k w vals ls) {i:Int} (h0:0<=i) (h1:i<ls.length) (q: ∀(A:Option Addr) (c:Nat),vals[i.toNat]? =some (Value.slice A (rdl ls i).length c)->Rd w A (rdl ls i).length c 1 (ints k (rdl ls i))->(∀x∈rdl ls i,(Lit.int k x).wf=true)->(rdl ls i).length<=140737488355327->C):C:=by
 obtain⟨A,c,a,b,d,e⟩:=h.at h0 h1;exact q A c a b d e
section
variable {P:Program} {n:Nd} {B:Nat} {w0:World} {L:Env} {R:List Row} {ty:TypeId}
theorem aDp {l:List (Int × Int)} {i:Int} (h0:0<=i) (h:i<l.length):(prs l)[i.toNat*2+0]? =some (.int .i64 (rdp l i).1):=by
 rw[PL _ _ G];rw[cu G,show(i.toNat*2+0)/2=i.toNat by omega];rfl
theorem EU {x:Operand} {t:TypeId} {d:TypeDesc} {A:Option Addr} {m c:Nat} {l:List (Int × Int)} {i:Int} (hu:P.underlying t=some d) (hd:BZ d=false) (hx:ev L x=some (.pointer (pat A (i.toNat*2+0)))) (hr:RdC B w0 R A m c 2 (prs l)) (h0:0<=i:=by omega) (h1:i<l.length:=by omega):
  Yl P n B w0 (.load t x) ty L R (.int .i64 (rdp l i).1):=AB hu hd hx rfl hr (aDp h0 h1)
end
section
variable {P:Program} {n:Nd} {B:Nat} {w0:World} {ops:Array Oper} {K:Env->List Row->Prop} {L:Env} {R:List Row} {op:Op} {ty:TypeId} {pos:String} {ml:Array Edge}
end
end Go.Eng
namespace Go.Eng
open Go Go.RowKit
variable {w:World} {A:Option Addr} {m c l h:Nat} {xs:List Int}
theorem Rd.cutI {k:IntKind} (hr:Rd w A m c 1 (ints k xs)) (h1:l<=h) (h2:h<=m):Rd w (iY A l c 1) (h-l) (c-l) 1 (ints k ((xs.drop l).take (h-l))):=
 RdC.cutI (hr.c []) h1 h2 w (Hp.refl _)
theorem Rd.fromI {k:IntKind} (hr:Rd w A m c 1 (ints k xs)) (h1:l<=m):Rd w (iY A l c 1) (m-l) (c-l) 1 (ints k (xs.drop l)):=
 RdC.fromI (hr.c []) h1 w (Hp.refl _)
theorem Rd.toI {k:IntKind} (hr:Rd w A m c 1 (ints k xs)) (h2:h<=m):Rd w A h c 1 (ints k (xs.take h)):=
 RdC.toI (hr.c []) h2 w (Hp.refl _)
theorem fH {x:Int} (h:0<=x/\x<256):(Lit.int .u8 x).wf=true:=by
 have h1:IntKind.u8.min<=x:=h.1
 have h2:x<=IntKind.u8.max:=by
  have:IntKind.u8.max=255:=cC
  omega
 simp[Lit.wf,h1,h2]
theorem SlW.snoc {k:IntKind} {vals:List Value} {ls:List (List Int)} {l:List Int} (h:SlW k w vals ls) (hr:Rd w A m c 1 (ints k l)) (hwf: ∀x∈l,(Lit.int k x).wf=true) (hm:l.length<=140737488355327):SlW k w (vals++[.slice A m c]) (ls++[l]):=by
 obtain rfl:=hr.lenI;refine⟨by rw[ah,ah,h.1];rfl,λj hj=> ?_⟩;rcases fe j ls.length with a|a
 ·obtain ⟨A',c',h1,h2,h3,h4⟩:=h.2 j a
  have e:(ls++[l]).getD j []=ls.getD j []:=by
   rw[af,af,je a]
  rw[e];exact⟨A',c',by rw[je (by rw[h.1];exact a)];exact h1,h2,h3,h4⟩
 ·have sn:j=ls.length:=by rw[ah] at hj;simp at hj;omega
  have e:(ls++[l]).getD j []=l:=by
   rw[af,sn,iy (dh _)];simp
  rw[e];refine⟨A,c,?_,hr,hwf,hm⟩;rw[sn,<-h.1,iy (dh _)];simp
section
variable {P:Program} {n:Nd} {B:Nat} {w0:World} {L:Env} {R:List Row} {ty:TypeId}
end
section
variable {P:Program} {n:Nd} {B:Nat} {w0:World} {L:Env} {R:List Row} {ty:TypeId}
def WRd (P:Program) (n:Nd) (B:Nat) (w0:World) (c:Code) (Q:eH):Nat->Env->List Row->Prop
 |0,_,_=>False
 |m+1,L,R=>W P n B w0 c {Q with nrm:=WRd P n B w0 c Q m} L R
theorem qL {c:Code} {Q:eH} (m:Nat) (h:WRd P n B w0 c Q m L R):W P n B w0 (.loop c) Q L R:=by
 intro a w hs hp;refine wpIn_loop_rounds m ?_
 have key: ∀(m:Nat) (L:Env) (R:List Row) (a:Act) (w:World),Sat n L a->Hp B w0 w R->WRd P n B w0 c Q m L R->Code.roundsIn (NF n.rd) 0 P c (PQ n B w0 Q) m a w:=by
  intro m
  induction m with
  |zero=>intro L R a w _ _ h;exact h.elim
  |succ m ih=>
   intro L R a w hs hp h;rw[roundsIn_succ];refine Ag (h a w hs hp) ?_;intro e a' w' hq;cases e with
   |normal=>obtain⟨L',R',dg,bw,hw⟩:=hq;exact ih _ _ _ _ dg bw hw
   |exit id=>exact hq
   |goto l=>exact hq
   |ret=>exact hq
   |panic ch=>exact hq
   |outgrown=>exact hq
 exact key m L R a w hs hp h
theorem dY {c:Code} {Q:eH} {m:Nat} (h:W P n B w0 c {Q with nrm:=WRd P n B w0 c Q m} L R):WRd P n B w0 c Q (m+1) L R:=h
theorem aYx {t:TypeId} {x ix:Operand} {u i v:Value} (hx:ev L x=some u) (hi:ev L ix=some i) (h: ∀w,(Instr.index t u i).run P w= .ok v w):Yl P n B w0 (.index t x ix) ty L R v:=by
 intro a w o ho _ hs _;simp[execOp,ho,hs.ev hx,hs.ev hi,h]
end
end Go.Eng
namespace Go.Eng
open Go Go.RowKit Go.Pure
section
variable {P:Program} {n:Nd} {B:Nat} {w0:World} {L:Env} {R:List Row} {ty:TypeId}
theorem aFc {x y:Int} (hx:0<=x/\x<256) (hy:0<=y/\y<256):(x.toNat.toUInt8==y.toNat.toUInt8)=decide (x=y):=by
 have e: ∀z:Int,0<=z/\z<256->((z.toNat.toUInt8).toNat:Int)=z:=λz hz=>by
  rw[Nat.toUInt8,Bn (by simp[UInt8.size];omega)];omega
 by_cases h:x=y
 ·subst h;simp
 ·rw [ol h];refine beq_eq_false_iff_ne.2 λg=>h ?_;have:=e x hx;have:=e y hy;rw[g] at*;omega
theorem aIn {u:List Int} {c:Int} (hu:aO u) (hc:0<=c/\c<256) (hm:c∈u):
  (List.range (⟨(Lib.bytesOf u).toArray⟩:ByteArray).size).find? (λi=>(⟨(Lib.bytesOf u).toArray⟩:ByteArray)[i]! ==c.toNat.toUInt8)=some (idx u c).toNat:=by
 have hi:=sG hm
 have hsz:(⟨(Lib.bytesOf u).toArray⟩:ByteArray).size=u.length:=by
  show(Lib.bytesOf u).toArray.size=_;rw[pz,WW]
 have pi: ∀(i:Nat) (h:i<u.length),(⟨(Lib.bytesOf u).toArray⟩:ByteArray)[i]! =(u[i]).toNat.toUInt8:=λi h=>by
  rw[tq _ i (by rw[hsz];exact h)];show(Lib.bytesOf u).toArray[i]'_=_;simp[Lib.bytesOf]
 refine List.find?_range_eq_some.2 ⟨?_,?_,?_⟩
 ·rw [pi _ G,aFc (hu _ (kz _)) hc];have:=YY hm;rw[eQ hi.1 hi.2] at this;rw[lh this]
 ·rw[ji,hsz];omega
 ·intro j hj;rw[pi _ G,aFc (hu _ (kz _)) hc]
  have:u[j]≠c:=λg=>by
   unfold idx at hj hi;have:=List.not_of_lt_findIdx (xs:=u) (p:=λx=>x==c) (i:=j) G;simp[g] at this
  rw[ol this];rfl
theorem XJ {f:FuncId} {fn:Func} {x y:Operand} {ts:Array TypeId} {A:Option Addr} {m c':Nat} {u:List Int} {c:Int} (hf:P.funcs[f]? =some fn) (vn:(fn.name== "runtime.NumGoroutine")=false) (hb:fn.body.isNone=true) (hn:Extern.findNext fn=none) (he:Extern.find fn=some Extern.BytealgIndexByte.indexByte)
  (hx:ev L x=some (.slice A m c')) (hy:ev L y=some (.int .u8 c)) (h:RdC B w0 R A m c' 1 (ints .u8 u)) (hu:aO u) (hc:0<=c/\c<256) (hm:c∈u):
  Ac P n B w0 (.call {callee:= .value (.func f),args:=[x,y].toArray,argTypes:=ts}) ty L R (λv R'=>v= .int .i64 (idx u c)/\R'=R):=
 QS (vs:=[.slice A m c', .int .u8 c]) (by simp[evs,hx,hy]) λw hw=>⟨_,w,R,by
  rw[Ei hf vn hb hn he];rw[show [Value.slice A m c',Value.int .u8 c].toArray= #[.slice A m c', .int .u8 c] from rfl]
  change (Sem.run P (do
   let b<-Extern.Bytes.bytesOf (.slice A m c')
   let c<-Extern.Bytes.asByte (.int .u8 c)
   match (List.range b.size).find? λi=>b[i]! ==c with
   |some i=>pure (goInt i)
   |none=>pure (goInt (-1))) w).andThen _=_
  simp only[jm,tV (h w hw),jk,Extern.Bytes.asByte,lv,aIn hu hc hm];rfl,hw,by
  show Value.int .i64 (((idx u c).toNat:Nat):Int)=_;have:=sG hm
  rw[show(((idx u c).toNat:Nat):Int)=idx u c by omega],rfl⟩
theorem iQ {x:Int} (h0:0<=x) (h:x<18446744073709551616):IntKind.u64.wrap x=x:=by
 rw[Gy];omega
theorem rR {x:Int} (h0:0<=x) (h:x<256):IntKind.u8.wrap x=x:=by
 rw[Im];omega
theorem aLy (x:Int) (h0:0<=x) (h1:x<18446744073709551616) (j:IntKind) (k:Nat) (hk:k<=64) (w:World):(Op.shift .shr .u64 x j (k:Int)).run P w= .ok (.int .u64 (x/2^k)) w:=by
 have hn: ¬((k:Int)<0):=G
 have hm:min (k:Int).toNat (IntKind.bits .u64)=k:=by
  have:IntKind.bits .u64=64:=rfl;omega
 have he:Int.fdiv x (2^k)=x/2^k:=Am _ (by exact uq G);unfold Op.shift;simp only[hn,hm,he,wu];rfl
theorem aYv {x y:Operand} {t u:TypeId} {a:Int} {j:IntKind} {k:Nat} (hx:ev L x=some (.int .u64 a)) (hy:ev L y=some (.int j (k:Int))) (h0:0<=a) (h1:a<18446744073709551616) (hk:Nat.ble k 64=true):Yl P n B w0 (.binOp .shr t x y u) ty L R (.int .u64 (a/2^k)):=by
 intro a' w o ho _ hs _;simp[execOp,ho,hs.ev hx,hs.ev hy,binOp,eqGuard,aLy a h0 h1 j k (au hk)]
end
section
variable {P:Program} {n:Nd} {B:Nat} {w0:World} {L:Env} {R:List Row} {ty:TypeId}
theorem aYy {x y:Operand} {t u:TypeId} {p q:Int} (hx:ev L x=some (.int .u64 p)) (hy:ev L y=some (.int .u64 q)) (h:0<=p+q/\p+q<18446744073709551616):Yl P n B w0 (.binOp .add t x y u) ty L R (.int .u64 (p+q)):=by
 have:=aKw (P:=P) (n:=n) (B:=B) (w0:=w0) (R:=R) (ty:=ty) (t:=t) (u:=u) hx hy;rwa[iQ h.1 h.2] at this
theorem aYu {x y:Operand} {t u:TypeId} {p q:Int} (hx:ev L x=some (.int .u64 p)) (hy:ev L y=some (.int .u64 q)) (h:0<=p-q/\p-q<18446744073709551616):Yl P n B w0 (.binOp .sub t x y u) ty L R (.int .u64 (p-q)):=by
 have:=aXa (P:=P) (n:=n) (B:=B) (w0:=w0) (R:=R) (ty:=ty) (t:=t) (u:=u) hx hy;rwa[iQ h.1 h.2] at this
theorem wH {x y:Operand} {t u:TypeId} {p q:Int} (hx:ev L x=some (.int .u64 p)) (hy:ev L y=some (.int .u64 q)) (h:0<=p*q/\p*q<18446744073709551616):Yl P n B w0 (.binOp .mul t x y u) ty L R (.int .u64 (p*q)):=by
 have:=aXc (P:=P) (n:=n) (B:=B) (w0:=w0) (R:=R) (ty:=ty) (t:=t) (u:=u) hx hy;rwa[iQ h.1 h.2] at this
theorem ES {x y:Operand} {t u:TypeId} {p q:Int} (hx:ev L x=some (.int .u64 p)) (hy:ev L y=some (.int .u64 q)) (h:0<=p/\p<18446744073709551616) (h0:0<q):Yl P n B w0 (.binOp .quo t x y u) ty L R (.int .u64 (p/q)):=by
 have:=aXb (P:=P) (n:=n) (B:=B) (w0:=w0) (R:=R) (ty:=ty) (t:=t) (u:=u) hx hy h.1 h0;have h1:p/q<=p:=Gx q h.1;have h2:0<=p/q:=Dx h.1 G;rwa[iQ h2 G] at this
theorem iU {x:Operand} {s d:TypeId} {j:IntKind} {p:Int} {td:TypeDesc} (dg:P.underlying s=some td) (hd:P.underlying d=some (.int .u64)) (hx:ev L x=some (.int j p)) (h:0<=p/\p<18446744073709551616:=by omega):Yl P n B w0 (.convert s d x) ty L R (.int .u64 p):=by
 have:=oM (P:=P) (n:=n) (B:=B) (w0:=w0) (R:=R) (ty:=ty) dg hd hx;rwa[iQ h.1 h.2] at this
theorem iF {x:Operand} {s d:TypeId} {j:IntKind} {p:Int} {td:TypeDesc} (dg:P.underlying s=some td) (hd:P.underlying d=some (.int .u8)) (hx:ev L x=some (.int j p)):Yl P n B w0 (.convert s d x) ty L R (.int .u8 (p%256)):=by
 have:=oM (P:=P) (n:=n) (B:=B) (w0:=w0) (R:=R) (ty:=ty) dg hd hx;rwa[Im] at this
theorem aYz {x y:Operand} {t u:TypeId} {p q:Int} (hx:ev L x=some (.int .u8 p)) (hy:ev L y=some (.int .u8 q)):Yl P n B w0 (.binOp .add t x y u) ty L R (.int .u8 ((p+q)%256)):=by
 have:=aKw (P:=P) (n:=n) (B:=B) (w0:=w0) (R:=R) (ty:=ty) (t:=t) (u:=u) hx hy;rwa[Im] at this
theorem aLz (x m:Int) (h:0<=x*m/\x*m<18446744073709551616) (j:IntKind) (k:Nat) (hk:k<=64) (hm:(2:Int)^k=m) (w:World):(Op.shift .shl .u64 x j (k:Int)).run P w= .ok (.int .u64 (x*m)) w:=by
 have hn: ¬((k:Int)<0):=G
 have hb:min (k:Int).toNat (IntKind.bits .u64)=k:=by
  have:IntKind.bits .u64=64:=rfl;omega
 unfold Op.shift;simp only[hn,hb,wu,hm,iQ h.1 h.2];rfl
theorem wF {x y:Operand} {t u:TypeId} {a m:Int} {j:IntKind} {k:Nat} (hx:ev L x=some (.int .u64 a)) (hy:ev L y=some (.int j (k:Int))) (hm:(2:Int)^k=m) (h:0<=a*m/\a*m<18446744073709551616) (hk:Nat.ble k 64=true):Yl P n B w0 (.binOp .shl t x y u) ty L R (.int .u64 (a*m)):=by
 intro a' w o ho _ hs _;simp[execOp,ho,hs.ev hx,hs.ev hy,binOp,eqGuard,aLz a m h j k (au hk) hm]
theorem pV {x y:Operand} {t u:TypeId} {a m:Int} {j:IntKind} {k:Nat} (hx:ev L x=some (.int .u64 a)) (hy:ev L y=some (.int j (k:Int))) (hm:(2:Int)^k=m) (h:0<=a/\a<18446744073709551616) (hk:Nat.ble k 64=true):Yl P n B w0 (.binOp .shr t x y u) ty L R (.int .u64 (a/m)):=by
 have:=aYv (P:=P) (n:=n) (B:=B) (w0:=w0) (R:=R) (ty:=ty) (t:=t) (u:=u) hx hy h.1 h.2 hk;rwa[hm] at this
theorem pY {p:Int} (h:0<=p/\p<18446744073709551616):(BitVec.ofInt 64 p).toNat=p.toNat:=by
 rw[Bu];have e:((2^64:Nat):Int)=18446744073709551616:=rfl;rw[e,sj h.1 h.2]
theorem aGo (p:Int) (h:0<=p/\p<18446744073709551616) (k:Nat) (hk:k<=64) (m:Int) (hm:m=(2:Int)^k-1) (w:World):(Op.intBits .and .u64 p m).run P w= .ok (.int .u64 (p%2^k)) w:=by
 show Result.ok (Value.int .u64 (IntKind.u64.wrap ((BitVec.ofInt 64 p &&& BitVec.ofInt 64 m).toNat:Int))) w=_;have hp:(0:Int)<2^k:=Dp G
 have mj:(2:Int)^k<=2^64:=by
  have:(2:Nat)^k<=2^64:=Dw G hk
  exact_mod_cast this
 have e1:(BitVec.ofInt 64 m).toNat=2^k-1:=by
  rw[pY G,hm];have:((2:Int)^k)=((2^k:Nat):Int):=by norm_cast
  rw[this];omega
 rw[BitVec.toNat_and,pY h,e1,Da]
 have e2:((p.toNat%2^k:Nat):Int)=p%2^k:=by
  rw[zi,ou h.1]
  norm_cast
 rw[e2];have h1:0<=p%2^k:=ym _ G;have h2:p%2^k<2^k:=wz _ hp;rw[iQ h1 G]
theorem OP {x y:Operand} {t u:TypeId} {p q m:Int} (k:Nat) (hx:ev L x=some (.int .u64 p)) (hy:ev L y=some (.int .u64 q)) (hm:(2:Int)^k=m) (hq:q=m-1) (h:0<=p/\p<18446744073709551616) (hk:Nat.ble k 64=true):Yl P n B w0 (.binOp .and t x y u) ty L R (.int .u64 (p%m)):=by
 subst hm;intro a w o ho _ hs _;simp[execOp,ho,binOp,eqGuard,hs.ev hx,hs.ev hy,aGo p h k (au hk) q hq]
theorem aZu: ∀n:Fin 256,(n.val|||128)=n.val%128+128:=by decide+kernel
theorem aTk (p:Int) (h:0<=p/\p<256) (w:World):(Op.intBits .or .u8 p 128).run P w= .ok (.int .u8 (p%128+128)) w:=by
 show Result.ok (Value.int .u8 (IntKind.u8.wrap ((BitVec.ofInt 8 p|||BitVec.ofInt 8 128).toNat:Int))) w=_
 have e1:(BitVec.ofInt 8 p).toNat=p.toNat:=by
  rw[Bu];have e:((2^8:Nat):Int)=256:=rfl;rw[e,sj h.1 h.2]
 have e2:(BitVec.ofInt 8 128).toNat=128:=cC
 rw[Il,e1,e2];have:=aZu ⟨p.toNat,G⟩;rw[show p.toNat|||128=p.toNat%128+128 from this,rR G G];rw[show((p.toNat%128+128:Nat):Int)=p%128+128 by omega]
theorem bCf {x y:Operand} {t u:TypeId} {p:Int} (hx:ev L x=some (.int .u8 p)) (hy:ev L y=some (.int .u8 128)) (h:0<=p/\p<256):Yl P n B w0 (.binOp .or t x y u) ty L R (.int .u8 (p%128+128)):=by
 intro a w o ho _ hs _;simp[execOp,ho,binOp,eqGuard,hs.ev hx,hs.ev hy,aTk p h]
theorem aDa (p q:Int) (k:Nat) (m:Int) (hm:(2:Int)^k=m) (h:0<=p/\p*m+q<18446744073709551616) (hq:0<=q/\q<m) (w:World):(Op.intBits .or .u64 (p*m) q).run P w= .ok (.int .u64 (p*m+q)) w:=by
 show Result.ok (Value.int .u64 (IntKind.u64.wrap ((BitVec.ofInt 64 (p*m)|||BitVec.ofInt 64 q).toNat:Int))) w=_;have Ux:0<=p*m:=zh h.1 G;rw[Il,pY G,pY G]
 have e1:(p*m).toNat=2^k*p.toNat:=by
  have:p*m=((2^k*p.toNat:Nat):Int):=by
   rw[zy,ou h.1,Dy,<-hm,Cj];rfl
  rw[this,az]
 have e2:q.toNat<2^k:=by
  have:((2^k:Nat):Int)=m:=by rw[<-hm,Dy];rfl
  omega
 rw[e1,<-En e2,<-e1];rw[show(((p*m).toNat+q.toNat:Nat):Int)=p*m+q by omega,iQ G h.2]
theorem bCd {x y:Operand} {t u:TypeId} {p q m:Int} (k:Nat) (hx:ev L x=some (.int .u64 (p*m))) (hy:ev L y=some (.int .u64 q)) (hm:(2:Int)^k=m) (h:0<=p/\p*m+q<18446744073709551616) (hq:0<=q/\q<m):Yl P n B w0 (.binOp .or t x y u) ty L R (.int .u64 (p*m+q)):=by
 intro a w o ho _ hs _;simp[execOp,ho,binOp,eqGuard,hs.ev hx,hs.ev hy,aDa p q k m hm h hq]
theorem aLx (k0:IntKind) (x m:Int) (h0:0<=x) (j:IntKind) (k:Nat) (hk:k<=k0.bits) (hm:(2:Int)^k=m) (w:World):(Op.shift .shr k0 x j (k:Int)).run P w= .ok (.int k0 (x/m)) w:=by
 have hn: ¬((k:Int)<0):=G
 have hb:min (k:Int).toNat k0.bits=k:=G
 have he:Int.fdiv x m=x/m:=Am _ (by rw[<-hm];exact uq G);unfold Op.shift;simp only[hn,hb,hm,he,wu];rfl
theorem OL {x y:Operand} {t u:TypeId} {k0:IntKind} {a m:Int} {j:IntKind} {k:Nat} (hx:ev L x=some (.int k0 a)) (hy:ev L y=some (.int j (k:Int))) (hm:(2:Int)^k=m) (h:0<=a) (hk:Nat.ble k k0.bits=true):Yl P n B w0 (.binOp .shr t x y u) ty L R (.int k0 (a/m)):=by
 intro a' w o ho _ hs _;simp[execOp,ho,hs.ev hx,hs.ev hy,binOp,eqGuard,aLx k0 a m h j k (au hk) hm]
theorem XK {x y:Operand} {t e:TypeId} {z:Value} {bytes m c k c2:Nat} {A A2:Option Addr} {l l2:List Int} {kk:IntKind} (ht:P.underlying t=some (.slice e)) (co:(P.info? e).map (λi=>(i.zero,i.size,i.bytes))=some (some z,1,bytes))
  (hx:ev L x=some (.slice A m c)) (hr:RdC B w0 R A m c 1 (ints kk l)) (hy:ev L y=some (.slice A2 k c2)) (wj:RdC B w0 R A2 k c2 1 (ints kk l2)) (h0:0<m) (h1:0<k) (hg:c<m+k) (hb:m+k<=1000000) (vi:Builtin.nextslicecap (m+k) c*bytes<=281474976710656) (hz:z.cells.size=1):
  Ac P n B w0 (.call {callee:= .builtin .append,args:= #[x,y],argTypes:= #[t,t]}) ty L R (λv R'=> ∃g c',v= .slice (some ⟨g,0,none⟩) (m+k) c'/\R'=⟨e,1,some ⟨g,0,none⟩,m+k,c',ints kk (l++l2),false⟩::R):=by
 intro a w o K Q ho _ hs hp hk;obtain⟨i0,hi,ua⟩:=ib.1 co;simp only[xh] at ua;obtain⟨sf,tz,g7⟩:=ua;have ha:=hr w hp;have wc:=wj w hp;have vj:(ints kk l).length=m:=by have:=ha.len;omega
 have po:(ints kk l2).length=k:=by have:=wc.len;omega
 obtain⟨ad,rfl,_⟩:=ha.at_ 0 (ints kk l)[0] (by rw[av G]);obtain⟨ae,rfl,_⟩:=wc.at_ 0 (ints kk l2)[0] (by rw[av G])
 have ld:=run_append_grow (P:=P) (w:=w) t o.type e i0 z ht hi sf ad m c (ints kk l) (by rw[vj,tz];omega) (λj v hv=>by
   obtain⟨a',ki,hc⟩:=ha.at_ j v hv;obtain rfl:=iw ki
   exact hc) ae k c2 (ints kk l2) (by rw[po,tz];omega) (λj v hv=>by
   obtain⟨a',ki,hc⟩:=wc.at_ j v hv;obtain rfl:=iw ki
   exact hc) hg G (by rw[g7];exact vi)
 unfold Oper.wp;simp only[execOp,ho,resolve,invoke,builtin,jm,lv,jk,rf,kv,qi,hs.ev hx,hs.ev hy,ld,Oper.upon];have l8:=grownCap_ge w (m+k) c e;have mj:=Fj w (m+k) c e (by unfold maxLen;omega)
 have hcs:((ints kk l).toArray++(ints kk l2).toArray++Builtin.zeroCells z.cells (grownCap w (m+k) c e-(m+k))).size=m+k+(Builtin.zeroCells z.cells (grownCap w (m+k) c e-(m+k))).size:=by
  simp only[Array.size_append,pz,vj,po]
 have hzs:z.cells.size=1->(Builtin.zeroCells z.cells (grownCap w (m+k) c e-(m+k))).size=grownCap w (m+k) c e-(m+k):=λh=>by
  simp[Builtin.zeroCells,h]
 have hsz:((ints kk l).toArray++(ints kk l2).toArray++Builtin.zeroCells z.cells (grownCap w (m+k) c e-(m+k))).size=grownCap w (m+k) c e:=by rw[hcs,hzs hz];omega
 have lz:=(hp.drawn (w.drawn+1) G).newC ((ints kk l).toArray++(ints kk l2).toArray++Builtin.zeroCells z.cells (grownCap w (m+k) c e-(m+k))) e (m+k) (by rw[hsz];exact l8) (by rw[hsz];exact mj)
 have g6:((ints kk l).toArray++(ints kk l2).toArray++Builtin.zeroCells z.cells (grownCap w (m+k) c e-(m+k))).toList.take (m+k)=ints kk (l++l2):=by
  rw[um,um];show(ints kk l++ints kk l2++_).take (m+k)=_;rw[Eb (by rw[ah,vj,po])];simp[ints]
 rw[g6,hsz] at lz;exact hk _ _ _ lz ⟨_,_,rfl,rfl⟩
end
end Go.Eng
