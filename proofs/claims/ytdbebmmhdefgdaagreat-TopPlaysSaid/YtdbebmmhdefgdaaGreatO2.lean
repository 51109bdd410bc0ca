/- Own work. -/
import Derived.Lib.BytesEntry
import Derived.Lib.AppendZeros
import Derived.Lib.MakeNoZero
import Derived.Laws.Externs
import Derived.Stop.BytesEq
import Derived.LoopNIn
import Derived.Test.YtdbebmmhdefgdaaGreatO1
set_option linter.unusedVariables false
set_option linter.unusedSimpArgs false
set_option maxHeartbeats 8000000
namespace Go.Pure
open Go Go.Eng
variable {l ks order keys at_:AH} {n:Nat} {i k c x m:Int}
theorem bM {m:AH} (hl:l.length=m.length) (h: ∀j:Int,0<=j->j<l.length->rd l j=rd m j):l=m:=by
 apply xg hl;intro i h1 h2;have:=h i G G;unfold rd at this;rw[cz,ak,ak,av h1,av h2] at this;exact this
theorem gY {f:Nat->Int} (h0:0<=i) (h:i<n):rd ((List.range n).map f) i=f i.toNat:=by
 unfold rd;rw[ak,tq,Al G];rfl
theorem pV:rd (List.replicate n 0) i=0:=by
 unfold rd;rw[ak,Aq];split<;>rfl
def eG (ks:AH) (k:Int):AH:=(List.range k.toNat).map λc:Nat=>((ks.filter λx=>decide (x=(c:Int))).length:Int)
theorem eB (ks:AH) (k:Int):(eG ks k).length=k.toNat:=by simp[eG]
theorem aDd (k:Int):eG [] k=List.replicate k.toNat 0:=by
 unfold eG;simp only[List.filter_nil,jl];apply xg cD;intro i h1 h2;simp
theorem CB (h0:0<=c) (h:c<k):rd (eG ks k) c=((ks.filter λx=>decide (x=c)).length:Int):=by
 unfold eG;rw[gY h0 G];rw[show((c.toNat:Nat):Int)=c by omega]
theorem TN (h0:0<=x) (h:x<k):upd (eG ks k) x (rd (eG ks k) x+1)=eG (ks++[x]) k:=by
 refine bM (by rw[aY,eB,eB]) λj h1 h2=> ?_;rw[aY,eB] at h2;rw[gG h0 h1 (by rw[eB];omega),CB (ks:=ks++[x]) h1 G,ui,ah];by_cases e:j=x
 ·subst e;rw[df rfl,CB h1 G];simp
 ·rw [bz e,CB h1 G]
  have:([x].filter λy=>decide (y=j))=[]:=by
   rw[ll (by simp;exact λh=>e h.symm)];rfl
  rw[this];simp
def dF (cs:AH):AH:=(List.range cs.length).map λi:Nat=>ps cs i
theorem fG (cs:AH):(dF cs).length=cs.length:=by simp[dF]
theorem nU {cs:AH} (h0:0<=i) (h:i<cs.length):rd (dF cs) i=ps cs i:=by
 unfold dF;rw[gY h0 h];rw[show((i.toNat:Nat):Int)=i by omega]
def dZ (order keys:AH) (c:Int):AH:=order.filter λi=>decide (rd keys i=c)
def dC (order keys:AH):Nat->AH
 |0=>[]
 |c+1=>dC order keys c++dZ order keys c
theorem lQ (h:rd keys i=c):dZ (order++[i]) keys c=dZ order keys c++[i]:=by
 unfold dZ;rw[ui,qa (by simpa using h)];rfl
theorem oC (h:rd keys i≠c):dZ (order++[i]) keys c=dZ order keys c:=by
 unfold dZ;rw[ui,ll (by simpa using h)];simp
theorem yR (order keys:AH) (c:Int) (m:Nat):(dZ (order.take m) keys c).length<=(dZ order keys c).length:=
 ((List.take_sublist m order).filter _).length_le
theorem aQm (order keys:AH) (h0:0<=c) (h:c<k):rd (eG (order.map (rd keys)) k) c=(dZ order keys c).length:=by
 rw[CB h0 h,List.filter_map,cu];rfl
theorem FN (order keys:AH) {k:Int}: ∀c:Nat,(c:Int)<=k->ps (eG (order.map (rd keys)) k) c=(dC order keys c).length
 |0,_=>rfl
 |c+1,h=>by
  rw[show((c+1:Nat):Int)=(c:Int)+1 by omega,lN G (by rw[eB];omega),FN order keys c G,aQm order keys G G];rw[dC,ah];omega
theorem zO (order keys:AH) {c d:Nat} (h:c<d):(dC order keys c).length+(dZ order keys c).length<=(dC order keys d).length:=by
 induction d with
 |zero=>omega
 | succ d ih=>
  rw[dC,ah];rcases fo c d with a|a
  ·have:=ih a;omega
  ·have:c=d:=G
   subst this;omega
theorem nW {order:AH} {k:Nat} (hk: ∀i∈order,0<=rd keys i/\rd keys i<k):(dC order keys k).Perm order:=by
 have Wx: ∀c:Nat,(dC order keys c).Perm (order.filter λi=>decide (0<=rd keys i/\rd keys i<c)):=by
  intro c
  induction c with
  | zero=>
   have:(order.filter λi=>decide (0<=rd keys i/\rd keys i<(0:Nat)))=[]:=by
    rw[List.filter_eq_nil_iff];intro i _;simp only[yx];omega
   rw[this];exact .refl _
  | succ c ih=>
   rw[dC];refine(ih.append_right _).trans ?_;unfold dZ
   have e:order.filter (λi=>decide (rd keys i=(c:Int)))=(order.filter λi=>decide (0<=rd keys i/\rd keys i<(c+1:Nat))).filter (λi=> ! decide (0<=rd keys i/\rd keys i<(c:Int))):=by
    rw[List.filter_filter];refine List.filter_congr λi _=> ?_;by_cases h:rd keys i=(c:Int)
    ·rw [mh h,mh (show 0<=rd keys i/\rd keys i<((c+1:Nat):Int) by omega),mr (show¬(0<=rd keys i/\rd keys i<(c:Int)) by omega)];rfl
    ·rw [mr h];by_cases h2:0<=rd keys i/\rd keys i<(c:Int)
     ·rw[mh h2];simp
     ·rw[mr (show¬(0<=rd keys i/\rd keys i<((c+1:Nat):Int)) by omega)];simp
   have e2:order.filter (λi=>decide (0<=rd keys i/\rd keys i<(c:Nat)))=(order.filter λi=>decide (0<=rd keys i/\rd keys i<(c+1:Nat))).filter (λi=>decide (0<=rd keys i/\rd keys i<(c:Int))):=by
    rw[List.filter_filter];refine List.filter_congr λi _=> ?_;by_cases h2:0<=rd keys i/\rd keys i<(c:Int)
    ·rw[mh h2,mh (show 0<=rd keys i/\rd keys i<((c+1:Nat):Int) by omega)];rfl
    ·rw[mr h2];rfl
   rw[e,e2];exact List.filter_append_perm _ _
 have:=Wx k;rwa[Fj.2 (λi hi=>by rw[iv];exact hk i hi)] at this
theorem aAm {order keys l:AH}: ∀k:Nat,(dC order keys k).length<=l.length->(∀c:Nat,c<k-> ∀t:Nat,t<(dZ order keys c).length->rd l ((dC order keys c).length+t)=rd (dZ order keys c) t)->l.take (dC order keys k).length=dC order keys k
 |0,_,_=>rfl
 |k+1,hl,h=>by
  have ih:=aAm (order:=order) (keys:=keys) (l:=l) k (by rw[dC,ah] at hl;omega) λc hc=>h c G;rw[dC,ah] at hl ⊢;rw[Hw,ih];congr 1;refine bM (by rw[ax,az];omega) λj h1 h2=> ?_;rw[ax,az] at h2;have:=h k G j.toNat G;rw[show((j.toNat:Nat):Int)=j by omega] at this;rw[<-this];unfold rd;rw[ak,ak,og,df G,qm];congr 2;omega
structure EM (order keys at_ l:AH) (k:Int) (m:Int):Prop where
 len:l.length=order.length
 alen:at_.length=k.toNat
 at_: ∀c:Int,0<=c->c<k->rd at_ c=(dC order keys c.toNat).length+(dZ (order.take m.toNat) keys c).length
 row: ∀c:Int,0<=c->c<k-> ∀t:Int,0<=t->t<(dZ (order.take m.toNat) keys c).length->rd l ((dC order keys c.toNat).length+t)=rd (dZ (order.take m.toNat) keys c) t
theorem aFs:EM order keys (dF (eG (order.map (rd keys)) k)) (List.replicate order.length 0) k 0:=by
 refine⟨cD,by rw[fG,eB],λc h0 h=> ?_,λc _ _ t _ ht=> ?_⟩
 ·rw [nU h0 (by rw[eB];omega)];have:=FN order keys (k:=k) c.toNat G;rw[show((c.toNat:Nat):Int)=c by omega] at this;rw[this];simp[dZ]
 ·simp [dZ] at ht;omega
theorem xX {order:AH} (hk: ∀i∈order,0<=rd keys i/\rd keys i<k):(dC order keys k.toNat).length=order.length:=(nW (k:=k.toNat) λi hi=>by have:=hk i hi;omega).length_eq
theorem EM.lt {order:AH} (h:EM order keys at_ l k m) (hk: ∀i∈order,0<=rd keys i/\rd keys i<k) (h0:0<=m) (hm:m<order.length):0<=rd at_ (rd keys (rd order m))/\rd at_ (rd keys (rd order m))<l.length:=by
 have hi:=hk _ (bJ h0 hm);rw[h.at_ _ hi.1 hi.2,h.len];have e:order.take (m+1).toNat=order.take m.toNat++[rd order m]:=dH h0 hm;have h1:=yR order keys (rd keys (rd order m)) (m+1).toNat;rw[e,lQ rfl,ah,gq] at h1;have h2:=zO order keys (c:=(rd keys (rd order m)).toNat) (d:=k.toNat) G;rw[xX hk,show(((rd keys (rd order m)).toNat:Nat):Int)=rd keys (rd order m) by omega] at h2;omega
theorem EM.step {order:AH} (h:EM order keys at_ l k m) (hk: ∀i∈order,0<=rd keys i/\rd keys i<k) (h0:0<=m) (hm:m<order.length):EM order keys (upd at_ (rd keys (rd order m)) (rd at_ (rd keys (rd order m))+1)) (upd l (rd at_ (rd keys (rd order m))) (rd order m)) k (m+1):=by
 have hi:=hk _ (bJ h0 hm);have bc:=h.lt hk h0 hm;have e:order.take (m+1).toNat=order.take m.toNat++[rd order m]:=dH h0 hm;have rg:=h.at_ _ hi.1 hi.2;refine⟨by rw[aY];exact h.len,by rw[aY];exact h.alen,λc c0 c1=> ?_,λc c0 c1 t t0 t1=> ?_⟩
 ·rw [gG hi.1 c0 (by rw[h.alen];omega),e];by_cases hc:c=rd keys (rd order m)
  ·rw [df hc,rg,lQ hc.symm,ah,hc];simp only[gq];omega
  ·rw[bz hc,h.at_ c c0 c1,oC λh=>hc h.symm]
 ·rw [e] at t1 ⊢;have Nf: ∀c:Int,(dZ (order.take m.toNat++[rd order m]) keys c).length<=(dZ order keys c).length:=λc=>by rw[<-e];exact yR _ _ _ _
  rw[gG bc.1 G bc.2,rg];by_cases hc:c=rd keys (rd order m)
  ·subst hc;rw[lQ rfl] at t1 ⊢;rw[ah,gq] at t1;by_cases ht:t=(dZ (order.take m.toNat) keys (rd keys (rd order m))).length
   ·rw[df G,QA ht]
   ·rw [bz G,LW t0 G];exact h.row _ c0 c1 t t0 G
  ·rw [oC λh=>hc h.symm] at t1 ⊢;rw[bz,h.row c c0 c1 t t0 t1];intro j8;have f1:=Nf c;rw[oC λh=>hc h.symm] at f1;have f2:=Nf (rd keys (rd order m));rw[lQ rfl,ah,gq] at f2;rcases Int.lt_or_lt_of_ne hc with a|a
   ·have:=zO order keys (c:=c.toNat) (d:=(rd keys (rd order m)).toNat) G;rw[show((c.toNat:Nat):Int)=c by omega] at this;omega
   ·have:=zO order keys (c:=(rd keys (rd order m)).toNat) (d:=c.toNat) G;rw[show(((rd keys (rd order m)).toNat:Nat):Int)=rd keys (rd order m) by omega] at this;omega
theorem EM.done {order:AH} (h:EM order keys at_ l k m) (hk: ∀i∈order,0<=rd keys i/\rd keys i<k) (hm:m=order.length):l=dC order keys k.toNat:=by
 have ht:order.take m.toNat=order:=bg G
 have:=aAm (order:=order) (keys:=keys) (l:=l) k.toNat (by rw[xX hk,h.len];exact di _) λc hc t Vz=>by
  have hr:=h.row c G G t G;rw[ht] at hr;exact hr G
 rw[xX hk,<-h.len,ve] at this;exact this
theorem iB {order keys:AH} {r:Int->Int->Prop} (ho:order.Pairwise r): ∀k:Nat,(dC order keys k).Pairwise λx y=>rd keys x<rd keys y\/rd keys x=rd keys y/\r x y
 |0=> .nil
 | k +1=>by
  rw[dC];refine kz.2 ⟨iB ho k,?_,λx hx y hy=> ?_⟩
  ·refine ((ho.sublist (ul ..)).imp_of_mem λ{x y} hx hy h=> ?_:(dZ order keys k).Pairwise _);have h1:=(ol.1 hx).2;have h2:=(ol.1 hy).2;rw[iv] at h1 h2;exact .inr ⟨G,h⟩
  ·have h2:=(ol.1 hy).2;rw[iv] at h2
   have: ∀c:Nat,∀z∈dC order keys c,rd keys z<c:=by
    intro c
    induction c with
    |zero=>intro z hz;cases hz
    | succ c ih=>
     intro z hz;rw[dC] at hz;rcases gp.1 hz with hz|hz
     ·have:=ih z hz;omega
     ·have h3:=(ol.1 hz).2;rw[iv] at h3;omega
   have:=this k x hx;exact .inl G
theorem OC:0<=rd (eG ks k) x/\rd (eG ks k) x<=ks.length:=by
 by_cases h:x.toNat<k.toNat
 ·have e:rd (eG ks k) x=((ks.filter λy=>decide (y=(x.toNat:Int))).length:Int):=by
   unfold rd eG;rw[ak,tq,Al h];rfl
  have:=zt (λy=>decide (y=(x.toNat:Int))) ks;omega
 ·have e:rd (eG ks k) x=0:=by
   unfold rd;rw[ak,mo (by rw[eB];omega)];rfl
  omega
theorem zH: ∀ {L:AH},(∀x∈L,0<=x)->0<=L.sum
 |[],_=>cD
 |x::L,h=>by
  have a:=h x cD;have b:=zH (L:=L) λy hy=>h y (fe _ hy);rw[ym];omega
theorem wF {L:AH} (h: ∀x∈L,0<=x) (k:Int):0<=ps L k/\ps L k<=L.sum:=by
 have e:L.sum=(L.take k.toNat).sum+(L.drop k.toNat).sum:=by rw[<-Cn,gu]
 have a:=zH (L:=L.take k.toNat) λy hy=>h y (mg hy);have b:=zH (L:=L.drop k.toNat) λy hy=>h y (pq hy);unfold ps;omega
theorem mH (ks:AH) (k:Int): ∀x∈eG ks k,0<=x:=by
 intro x hx;obtain⟨c,_,rfl⟩:=iy.1 hx;omega
theorem OB {order:AH} (h0:0<=k) (hk: ∀i∈order,0<=rd keys i/\rd keys i<k):(eG (order.map (rd keys)) k).sum=order.length:=by
 have:=FN order keys (k:=k) k.toNat G;rw[aFq (by rw[eB];omega),xX hk] at this;exact this
theorem eP {V:AH} {f:Int->Int} {v:Int} (h0:0<=i) (hi:i<V.length) (h: ∀j:Int,0<=j->j<i->rd V j=f j) (hv:v=f i): ∀j:Int,0<=j->j<i+1->rd (upd V i v) j=f j:=by
 intro j j0 j1;rw[gG h0 j0 hi];by_cases e:j=i
 ·rw[df e,e,hv]
 ·rw [bz e];exact h j j0 G
variable {n k b h:Nat} {x i y j:Int} {s U out:AH}
def iota (n:Nat):AH:=(List.range n).map λi:Nat=>(i:Int)
theorem bB (n:Nat):(iota n).length=n:=by simp[iota]
theorem aZ:x∈iota n↔0<=x/\x<n:=by
 unfold iota;rw[iy];constructor
 ·rintro ⟨i,hi,rfl⟩;have:=jq.1 hi;omega
 ·intro h;exact⟨x.toNat,jq.2 G,G⟩
theorem FW {n:Int} (h:0<=n):iota (n+1).toNat=iota n.toNat++[n]:=by
 unfold iota;rw[show(n+1).toNat=n.toNat+1 by omega,zw,jo];simp only[lm,si];rw[show((n.toNat:Nat):Int)=n by omega]
theorem aGl (n:Nat):(iota n).map Int.toNat=List.range n:=by
 unfold iota;rw[zg];have:(Int.toNat ∘ λi:Nat=>(i:Int))=id:=by funext i;simp
 rw[this,List.map_id]
def bU (s:AH) (x y:Int):Prop:=LtH s.length (eu s x.toNat) (eu s y.toNat)
theorem gH (x y:Int) (h:bU s x y): ¬bU s y x:=h.asymm
theorem zP (x y z:Int) (h:bU s x y) (h':bU s y z):bU s x z:=LtH.trans h h'
theorem aGx {i:Nat} (hi:i<s.length) (hk:k<s.length) (h:EqH s.length (eu s i) (eu s k)):i=k:=by
 rcases vo i k with a|a|a
 ·have:=h (s.length-k) G;rw[jH (s:=s) (i:=k) G] at this;have:=sF (s:=s) (i:=i) (d:=s.length-k) G;omega
 ·exact a
 ·have:=h (s.length-i) G;rw[jH (s:=s) (i:=i) G] at this;have:=sF (s:=s) (i:=k) (d:=s.length-i) G;omega
theorem CO (hx:0<=x/\x<s.length) (hy:0<=y/\y<s.length) (h:x≠y):bU s x y\/bU s y x:=by
 rcases tri s.length (eu s x.toNat) (eu s y.toNat) with a|a|a
 ·exact .inl a
 ·have:=aGx G G a;omega
 ·exact .inr a
theorem gM:cmpL (s.drop x.toNat) (s.drop y.toNat)<0↔bU s x y:=by
 unfold bU;rw[<-xB];unfold sZ;rw[bg (by rw[az];omega),bg (by rw[az];omega)]
theorem aBl {r:Int->Int->Prop} (tr: ∀x y z,r x y->r y z->r x z) {l:AH} (hs:l.Pairwise r) (ue:0<=j) (hj:j<=l.length) (wd: ∀i:Int,j<=i->i<l.length->r x (rd l i)) (h:0<j->r (rd l (j-1)) x):(l.take j.toNat++[x]++l.drop j.toNat).Pairwise r:=by
 have jj: ∀i:Nat,∀h:i<l.length,rd l i=l[i]:=λi h=>by
  unfold rd;rw[cz,ak,av h];rfl
 have ee:(l.take j.toNat++l.drop j.toNat).Pairwise r:=by rw[gu];exact hs
 obtain⟨a,b,c⟩:=kz.1 ee;refine kz.2 ⟨kz.2 ⟨a,qb _ _,λy hy z hz=> ?_⟩,b,λy hy z hz=> ?_⟩
 ·obtain rfl:=ib.1 hz;obtain⟨i,hi,rfl⟩:=gz.1 hy;rw[ax] at hi;rw[yu];have hl:=h G;rw[show j-1=((j.toNat-1:Nat):Int) by omega,jj _ G] at hl;rcases fo i (j.toNat-1) with d|d
  ·exact tr _ _ _ (dn.1 hs i (j.toNat-1) G G d) hl
  ·have:i=j.toNat-1:=G
   subst this;exact hl
 ·rcases gp.1 hy with hy|hy
  ·exact c y hy z hz
  ·obtain rfl:=ib.1 hy;obtain⟨i,hi,rfl⟩:=gz.1 hz;rw[az] at hi;rw[Bh];have:=wd ((j.toNat+i:Nat):Int) G G;rwa[jj _ G] at this
theorem aWl (aw:0<=i) (hi:i<s.length) (hp:U.Perm (iota i.toNat)) (hs:U.Pairwise (bU s)) (ue:0<=j) (hj:j<=U.length) (wd: ∀q:Int,j<=q->q<U.length->bU s i (rd U q))
  (h: ¬(0<j/\cmpL (s.drop i.toNat) (s.drop (rd U (j-1)).toNat)<0)):(U.take j.toNat++[i]++U.drop j.toNat).Perm (iota (i+1).toNat)/\(U.take j.toNat++[i]++U.drop j.toNat).Pairwise (bU s):=by
 refine⟨?_,aBl (λx y z=>zP x y z) hs ue hj wd λh0=> ?_⟩
 ·rw [FW aw];exact aBk.trans (Dh _ hp)
 ·have hm:=aZ.1 (hp.subset (bJ (L:=U) (k:=j-1) G G));rcases CO (s:=s) (x:=rd U (j-1)) (y:=i) G G G with a|a
  ·exact a
  ·exact absurd ⟨h0,gM.2 a⟩ h
theorem aPf (wd: ∀q:Int,j<=q->q<U.length->bU s i (rd U q)) (h:0<j/\cmpL (s.drop i.toNat) (s.drop (rd U (j-1)).toNat)<0): ∀q:Int,j-1<=q->q<U.length->bU s i (rd U q):=by
 intro q h1 h2;rcases bn q j with a|a
 ·have:q=j-1:=G
  subst this;exact gM.1 h.2
 ·exact wd q a h2
theorem uK {a b:AH} (ha:a.Perm (iota s.length)) (hb:b.Perm (iota s.length)) (sa:a.Pairwise (bU s)) (sb:b.Pairwise (bU s)):a=b:=
 FP gH (ha.trans hb.symm) sa sb
theorem BQ {i:Nat} (hi:i<s.length):rkS s h i<s.length:=by
 have:rkS s h i<(List.range s.length).countP λ_=>true:=sH (λ_ _ _=>rfl) ⟨i,jq.2 hi,by rw[sj,xB];exact λh=>h.asymm h,rfl⟩;simpa using this
theorem bBq {i:Nat} (hi:i<s.length) (hk:k<s.length) (h:rkS s s.length i=rkS s s.length k):i=k:=aGx hi hk ((aJq hi hk).1 h)
theorem aJp {o:AH} (hp:o.Perm (iota s.length)) (hs:o.Pairwise λx y=>rkS s h x.toNat<=rkS s h y.toNat) (h0:0<=i) (hi:i<o.length) (Ph:0<i->rkS s h (rd o (i-1)).toNat≠rkS s h (rd o i).toNat):(rkS s h (rd o i).toNat:Int)=i:=by
 have jj: ∀j:Nat,∀h:j<(o.map Int.toNat).length,(o.map Int.toNat)[j]=(rd o j).toNat:=λj h=>by
  rw[cu] at h;unfold rd;rw[cz,ak,av h];simp
 have hl:i.toNat<(o.map Int.toNat).length:=by rw[cu];omega
 have cm:(o.map Int.toNat).Perm (List.range s.length):=by
  have:=hp.map Int.toNat;rwa[aGl] at this
 have:=bHu (s:=s) (h:=h) (o:=o.map Int.toNat) (i:=i.toNat) cm (iw.2 hs) hl λhz=>by
  rw[jj _ G,jj _ hl];have:=Ph G;rwa[show((i.toNat-1:Nat):Int)=i-1 by omega,show((i.toNat:Nat):Int)=i by omega]
 rw[jj _ hl,show((i.toNat:Nat):Int)=i by omega] at this;omega
theorem places {b:AH} (hp:b.Perm (iota s.length)) (hs:b.Pairwise (bU s)) (hl:out.length=s.length) (h: ∀i:Nat,i<s.length->rd out (rkS s s.length i)=i):out=b:=by
 have j6:b.length=s.length:=by rw[hp.length_eq,bB]
 refine bM (hl.trans j6.symm) λj h0 h1=> ?_;have hm: ∀q:Int,0<=q->q<b.length->0<=rd b q/\rd b q<s.length:=λq a c=>aZ.1 (hp.subset (bJ a c))
 have pv:b.Pairwise λx y=>rkS s s.length x.toNat<=rkS s s.length y.toNat:=hs.imp_of_mem λ{x y} hx hy h=>by
  have:=aZ.1 (hp.subset hx);exact Nat.le_of_lt ((vX G).2 h)
 have bc: ∀q:Int,0<q->q<b.length->bU s (rd b (q-1)) (rd b q):=λq a c=>by
  have:=dn.1 hs (q-1).toNat q.toNat G G G;unfold rd;rw[ak,ak,av G,av G];exact this
 have hr:=aJp (i:=j) hp pv h0 G λhz=>by
  have:=(vX (by have:=hm (j-1) G G;omega)).2 (bc j hz G);omega
 have hj:=hm j h0 G;have:=h (rd b j).toNat G;rw[hr] at this;rw[this];omega
theorem aAe {m:Nat} (hm:m<s.length) (hl:out.length=s.length) (h: ∀i:Nat,i<m->rd out (rkS s s.length i)=i): ∀i:Nat,i<m+1->rd (upd out (rkS s s.length m) m) (rkS s s.length i)=i:=by
 intro i hi;have ht:=BQ (h:=s.length) hm;rw[gG G G G];by_cases e:i=m
 ·subst e;rw[df rfl]
 ·rw[bz λhh=>e (bBq G hm G),h i G]
theorem bHt {i:Nat} (hi:i<s.length):rkS s 1 i=s.countP λx=>decide (x<lt s i):=by
 unfold rkS
 have e: ∀k,k<s.length->sZ s k 1=[lt s k]:=λk hk=>by
  unfold sZ;rw[kv hk,Fp,yc];unfold lt;rw[ak,av hk];rfl
 have h1:(List.range s.length).countP (λk=>decide (cmpL (sZ s k 1) (sZ s i 1)<0))=(List.range s.length).countP ((λx=>decide (x<lt s i)) ∘ lt s):=by
  refine Gx λk hk=> ?_;rw[e k (jq.1 hk),e i hi];show decide (cmpL [lt s k] [lt s i]<0)=true↔decide (lt s k<lt s i)=true;rw[iv,iv];simp only[cmpL];by_cases a:lt s k<lt s i
  ·rw [df a];exact⟨λ_=>a,λ_=>G⟩
  ·rw [bz a];by_cases b:lt s i<lt s k
   ·rw [df b];exact⟨λh=>G,λh=>absurd h a⟩
   ·rw [bz b];exact⟨λh=>G,λh=>absurd h a⟩
 rw[h1,<-List.countP_map];congr 1;apply xg cD;intro k h1 h2;simp[lt,ak,av h2]
def rkL (s:AH) (h:Nat):AH:=(List.range s.length).map λi=>(rkS s h i:Int)
theorem BS (s:AH) (h:Nat):(rkL s h).length=s.length:=by simp[rkL]
theorem qR (h0:0<=i) (hi:i<s.length):rd (rkL s h) i=rkS s h i.toNat:=gY h0 G
def onL (s:AH) (n b:Nat):AH:=(List.range s.length).map λi=>(sN s n (i+b):Int)
theorem aKe (s:AH) (n b:Nat):(onL s n b).length=s.length:=by simp[onL]
theorem vY (h0:0<=i) (hi:i<s.length):rd (onL s n b) i=sN s n (i.toNat+b):=gY h0 G
theorem aJr {i:Nat}:sN s n i<=s.length:=by
 unfold sN;split
 ·rename_i h;have:=BQ (h:=n) h;omega
 ·omega
def dG (s:AH) (n b:Nat):AH:=dC (dC (iota s.length) (onL s n b) (s.length+1)) (rkL s n) s.length
theorem uO (s:AH) (n b:Nat):(dC (iota s.length) (onL s n b) (s.length+1)).Perm (iota s.length):=
 nW λi hi=>by
  have:=aZ.1 hi;rw[vY this.1 this.2];have:=aJr (s:=s) (n:=n) (i:=i.toNat+b);omega
theorem gI (s:AH) (n b:Nat):(dG s n b).Perm (iota s.length):=
 (nW λi hi=>by
  have:=aZ.1 ((uO s n b).subset hi);rw[qR this.1 this.2];have:=BQ (s:=s) (h:=n) (i:=i.toNat) G
  omega).trans (uO s n b)
theorem IB (hn:0<n) (hb:b<=n):(dG s n b).Pairwise λx y=>rkS s (n+b) x.toNat<=rkS s (n+b) y.toNat:=by
 have h1:(dC (iota s.length) (onL s n b) (s.length+1)).Pairwise λx y=>rd (onL s n b) x<rd (onL s n b) y\/rd (onL s n b) x=rd (onL s n b) y/\True:=
  iB (r:=λ_ _=>True) (List.pairwise_of_forall λ_ _=>trivial) _
 have h2:=iB (keys:=rkL s n) h1 s.length;refine h2.imp_of_mem λ{x y} hx hy h=> ?_;have mx:=aZ.1 ((gI s n b).subset hx);have my:=aZ.1 ((gI s n b).subset hy);rw[qR mx.1 mx.2,qR my.1 my.2,vY mx.1 mx.2,vY my.1 my.2] at h;refine Ir.1 λbc=> ?_;rw[aFe hn hb G G] at bc;omega
theorem join_step {v:Int} (hn:0<n) (hb:b<=n) (h0:0<=i) (hi:i<s.length) (hl:out.length=s.length) (h: ∀p:Int,0<=p->p<i->rd out (rd (dG s n b) p)=rkS s (n+b) (rd (dG s n b) p).toNat)
  (hv:(0<i/\rd (rkL s n) (rd (dG s n b) (i-1))=rd (rkL s n) (rd (dG s n b) i)/\rd (onL s n b) (rd (dG s n b) (i-1))=rd (onL s n b) (rd (dG s n b) i)/\v=rkS s (n+b) (rd (dG s n b) (i-1)).toNat)\/
   (¬(0<i/\rd (rkL s n) (rd (dG s n b) (i-1))=rd (rkL s n) (rd (dG s n b) i)/\rd (onL s n b) (rd (dG s n b) (i-1))=rd (onL s n b) (rd (dG s n b) i))/\v=i)):
  ∀p:Int,0<=p->p<i+1->rd (upd out (rd (dG s n b) i) v) (rd (dG s n b) p)=rkS s (n+b) (rd (dG s n b) p).toNat:=by
 have hlen:(dG s n b).length=s.length:=by rw[(gI s n b).length_eq,bB]
 have hm: ∀q:Int,0<=q->q<s.length->0<=rd (dG s n b) q/\rd (dG s n b) q<s.length:=λq a c=>aZ.1 ((gI s n b).subset (bJ a G))
 have hnd:(dG s n b).Nodup:=(gI s n b).symm.nodup (by
  unfold iota
  exact iw.2 (xh.imp λ{x y} h hh=>h G))
 have hval:v=rkS s (n+b) (rd (dG s n b) i).toNat:=by
  have mi:=hm i h0 hi;rcases hv with⟨hz,e1,e2,e3⟩|⟨mn,e3⟩
  ·have mp:=hm (i-1) G G;rw[qR mp.1 mp.2,qR mi.1 mi.2] at e1;rw[vY mp.1 mp.2,vY mi.1 mi.2] at e2;rw[e3];have:=(LH (s:=s) (n:=n) (b:=b) (i:=(rd (dG s n b) (i-1)).toNat) (k:=(rd (dG s n b) i).toNat) hn hb G G).2 ⟨G,G⟩;omega
  ·rw [e3];refine(aJp (gI s n b) (IB hn hb) h0 G λhz he=>mn ⟨hz,?_⟩).symm;have mp:=hm (i-1) G G;have:=(LH (s:=s) (n:=n) (b:=b) (i:=(rd (dG s n b) (i-1)).toNat) (k:=(rd (dG s n b) i).toNat) hn hb G G).1 he;rw[qR mp.1 mp.2,qR mi.1 mi.2,vY mp.1 mp.2,vY mi.1 mi.2];exact⟨G,G⟩
 intro p p0 p1;have mi:=hm i h0 hi;have mp:=hm p p0 G;rw[gG mi.1 mp.1 G];by_cases e:p=i
 ·subst e;rw[df rfl,hval]
 ·rw [bz,h p p0 G];intro he;have cm:p.toNat<(dG s n b).length:=G
  have Ng:i.toNat<(dG s n b).length:=G
  unfold rd at he;rw[ak,ak,av cm,av Ng] at he;simp only[oh] at he;exact(dn.1 hnd p.toNat i.toNat cm Ng G) he
theorem aPb (hl:out.length=s.length) (h: ∀p:Int,0<=p->p<s.length->rd out (rd (dG s n b) p)=rkS s (n+b) (rd (dG s n b) p).toNat):out=rkL s (n+b):=by
 refine bM (hl.trans (BS _ _).symm) λj h0 h1=> ?_;have gd:=(gI s n b).symm.subset (aZ.2 ⟨h0,G⟩:j∈iota s.length);obtain⟨q,hq,e⟩:=gz.1 gd;have hlen:(dG s n b).length=s.length:=by rw[(gI s n b).length_eq,bB]
 have:=h q G G
 have e2:rd (dG s n b) q=j:=by
  unfold rd;rw[cz,ak,av hq];exact e
 rw[e2] at this;rw[this,qR h0 G]
def onF (l:AH) (i h:Int):Int:=if (l.length:Int)<=i+h then 0 else rd l (i+h)+1
theorem bIj {s:AH} {n b:Nat} {i:Int} (h0:0<=i) (hi:i<s.length):onF (rkL s n) i b=sN s n (i.toNat+b):=by
 unfold onF sN;rw[BS];by_cases h:(s.length:Int)<=i+b
 ·rw [df h,bz G];rfl
 ·rw [bz h,df G,qR G G,show(i+(b:Int)).toNat=i.toNat+b by omega];rfl
theorem aTk {s:AH} {h:Nat}: ∀x∈rkL s h,0<=x/\x<s.length:=by
 intro x hx;obtain⟨i,hi,rfl⟩:=iy.1 hx;have:=BQ (h:=h) (jq.1 hi);omega
theorem bIi {s:AH} {n b:Nat}: ∀x∈onL s n b,0<=x/\x<(s.length:Int)+1:=by
 intro x hx;obtain⟨i,hi,rfl⟩:=iy.1 hx;have:=aJr (s:=s) (n:=n) (i:=i+b);omega
theorem aKm {O:AH} {n:Nat} (hl:O.length=n) (h: ∀j:Int,0<=j->j<n->rd O j=j):O=iota n:=by
 refine bM (by rw[hl,bB]) λj h0 h1=> ?_;rw[h j h0 G];unfold iota;rw[gY h0 G];omega
theorem bIh {s O:AH} {n b:Nat} (hl:O.length=s.length) (h: ∀j:Int,0<=j->j<s.length->rd O j=sN s n (j.toNat+b)):O=onL s n b:=by
 refine bM (by rw[hl,aKe]) λj h0 h1=> ?_;rw[h j h0 G,vY h0 G]
theorem TC (s:AH) (n b:Nat):(dG s n b).length=s.length:=by rw[(gI s n b).length_eq,bB]
theorem gJ {s:AH} {n b:Nat} {p:Int} (h0:0<=p) (h:p<s.length):0<=rd (dG s n b) p/\rd (dG s n b) p<s.length:=
 aZ.1 ((gI s n b).subset (bJ h0 (by rw[TC];exact h)))
theorem aPc {s:AH} {n b:Nat} {p q:Int} (p0:0<=p) (p1:p<s.length) (q0:0<=q) (q1:q<s.length) (h:rd (dG s n b) p=rd (dG s n b) q):p=q:=by
 have hl:=TC s n b
 have hnd:(dG s n b).Nodup:=(gI s n b).symm.nodup (by
  unfold iota
  exact iw.2 (xh.imp λ{x y} h hh=>h G))
 have hp:p.toNat<(dG s n b).length:=G
 have hq:q.toNat<(dG s n b).length:=G
 unfold rd at h;rw[ak,ak,av hp,av hq] at h;simp only[oh] at h;rcases jd p q with a|a|a
 ·exact absurd h (dn.1 hnd p.toNat q.toNat hp hq G)
 ·exact a
 ·exact absurd h.symm (dn.1 hnd q.toNat p.toNat hq hp G)
theorem bAq {l:AH} {i a b:Int}:upd (upd l i a) i b=upd l i b:=by simp[upd]
section
variable {s V:AH} {n b:Nat} {p:Int}
theorem aGk (hn:0<n) (hb:b<=n) (h0:0<=p) (hp:p<s.length) (hl:V.length=s.length) (h: ∀q:Int,0<=q->q<p->rd V (rd (dG s n b) q)=rkS s (n+b) (rd (dG s n b) q).toNat)
  (hc: ¬((0<p/\rd (rkL s n) (rd (dG s n b) (p-1))=rd (rkL s n) (rd (dG s n b) p))/\rd (onL s n b) (rd (dG s n b) (p-1))=rd (onL s n b) (rd (dG s n b) p))):
  ∀q:Int,0<=q->q<p+1->rd (upd V (rd (dG s n b) p) p) (rd (dG s n b) q)=rkS s (n+b) (rd (dG s n b) q).toNat:=
 join_step hn hb h0 hp hl h (.inr ⟨λ⟨a,c,d⟩=>hc ⟨⟨a,c⟩,d⟩,rfl⟩)
theorem aPa (hn:0<n) (hb:b<=n) (h0:0<=p) (hp:p<s.length) (hl:V.length=s.length) (h: ∀q:Int,0<=q->q<p->rd V (rd (dG s n b) q)=rkS s (n+b) (rd (dG s n b) q).toNat)
  (hc:(0<p/\rd (rkL s n) (rd (dG s n b) (p-1))=rd (rkL s n) (rd (dG s n b) p))/\rd (onL s n b) (rd (dG s n b) (p-1))=rd (onL s n b) (rd (dG s n b) p)):
  ∀q:Int,0<=q->q<p+1->rd (upd (upd V (rd (dG s n b) p) p) (rd (dG s n b) p) (rd (upd V (rd (dG s n b) p) p) (rd (dG s n b) (p-1)))) (rd (dG s n b) q)=rkS s (n+b) (rd (dG s n b) q).toNat:=by
 obtain⟨⟨a,c⟩,d⟩:=hc;have m1:=gJ (s:=s) (n:=n) (b:=b) h0 hp;have m2:=gJ (s:=s) (n:=n) (b:=b) (p:=p-1) G G;rw[bAq,gG m1.1 m2.1 G,bz λe=>by have:=aPc G G h0 hp e;omega];exact join_step hn hb h0 hp hl h (.inl ⟨a,c,d,h (p-1) G G⟩)
end
theorem bBo (s:AH) (i:Nat):rkS s 0 i=0:=by
 unfold rkS;rw[Ca];intro k _;simp[sZ,cmpL]
theorem aTi (s:AH):rkL s 0=List.replicate s.length 0:=by
 unfold rkL;apply xg cD;intro i h1 h2;simp[bBo]
theorem bHv {s:AH} {h:Nat} (hh:s.length<=h):rkL s h=rkL s s.length:=by
 have e: ∀k,sZ s k h=sZ s k s.length:=λk=>by
  unfold sZ;rw[bg (by rw[az];omega),bg (by rw[az];omega)]
 unfold rkL rkS;simp only[e]
theorem aTj {s:AH} (h:s.length=0) (a b:Nat):rkL s a=rkL s b:=by
 unfold rkL;rw[h];rfl
theorem eH (n:Nat):(iota n).Nodup:=by
 unfold iota;exact iw.2 (xh.imp λ{x y} h hh=>h G)
theorem pW (s:AH): ∃b:AH,b.Perm (iota s.length)/\b.Pairwise (bU s):=by
 rcases ed s.length with z|z
 ·rw [z];exact⟨[], .refl _, .nil⟩
 ·refine ⟨dG s s.length 0,gI s _ 0,?_⟩;have h1:=IB (s:=s) (n:=s.length) (b:=0) z (qp _);have h2:(dG s s.length 0).Nodup:=(gI s _ 0).symm.nodup (eH _);refine(h1.and h2).imp_of_mem λ{x y} hx hy h=> ?_;have mx:=aZ.1 ((gI s _ 0).subset hx);have my:=aZ.1 ((gI s _ 0).subset hy);rcases CO mx my h.2 with a|a
  ·exact a
  ·exfalso;have:=(vX (s:=s) (h:=s.length) (i:=y.toNat) (k:=x.toNat) G).2 a;have:=h.1;simp only[qo] at this;omega
end Go.Pure
namespace Go.Eng
open Go Go.RowKit
def bools (l:List Bool):AG:=l.map Value.bool
def rdb (l:List Bool) (i:Int):Bool:=l.getD i.toNat false
def pU (l:List Bool) (i:Int) (v:Bool):List Bool:=l.set i.toNat v
theorem WZ (l:List Bool):(bools l).length=l.length:=by simp[bools]
theorem aQw (l:List Bool) (i:Int) (v:Bool):(bools l).set i.toNat (.bool v)=bools (pU l i v):=by simp[bools,pU,List.map_set]
theorem aZl {l:List Bool} {i:Int} (h0:0<=i) (h:i<l.length):(bools l)[i.toNat]? =some (.bool (rdb l i)):=by
 have hl:i.toNat<l.length:=G
 simp[bools,rdb,ak,av hl]
theorem aNm (m:Nat) (x:Bool):List.replicate m (Value.bool x)=bools (List.replicate m x):=by simp[bools]
theorem lG (l:List Bool) (i:Int) (v:Bool):(pU l i v).length=l.length:=by simp[pU]
theorem xS {l:List Bool} {i j:Int} {v:Bool} (h0:0<=i) (h:i<l.length) (j0:0<=j):rdb (pU l i v) j=if j=i then v else rdb l j:=by
 unfold rdb pU;rw[ak,xx,ak];by_cases e:j=i
 ·subst e;rw[df rfl,df G,df rfl];rfl
 ·rw[bz G,bz e]
theorem BX (m:Nat) (i:Int):rdb (List.replicate m false) i=false:=by
 unfold rdb;rw[ak,Aq];split<;>rfl
theorem aQx {l m:List Bool} (hl:l.length=m.length) (h: ∀i:Int,0<=i->i<l.length->rdb l i=rdb m i):l=m:=by
 apply xg hl;intro i h1 h2;have:=h i G G;simpa [rdb,ak,av h1,av h2] using this
section
variable {P:Program} {n:Nd} {B:Nat} {w0:World} {L:Env} {R:List Row} {ty:TypeId}
theorem Rd.lenB {w:World} {A:AF} {m c:Nat} {l:List Bool} (h:Rd w A m c 1 (bools l)):m=l.length:=by
 have:=h.len;rw[WZ] at this;omega
theorem AR {x:Operand} {t:TypeId} {d:TypeDesc} {A:AF} {m c:Nat} {l:List Bool} {i:Int} (hu:P.underlying t=some d) (hd:AA d=false) (hx:ev L x=some (.pointer (pat A i.toNat))) (hr:RdC B w0 R A m c 1 (bools l)) (h0:0<=i:=by omega) (h1:i<m:=by omega):
  Yl P n B w0 (.load t x) ty L R (.bool (decide (rdb l i=true))):=by
 intro a w o ho k9 hs hw;have hl:=(hr w hw).lenB;rw[show decide (rdb l i=true)=rdb l i by cases rdb l i<;>rfl];exact rF hu hd hx rfl hr (aZl h0 G) a w o ho k9 hs hw
theorem tJ {x y:Operand} {t e:TypeId} {j:Int} {v:Bool} {A:AF} {m c:Nat} {l:List Bool} (i:Nat) (hi:R[i]? =some ⟨e,1,A,m,c,bools l,false⟩) (gs:(P.info? t).map (·.size)=some 1) (hx:ev L x=some (.pointer (pat A j.toNat))) (hy:ev L y=some (.bool v)) (h0:0<=j:=by omega) (h1:j<m:=by omega):
  Ac P n B w0 (.store t x y) ty L R (λ_ R'=>R'=R.set i ⟨e,1,A,m,c,bools (pU l j v),false⟩):=by
 intro a w o K Q ho k9 hs hp hk;have ge:=Row.lies_w (hp.own _ (fw hi)) rfl;have jj:=Row.rd (hp.own _ (fw hi));have hl:=jj.len
 obtain⟨g,hA⟩: ∃g,A=some ⟨g,0,none⟩:=by
  rcases ge.2 with⟨_,hn⟩|⟨g,cap,cur,hv,_⟩
  ·simp only at hn;omega
  ·simp only[ku] at hv;exact⟨g,hv.1⟩
 have:=XF (P:=P) (n:=n) (B:=B) (w0:=w0) (ty:=ty) i hi rfl hA gs hx rfl hy rfl rfl (by rw[hl];simp only;omega);simp only[aQw] at this;exact this a w o K Q ho k9 hs hp hk
theorem KA {x y:Operand} {t e:TypeId} {bytes:Nat} {m:Int} (ht:P.underlying t=some (.slice e)) (dg:(P.info? e).map (λi=>(i.zero,i.size,i.bytes))=some (some (.bool false),1,bytes))
  (hx:ev L x=some (.int .i64 m)) (hy:ev L y=some (.int .i64 m)) (h0:0<=m) (hm:m*bytes<=281474976710656) (Kt:m<=9223372036854775807):
  Ac P n B w0 (.makeSlice t x y) ty L R (λv R'=> ∃g,v= .slice (some ⟨g,0,none⟩) m.toNat m.toNat/\R'=⟨e,1,some ⟨g,0,none⟩,m.toNat,m.toNat,bools (List.replicate m.toNat false),false⟩::R):=by
 have:=aLx (P:=P) (n:=n) (B:=B) (w0:=w0) (L:=L) (R:=R) (ty:=ty) ht dg rfl hx hy h0 hm Kt;simpa only[aNm] using this
end
end Go.Eng
namespace Go.Pure
open Go Go.Eng
def smB (s:AH) (i:Int):Bool:=decide (cmpL (s.drop i.toNat) (s.drop (i+1).toNat)<0)
theorem yY {a b:Int} {u v:AH}:cmpL (a::u) (b::v)<0↔a<b\/a=b/\cmpL u v<0:=by
 rw[cmpL];rcases jd a b with c|c|c
 ·rw[df c];exact⟨λ_=> .inl c,λ_=>G⟩
 ·subst c;rw[bz G,bz G];exact⟨λh=> .inr ⟨rfl,h⟩,λh=>h.elim (λh=>G) λh=>h.2⟩
 ·rw [bz G,df c];exact⟨λh=>G,λh=>h.elim (λh=>G) λh=>G⟩
theorem gT {s:AH} {i:Int} (h0:0<=i) (h:i<s.length):s.drop i.toNat=rd s i::s.drop (i+1).toNat:=iX h0 h
theorem xA {s:AH} {i:Int} (h:(s.length:Int)<=i):s.drop i.toNat=[]:=ou G
theorem nC {s:AH} {p q:Int} (p0:0<=p) (hp:p<s.length) (q0:0<=q) (hq:q<s.length):bU s p q↔rd s p<rd s q\/rd s p=rd s q/\cmpL (s.drop (p+1).toNat) (s.drop (q+1).toNat)<0:=by
 rw[<-gM,gT p0 hp,gT q0 hq,yY]
theorem qO {s:AH} {i:Int} (h0:0<=i) (h:(s.length:Int)<=i+1):smB s i=false:=by
 unfold smB;rw[xA h,sj];by_cases a:i<s.length
 ·rw[gT h0 a];simp[cmpL]
 ·rw[xA G];simp[cmpL]
theorem vT {s:AH} {i:Int} (h0:0<=i) (h:i+1<s.length):smB s i=true↔rd s i<rd s (i+1)\/rd s i=rd s (i+1)/\smB s (i+1)=true:=by
 unfold smB;rw[iv,iv,gT h0 G,gT (s:=s) (i:=i+1) G h,yY]
def isL (s:AH) (p:Int):Prop:=(0<=p/\p<s.length)/\smB s p=false
def isS (s:AH) (p:Int):Prop:=(0<=p/\p<s.length)/\smB s p=true
theorem qY {s:AH} {p:Int} (h:0<=p/\p<s.length):isL s p\/isS s p:=by
 cases e:smB s p with
 |false=>exact .inl ⟨h,e⟩
 |true=>exact .inr ⟨h,e⟩
theorem isL.not_S {s:AH} {p:Int} (h:isL s p): ¬isS s p:=λh'=>by
 have a:=h'.2;rw[h.2] at a;cases a
theorem isL.next {s:AH} {p:Int} (h:isL s p) (hp:p+1<s.length):rd s (p+1)<=rd s p/\(rd s p=rd s (p+1)->isL s (p+1)):=by
 have hn: ¬smB s p=true:=by rw[h.2];simp
 rw[vT h.1.1 hp] at hn;refine⟨Int.not_lt.1 λbc=>hn (.inl bc),λe=>⟨⟨by have:=h.1.1;omega,hp⟩,?_⟩⟩;cases e2:smB s (p+1) with
 |false=>rfl
 |true=>exact absurd (.inr ⟨e,e2⟩) hn
theorem isS.next {s:AH} {p:Int} (h:isS s p):p+1<s.length/\rd s p<=rd s (p+1)/\(rd s p=rd s (p+1)->isS s (p+1)):=by
 have hp:p+1<s.length:=by
  rcases bn (p+1) s.length with a|a
  ·exact a
  ·have:=qO h.1.1 a;rw[h.2] at this;cases this
 have hs:=(vT h.1.1 hp).1 h.2;have h0:=h.1.1;refine⟨hp,G,λe=>⟨⟨G,hp⟩,?_⟩⟩;rcases hs with a|a
 ·omega
 ·exact a.2
theorem HZ {s:AH}: ∀(m:Nat) (p q:Int),s.length-p<=m->isL s p->isS s q->rd s p=rd s q->bU s p q
 |0,p,q,hm,hp,_,_=>by have:=hp.1;omega
 | m+1,p,q,hm,hp,hq,e=>by
  rw[nC hp.1.1 hp.1.2 hq.1.1 hq.1.2];refine .inr ⟨e,?_⟩;obtain⟨yi,Vx,Qn⟩:=hq.next;have q0:=hq.1.1;have p0:=hp.1.1;rcases bn (p+1) s.length with a|a
  ·obtain ⟨ph,xb⟩:=hp.next a;rw[gM (s:=s),nC G a G yi];rcases bn (rd s (p+1)) (rd s (q+1)) with b|b
   ·exact .inl b
   ·have e1:rd s p=rd s (p+1):=G
    have e2:rd s q=rd s (q+1):=G
    have:=HZ m (p+1) (q+1) G (xb e1) (Qn e2) G;rw[nC G a G yi] at this;exact this
  ·rw [xA a,gT G yi];simp[cmpL]
theorem aGc {s:AH} {p q:Int} (hp:isL s p) (hq:isS s q) (e:rd s p=rd s q):bU s p q:=HZ (s.length-p).toNat p q G hp hq e
theorem MN {s:AH} {p q:Int} (p0:0<=p) (hp:p+1<s.length) (q0:0<=q) (hq:q+1<s.length) (e:rd s p=rd s q) (h:bU s (p+1) (q+1)):bU s p q:=by
 rw[nC p0 G q0 G];exact .inr ⟨e,gM.2 h⟩
theorem sP {s:AH} {p q:Int} (hp:0<=p/\p<s.length) (hq:0<=q/\q<s.length) (h:rd s p<rd s q):bU s p q:=by
 rw[nC hp.1 hp.2 hq.1 hq.2];exact .inl h
theorem aUu {s:AH} {q:Int} (hn:0<s.length) (q0:0<=q) (hq:q+1<s.length) (e:rd s (s.length-1)=rd s q):bU s (s.length-1) q:=by
 rw[nC G G q0 G];refine .inr ⟨e,?_⟩;rw[xA G,gT G hq];simp[cmpL]
def gK (s:AH) (i:Int):Bool:=decide (0<i) && smB s i && !smB s (i-1)
theorem nE {s:AH} {i:Int}:gK s i=true↔0<i/\smB s i=true/\smB s (i-1)=false:=by
 unfold gK;rw[pu,pu,iv];simp only[Bool.not_eq_true',and_assoc]
def bQ (s:AH):AH:=(iota s.length).filter λi=>gK s i
theorem sW {s:AH} {i:Int}:i∈bQ s↔(0<=i/\i<s.length)/\gK s i=true:=by
 unfold bQ;rw[ol,aZ]
theorem zT (s:AH):(bQ s).Nodup:=(eH _).sublist ul
theorem oH {α:Type} [DecidableEq α]: ∀ {l m:List α},l.Nodup->(∀x∈l,x∈m)->l.length<=m.length
 |[],_,_,_=>qp _
 | a::l,m,hd,h=>by
  obtain⟨h1,h2⟩:=wo.1 hd;have ha:=h a cD
  have:=oH (l:=l) (m:=m.erase a) h2 λx hx=>by
   have hxa:x≠a:=λe=>h1 (e▸hx);exact(Es hxa).2 (h x (fe _ hx))
  rw[Cg ha] at this;have hp:=Dl ha;simp only[dh];omega
theorem qU {α:Type} [DecidableEq α]: ∀ {l m:List α},l.Nodup->(∀x∈l,x∈m)->m.length<=l.length->l.Perm m
 |[],m,_,_,h=>by
  have:m=[]:=ek (by simpa using h);rw[this]
 | a::l,m,hd,h,hl=>by
  obtain⟨h1,h2⟩:=wo.1 hd;have ha:=h a cD;have hp:=Dl ha
  have:=qU (l:=l) (m:=m.erase a) h2 (λx hx=>by
   have hxa:x≠a:=λe=>h1 (e▸hx)
   exact(Es hxa).2 (h x (fe _ hx))) (by
   rw[Cg ha];simp only[dh] at hl
   omega)
  exact(this.cons a).trans (List.perm_cons_erase ha).symm
def seg (row:AH) (a b:Int):AH:=(List.range (b-a).toNat).map λt:Nat=>rd row (a+t)
theorem aJk (row:AH) (a b:Int):(seg row a b).length=(b-a).toNat:=by simp[seg]
theorem JQ {row:AH} {a b x:Int}:x∈seg row a b↔ ∃q,a<=q/\q<b/\rd row q=x:=by
 unfold seg;rw[iy];constructor
 ·rintro ⟨t,ht,rfl⟩;have:=jq.1 ht;exact⟨a+t,G,G,rfl⟩
 ·rintro ⟨q,h1,h2,rfl⟩;exact⟨(q-a).toNat,jq.2 G,by rw[show a+((q-a).toNat:Int)=q by omega]⟩
def Once (row:AH):Prop:= ∀q r:Int,0<=q->q<row.length->0<=r->r<row.length->0<=rd row q->rd row q=rd row r->q=r
theorem RL {row:AH} (h:Once row) {a b:Int} (ha:0<=a) (hb:b<=row.length) (hp: ∀q,a<=q->q<b->0<=rd row q):(seg row a b).Nodup:=by
 unfold seg;refine iw.2 (oq (λ{x y} hx hy fd he=> ?_) xh);have hx':=jq.1 hx;have Qt:=jq.1 hy;have:=h (a+x) (a+y) G G G G (hp _ G G) he;exact fd G
section
variable (s:AH) (k:Int)
def st (c:Int):Int:=ps (eG s k) c
def IW (c:Int):AH:=(iota s.length).filter λp=>decide (rd s p=c) && !smB s p
def IV (c:Int):AH:=(iota s.length).filter λp=>decide (rd s p=c) && smB s p
end
section
variable {s:AH} {k:Int}
theorem MZ {c p:Int}:p∈IW s c↔isL s p/\rd s p=c:=by
 unfold IW isL;rw[ol,aZ,pu,iv];simp only[Bool.not_eq_true'];exact⟨λ⟨a,b,c⟩=>⟨⟨a,c⟩,b⟩,λ⟨⟨a,c⟩,b⟩=>⟨a,b,c⟩⟩
theorem MX {c p:Int}:p∈IV s c↔isS s p/\rd s p=c:=by
 unfold IV isS;rw[ol,aZ,pu,iv];exact⟨λ⟨a,b,c⟩=>⟨⟨a,c⟩,b⟩,λ⟨⟨a,c⟩,b⟩=>⟨a,b,c⟩⟩
theorem bAx:st s k 0=0:=rfl
theorem mG (s:AH):(iota s.length).map (rd s)=s:=by
 refine bM (by rw[cu,bB]) λj h0 h1=> ?_;rw[cu,bB] at h1;have:(iota s.length).map (rd s)=(List.range s.length).map λi:Nat=>rd s i:=by unfold iota;rw[zg];rfl
 rw[this,gY h0 h1,show((j.toNat:Nat):Int)=j by omega]
theorem kN {c:Int} (h0:0<=c) (h:c<k):st s k (c+1)=st s k c+(IW s c).length+(IV s c).length:=by
 unfold st;rw[lN h0 (by rw[eB];omega),CB h0 h]
 have e:(s.filter λx=>decide (x=c)).length=((iota s.length).filter λp=>decide (rd s p=c)).length:=by
  conv=>lhs;rw[<-mG s]
  rw[List.filter_map,cu];rfl
 have e2:((iota s.length).filter λp=>decide (rd s p=c)).length=(IW s c).length+(IV s c).length:=by
  unfold IW IV;generalize iota s.length=l
  induction l with
  |nil=>rfl
  | cons a l ih=>
   by_cases h:rd s a=c
   ·cases hb:smB s a with
    |true=>rw[qa (by simpa using h),ll (by simp[hb]),qa (by simp[h,hb])];simp only[dh];omega
    |false=>rw[qa (by simpa using h),qa (by simp[h,hb]),ll (by simp[hb])];simp only[dh];omega
   ·rw [ll (by simpa using h),ll (by simp[h]),ll (by simp[h])];exact ih
 rw[e,e2];omega
theorem kP {c d:Int} (h0:0<=c) (Kq:c<d) (hd:d<=k):st s k (c+1)<=st s k d:=by
 obtain⟨m,rfl⟩: ∃m:Nat,d=c+1+m:=⟨(d-c-1).toNat,G⟩
 induction m with
 |zero=>simp
 |succ m ih=>
  have:=ih G G;have e:=kN (s:=s) (k:=k) (c:=c+1+m) G G;rw[show c+1+((m+1:Nat):Int)=c+1+m+1 by omega];omega
theorem fT {c:Int}:0<=st s k c:=(wF (mH s k) c).1
theorem aEt (hk:0<=k) (hs: ∀x∈s,0<=x/\x<k):st s k k=s.length:=by
 unfold st;rw[aFq (by rw[eB];omega)]
 have:=OB (order:=iota s.length) (keys:=s) (k:=k) hk λi hi=>by
  have:=aZ.1 hi;exact hs _ (bJ this.1 this.2)
 rw[mG,bB] at this;exact this
theorem yO (hk:0<=k) (hs: ∀x∈s,0<=x/\x<k) {c:Int} (h0:0<=c) (h:c<=k):st s k c<=s.length:=by
 rcases bn c k with a|a
 ·have h1:=kN (s:=s) h0 a;have h2:=kP (s:=s) h0 a (lq k);rw[aEt hk hs] at h2;omega
 ·rw [show c=k by omega,aEt hk hs];omega
theorem gU (hk:0<=k) (hs: ∀x∈s,0<=x/\x<k) {q:Int} (q0:0<=q) (hq:q<s.length): ∃c,(0<=c/\c<k)/\st s k c<=q/\q<st s k (c+1):=by
 have Wx: ∀m:Nat,(m:Int)<=k->q<st s k m-> ∃c,(0<=c/\c<k)/\st s k c<=q/\q<st s k (c+1):=by
  intro m
  induction m with
  |zero=>intro _ h;rw[show((0:Nat):Int)=0 from rfl,bAx] at h;omega
  |succ m ih=>
   intro hm h;rcases bn q (st s k m) with a|a
   ·exact ih G a
   ·exact⟨m,G,a,by rw[show((m:Int)+1)=((m+1:Nat):Int) by omega];exact h⟩
 have:=Wx k.toNat G;rw[show((k.toNat:Nat):Int)=k by omega,aEt hk hs] at this;exact this hq
theorem oJ {c d q:Int} (c0:0<=c) (ck:c<k) (d0:0<=d) (dk:d<k) (h1:st s k c<=q) (h2:q<st s k (c+1)) (h3:st s k d<=q) (h4:q<st s k (d+1)):c=d:=by
 rcases jd c d with a|a|a
 ·have:=kP (s:=s) c0 a (by omega:d<=k);omega
 ·exact a
 ·have:=kP (s:=s) d0 a (by omega:c<=k);omega
end
end Go.Pure
namespace Go.Pure
open Go Go.Eng
section
variable {s:AH} {k:Int} {R:Int->Int->Prop}
structure bAh (s:AH) (R:Int->Int->Prop):Prop where
 char: ∀ {p q:Int},0<=p/\p<s.length->0<=q/\q<s.length->rd s p<rd s q->R p q
 ls: ∀ {p q:Int},isL s p->isS s q->rd s p=rd s q->R p q
 last: ∀ {q:Int},0<s.length->0<=q->q+1<s.length->rd s (s.length-1)=rd s q->isL s q->R (s.length-1) q
 backL: ∀ {p q:Int},isL s p->isL s q->p+1<s.length->q+1<s.length->rd s p=rd s q->R (p+1) (q+1)->R p q
structure uX (s:AH) (k:Int) (R:Int->Int->Prop) (mF:Int->Int) (row:AH):Prop where
 len:row.length=s.length
 m0: ∀c,0<=c->c<k->0<=mF c/\mF c<=(IV s c).length
 some_: ∀c q,0<=c->c<k->st s k (c+1)-mF c<=q->q<st s k (c+1)->isS s (rd row q)/\rd s (rd row q)=c
 none_: ∀c q,0<=c->c<k->st s k c<=q->q<st s k (c+1)-mF c->rd row q= -1
 once:Once row
 all: ∀p:Int,0<=p->p<s.length->gK s p=true-> ∃q:Int,0<=q/\q<s.length/\rd row q=p
 sorted: ∀a b:Int,0<=a->a<b->b<s.length->0<=rd row a->0<=rd row b->R (rd row a) (rd row b)
structure jN (s:AH) (k:Int) (R:Int->Int->Prop) (mF:Int->Int) (row0 row H:AH) (C:Int->Prop):Prop where
 len:row.length=s.length
 hlen:H.length=k.toNat
 hH: ∀c,0<=c->c<k->st s k c<=rd H c/\rd H c<=st s k c+(IW s c).length
 placed: ∀c q,0<=c->c<k->st s k c<=q->q<rd H c->isL s (rd row q)/\rd s (rd row q)=c
 rest: ∀c q,0<=c->c<k->rd H c<=q->q<st s k (c+1)->rd row q=rd row0 q
 once:Once row
 closed: ∀p,isL s p->((∃q:Int,0<=q/\q<s.length/\rd row q=p)↔C p)
 sorted: ∀a b:Int,0<=a->a<b->b<s.length->0<=rd row a->0<=rd row b->R (rd row a) (rd row b)
variable (hk:0<=k) (hs: ∀x∈s,0<=x/\x<k) (hR:bAh s R)
theorem nI (hs: ∀x∈s,0<=x/\x<k) {p:Int} (h:0<=p/\p<s.length):0<=rd s p/\rd s p<k:=hs _ (bJ h.1 h.2)
variable {mF:Int->Int} {row0 row H:AH} {C:Int->Prop}
theorem jN.at_ (h:jN s k R mF row0 row H C) (b:uX s k R mF row0) {c q:Int} (c0:0<=c) (ck:c<k) (h1:st s k c<=q) (h2:q<st s k (c+1)):
  (q<rd H c/\isL s (rd row q)/\rd s (rd row q)=c)\/(rd H c<=q/\isS s (rd row q)/\rd s (rd row q)=c)\/(rd H c<=q/\rd row q= -1):=by
 rcases bn q (rd H c) with a|a
 ·exact .inl ⟨a,h.placed c q c0 ck h1 a⟩
 ·rw [h.rest c q c0 ck a h2];rcases bn q (st s k (c+1)-mF c) with d|d
  ·exact .inr (.inr ⟨a,b.none_ c q c0 ck h1 d⟩)
  ·exact .inr (.inl ⟨a,b.some_ c q c0 ck d h2⟩)
include hk hs in
theorem jN.entry (h:jN s k R mF row0 row H C) (b:uX s k R mF row0) {q:Int} (q0:0<=q) (hq:q<s.length):rd row q= -1\/(0<=rd row q/\rd row q<s.length):=by
 obtain⟨c,⟨c0,ck⟩,h1,h2⟩:=gU hk hs q0 hq;rcases h.at_ b c0 ck h1 h2 with a|a|a
 ·exact .inr a.2.1.1
 ·exact .inr a.2.1.1
 ·exact .inl a.2
theorem JH {b:uX s k R mF row0} {c:Int} (c0:0<=c) (ck:c<k):st s k c+(IW s c).length<=st s k (c+1)-mF c:=by
 have:=kN (s:=s) c0 ck;have:=b.m0 c c0 ck;omega
include hk hs in
theorem jN.room (h:jN s k R mF row0 row H C) (b:uX s k R mF row0) {p:Int} (hp:isL s p) (hn: ¬ ∃q:Int,0<=q/\q<s.length/\rd row q=p):
  (st s k (rd s p)<=rd H (rd s p)/\rd H (rd s p)<st s k (rd s p)+(IW s (rd s p)).length)/\rd row (rd H (rd s p))= -1/\(0<=rd H (rd s p)/\rd H (rd s p)<s.length)/\rd H (rd s p)<st s k (rd s p+1):=by
 obtain⟨c0,ck⟩:=nI hs hp.1;have hH:=h.hH _ c0 ck;have qu:=JH (b:=b) c0 ck;have pv:=yO hk hs (c:=rd s p+1) G G;have k6:=fT (s:=s) (k:=k) (c:=rd s p);have hm:=b.m0 _ c0 ck
 have bc:rd H (rd s p)<st s k (rd s p)+(IW s (rd s p)).length:=by
  have gd: ∀x∈p::seg row (st s k (rd s p)) (rd H (rd s p)),x∈IW s (rd s p):=by
   intro x hx;rcases jm.1 hx with rfl|hx
   ·exact MZ.2 ⟨hp,rfl⟩
   ·obtain ⟨q,q1,q2,rfl⟩:=JQ.1 hx;exact MZ.2 (h.placed _ q c0 ck q1 q2)
  have hnd:(p::seg row (st s k (rd s p)) (rd H (rd s p))).Nodup:=by
   refine wo.2 ⟨λhx=> ?_,RL h.once k6 (by rw[h.len];omega) λq q1 q2=>(h.placed _ q c0 ck q1 q2).1.1.1⟩;obtain⟨q,q1,q2,e⟩:=JQ.1 hx;exact hn ⟨q,G,G,e⟩
  have:=oH hnd gd;rw[dh,aJk] at this;omega
 refine⟨⟨hH.1,bc⟩,?_,⟨G,G⟩,G⟩;rw[h.rest _ _ c0 ck (lq _) G,b.none_ _ _ c0 ck hH.1 G]
include hk hs hR in
theorem jN.lay (h:jN s k R mF row0 row H C) (b:uX s k R mF row0) {p:Int} {C':Int->Prop} (hp:isL s p) (hn: ¬ ∃q:Int,0<=q/\q<s.length/\rd row q=p) (mj: ∀p',isL s p'->(C' p'↔C p'\/p'=p))
  (Pj: ∀p',isL s p'->rd s p'=rd s p->(∃q:Int,0<=q/\q<s.length/\rd row q=p')->R p' p):
  jN s k R mF row0 (upd row (rd H (rd s p)) p) (upd H (rd s p) (rd H (rd s p)+1)) C':=by
 obtain⟨c0,ck⟩:=nI hs hp.1;obtain⟨⟨r1,r2⟩,r3,⟨r4,r5⟩,r6⟩:=h.room hk hs b hp hn;have ie: ∀q,0<=q->rd (upd row (rd H (rd s p)) p) q=if q=rd H (rd s p) then p else rd row q:=λq q0=>gG r4 q0 (by rw[h.len];omega)
 have Xf: ∀c,0<=c->rd (upd H (rd s p) (rd H (rd s p)+1)) c=if c=rd s p then rd H (rd s p)+1 else rd H c:=λc Rk=>gG c0 Rk (by rw[h.hlen];omega)
 have hex: ∀x:Int,0<=x->((∃q:Int,0<=q/\q<s.length/\rd (upd row (rd H (rd s p)) p) q=x)↔((∃q:Int,0<=q/\q<s.length/\rd row q=x)\/x=p)):=by
  intro x hx;constructor
  ·rintro ⟨q,q0,q1,e⟩;rw[ie q q0] at e;split at e
   ·exact .inr e.symm
   ·exact .inl ⟨q,q0,q1,e⟩
  ·rintro (⟨q,q0,q1,e⟩|rfl)
   ·refine ⟨q,q0,q1,?_⟩;rw[ie q q0,bz,e];intro e2;rw[e2,r3] at e;omega
   ·exact⟨_,r4,r5,by rw[ie _ r4,df rfl]⟩
 refine⟨by rw[aY];exact h.len,by rw[aY];exact h.hlen,λc d0 dk=> ?_,λc q d0 dk q1 q2=> ?_,λc q d0 dk q1 q2=> ?_,λq r q0 q1 t0 t1 hq e=> ?_,λp' cm=> ?_,λx y x0 xy y1 hx hy=> ?_⟩
 ·have:=h.hH c d0 dk;rw[Xf c d0];split
  ·rename_i e;subst e;omega
  ·exact this
 ·have kj:0<=q:=by have:=fT (s:=s) (k:=k) (c:=c);omega
  rw[Xf c d0] at q2;rw[ie q kj];by_cases e:q=rd H (rd s p)
  ·rw [df e]
   have hc:c=rd s p:=by
    by_cases e2:c=rd s p
    ·exact e2
    ·rw [bz e2] at q2;have:=h.hH c d0 dk;have hr:=JH (b:=b) d0 dk;have:=b.m0 c d0 dk;exact oJ (s:=s) d0 dk c0 ck q1 G G G
   exact⟨hp,hc.symm⟩
  ·rw [bz e];refine h.placed c q d0 dk q1 ?_;by_cases e2:c=rd s p
   ·rw[df e2] at q2;subst e2;omega
   ·rw[bz e2] at q2;exact q2
 ·rw [Xf c d0] at q1;have hHc:=h.hH c d0 dk
  have kj:0<=q:=by
   have:=fT (s:=s) (k:=k) (c:=c);by_cases e2:c=rd s p
   ·rw[df e2] at q1;subst e2;omega
   ·rw[bz e2] at q1;omega
  rw[ie q kj];by_cases e2:c=rd s p
  ·rw [df e2] at q1;rw[bz G];subst e2;exact h.rest _ q d0 dk G q2
  ·rw [bz e2] at q1;rw[bz,h.rest c q d0 dk q1 q2];intro e;exact e2 (oJ (s:=s) d0 dk c0 ck G q2 G G)
 ·rw [aY,h.len] at q1 t1;rw[ie q q0] at hq e;rw[ie r t0] at e;by_cases e1:q=rd H (rd s p)
  ·rw [df e1] at e;by_cases e2:r=rd H (rd s p)
   ·omega
   ·rw [bz e2] at e;exact absurd ⟨r,t0,t1,e.symm⟩ hn
  ·rw [bz e1] at e hq;by_cases e2:r=rd H (rd s p)
   ·rw [df e2] at e;exact absurd ⟨q,q0,q1,e⟩ hn
   ·rw [bz e2] at e;exact h.once q r q0 (by rw[h.len];exact q1) t0 (by rw[h.len];exact t1) hq e
 ·rw[hex p' cm.1.1,h.closed p' cm,mj p' cm]
 ·have key: ∀z:Int,0<=z->z<s.length->0<=rd row z->(z<rd H (rd s p)->R (rd row z) p)/\(rd H (rd s p)<z->R p (rd row z)):=by
   intro z z0 z1 hz;obtain⟨c,⟨d0,dk⟩,h1,h2⟩:=gU hk hs z0 z1;have rg:=h.at_ b d0 dk h1 h2
   have fg:0<=rd row z/\rd row z<s.length:=by
    rcases rg with a|a|a
    ·exact a.2.1.1
    ·exact a.2.1.1
    ·rw[a.2] at hz;omega
   have l5:rd s (rd row z)=c:=by
    rcases rg with a|a|a
    ·exact a.2.2
    ·exact a.2.2
    ·rw[a.2] at hz;omega
   refine⟨λbc=> ?_,λbc=> ?_⟩
   ·rcases jd c (rd s p) with e|e|e
    ·exact hR.char fg hp.1 G
    ·subst e;rcases rg with a|a|a
     ·exact Pj _ a.2.1 a.2.2 ⟨z,z0,z1,rfl⟩
     ·omega
     ·omega
    ·have:=kP (s:=s) c0 e (by omega:c<=k);omega
   ·rcases jd c (rd s p) with e|e|e
    ·have:=kP (s:=s) d0 e (by omega:rd s p<=k);omega
    ·subst e;rcases rg with a|a|a
     ·omega
     ·exact hR.ls hp a.2.1 a.2.2.symm
     ·rw[a.2] at hz;omega
    ·exact hR.char hp.1 fg G
  rw[ie x x0] at hx ⊢;rw[ie y G] at hy ⊢;by_cases e1:x=rd H (rd s p)
  ·rw [df e1,bz G];rw[bz G] at hy;exact(key y G y1 hy).2 G
  ·rw [bz e1];rw[bz e1] at hx;by_cases e2:y=rd H (rd s p)
   ·rw [df e2];exact(key x x0 G hx).1 G
   ·rw [bz e2];rw[bz e2] at hy;exact h.sorted x y x0 xy y1 hx hy
def CL (s row:AH) (i p:Int):Prop:=p=s.length-1\/ ∃q:Int,0<=q/\q<i/\rd row q=p+1
include hk hs hR in
theorem aBg (b:uX s k R mF row0) (hn:0<s.length) (hH:H.length=k.toNat) (hH2: ∀c,0<=c->c<k->rd H c=st s k c):
  jN s k R mF row0 (upd row0 (rd H (rd s (s.length-1))) (s.length-1)) (upd H (rd s (s.length-1)) (rd H (rd s (s.length-1))+1)) (CL s (upd row0 (rd H (rd s (s.length-1))) (s.length-1)) 0):=by
 have Hi: ∀p,isL s p-> ¬ ∃q:Int,0<=q/\q<s.length/\rd row0 q=p:=by
  rintro p hp ⟨q,q0,q1,e⟩;obtain⟨c,⟨c0,ck⟩,h1,h2⟩:=gU hk hs q0 q1;rcases bn q (st s k (c+1)-mF c) with d|d
  ·have:=b.none_ c q c0 ck h1 d;have:=hp.1.1;omega
  ·have:=(b.some_ c q c0 ck d h2).1;rw[e] at this;exact hp.not_S this
 have h0:jN s k R mF row0 row0 H λ_=>False:=
  ⟨b.len,hH,λc c0 ck=>by rw[hH2 c c0 ck];omega,λc q c0 ck q1 q2=>by rw[hH2 c c0 ck] at q2;omega,λc q _ _ _ _=>rfl,b.once,λp hp=>iff_false_intro (Hi p hp),b.sorted⟩
 have hp:isL s (s.length-1):=⟨G,qO G G⟩;refine h0.lay hk hs hR b hp (Hi _ hp) (λp' cm=> ?_) λp' cm _ hex=>absurd hex (Hi p' cm);unfold CL;constructor
 ·rintro (e|⟨q,q0,q1,_⟩)
  ·exact .inr e
  ·omega
 ·rintro (h|e)
  ·exact h.elim
  ·exact .inl e
theorem aGi {i:Int} (h:jN s k R mF row0 row H (CL s row i)) (hc: ¬(0<rd row i/\smB s (rd row i-1)=false)):jN s k R mF row0 row H (CL s row (i+1)):=by
 refine⟨h.len,h.hlen,h.hH,h.placed,h.rest,h.once,λp hp=> ?_,h.sorted⟩;rw[h.closed p hp];unfold CL;refine or_congr_right ⟨λ⟨q,q0,q1,e⟩=>⟨q,q0,G,e⟩,?_⟩;rintro⟨q,q0,q1,e⟩;rcases bn q i with a|a
 ·exact⟨q,q0,a,e⟩
 ·exfalso;have:q=i:=G
  subst this;rw[e] at hc;have:=hp.1.1;exact hc ⟨G,by rw[show p+1-1=p by omega];exact hp.2⟩
include hk hs in
theorem SY {i:Int} (h:jN s k R mF row0 row H (CL s row i)) (b:uX s k R mF row0) (i0:0<=i) (hi:i<s.length) (hc:0<rd row i/\smB s (rd row i-1)=false):
  isL s (rd row i-1)/\(¬ ∃q:Int,0<=q/\q<s.length/\rd row q=rd row i-1)/\rd row i<s.length/\i<rd H (rd s (rd row i-1)):=by
 have Lw:=h.entry hk hs b i0 hi;have hj:0<=rd row i/\rd row i<s.length:=G
 have hp:isL s (rd row i-1):=⟨G,hc.2⟩
 have hn: ¬ ∃q:Int,0<=q/\q<s.length/\rd row q=rd row i-1:=by
  intro hex;rcases(h.closed _ hp).1 hex with e|⟨q,q0,q1,e⟩
  ·omega
  ·have:=h.once q i q0 (by rw[h.len];omega) i0 (by rw[h.len];exact hi) G G;omega
 refine⟨hp,hn,hj.2,?_⟩;obtain⟨c,⟨c0,ck⟩,h1,h2⟩:=gU hk hs i0 hi;obtain⟨d0,dk⟩:=nI hs hp.1;have pj:=hp.next G;rw[show rd row i-1+1=rd row i by omega] at pj;have hHp:=h.hH _ d0 dk;rcases h.at_ b c0 ck h1 h2 with a|a|a
 ·rcases bn c (rd s (rd row i-1)) with e|e
  ·have:=kP (s:=s) c0 e (by omega:rd s (rd row i-1)<=k);omega
  ·have:rd s (rd row i-1)=c:=G
   rw[this];exact a.1
 ·rcases bn c (rd s (rd row i-1)) with e|e
  ·have:=kP (s:=s) c0 e (by omega:rd s (rd row i-1)<=k);omega
  ·exact absurd a.2.1 (pj.2 G).not_S
 ·omega
include hk hs hR in
theorem aGh {i:Int} (h:jN s k R mF row0 row H (CL s row i)) (b:uX s k R mF row0) (i0:0<=i) (hi:i<s.length) (hc:0<rd row i/\smB s (rd row i-1)=false):
  jN s k R mF row0 (upd row (rd H (rd s (rd row i-1))) (rd row i-1)) (upd H (rd s (rd row i-1)) (rd H (rd s (rd row i-1))+1)) (CL s (upd row (rd H (rd s (rd row i-1))) (rd row i-1)) (i+1)):=by
 obtain⟨hp,hn,hj,bc⟩:=SY hk hs h b i0 hi hc;have qu:=h.room hk hs b hp hn;have ie: ∀q,0<=q->rd (upd row (rd H (rd s (rd row i-1))) (rd row i-1)) q=if q=rd H (rd s (rd row i-1)) then rd row i-1 else rd row q:=λq q0=>gG qu.2.2.1.1 q0 (by rw[h.len];exact qu.2.2.1.2)
 refine h.lay hk hs hR b hp hn (λp' cm=> ?_) λp' cm he hex=> ?_
 ·unfold CL;constructor
  ·rintro (e|⟨q,q0,q1,e⟩)
   ·exact .inl (.inl e)
   ·rw [ie q q0,bz G] at e;rcases bn q i with a|a
    ·exact .inl (.inr ⟨q,q0,a,e⟩)
    ·have:q=i:=G
     subst this;exact .inr G
  ·rintro ((e|⟨q,q0,q1,e⟩)|e)
   ·exact .inl e
   ·exact .inr ⟨q,q0,G,by rw[ie q q0,bz G];exact e⟩
   ·exact .inr ⟨i,i0,G,by rw[ie i i0,bz G];omega⟩
 ·have Tt:=hp.1;rcases(h.closed _ cm).1 hex with e|⟨q,q0,q1,e⟩
  ·subst e;exact hR.last G G G he hp
  ·have h1:=h.entry hk hs b q0 G;have h2:=cm.1;have:=h.sorted q i q0 q1 hi G G;rw[e] at this;refine hR.backL cm hp G G he ?_;rwa[show rd row i-1+1=rd row i by omega]
include hk hs in
theorem TA (h:jN s k R mF row0 row H (CL s row s.length)) (b:uX s k R mF row0): ∀(m:Nat) (p:Int),s.length-p<=m->isL s p-> ∃q:Int,0<=q/\q<s.length/\rd row q=p
 |0,p,hm,hp=>by have:=hp.1;omega
 | m +1,p,hm,hp=>by
  have hb:=hp.1;rw[h.closed p hp];rcases bn (p+1) s.length with a|a
  ·refine .inr ?_;rcases qY (s:=s) (p:=p+1) G with l|l
   ·exact TA h b m (p+1) G l
   ·obtain ⟨q,q0,q1,e⟩:=b.all (p+1) G a (nE.2 ⟨G,l.2,by rw[show p+1-1=p by omega];exact hp.2⟩);refine⟨q,q0,q1,?_⟩;obtain⟨c,⟨c0,ck⟩,h1,h2⟩:=gU hk hs q0 q1;have hH:=h.hH c c0 ck;have hr:=JH (b:=b) c0 ck;rw[h.rest c q c0 ck ?_ h2,e];rcases bn q (st s k (c+1)-mF c) with d|d
    ·have:=b.none_ c q c0 ck h1 d;omega
    ·omega
  ·exact .inl G
end
end Go.Pure
namespace Go.Pure
open Go Go.Eng
section
variable {s:AH} {k:Int} {R:Int->Int->Prop}
structure bFa (s:AH) (R:Int->Int->Prop):Prop where
 char: ∀ {p q:Int},0<=p/\p<s.length->0<=q/\q<s.length->rd s p<rd s q->R p q
 ls: ∀ {p q:Int},isL s p->isS s q->rd s p=rd s q->R p q
 backS: ∀ {p q:Int},isS s p->isS s q->p+1<s.length->q+1<s.length->rd s p=rd s q->R (p+1) (q+1)->R p q
structure rU (s:AH) (k:Int) (R:Int->Int->Prop) (T:Int->Int) (row:AH):Prop where
 len:row.length=s.length
 t0: ∀c,0<=c->c<k->st s k c<=T c/\T c<=st s k c+(IW s c).length
 some_: ∀c q,0<=c->c<k->st s k c<=q->q<T c->isL s (rd row q)/\rd s (rd row q)=c
 none_: ∀c q,0<=c->c<k->T c<=q->q<st s k (c+1)->rd row q= -1
 once:Once row
 all: ∀p:Int,isL s p-> ∃q:Int,0<=q/\q<s.length/\rd row q=p
 sorted: ∀a b:Int,0<=a->a<b->b<s.length->0<=rd row a->0<=rd row b->R (rd row a) (rd row b)
structure jM (s:AH) (k:Int) (R:Int->Int->Prop) (T:Int->Int) (row3 row E:AH) (C:Int->Prop):Prop where
 len:row.length=s.length
 elen:E.length=k.toNat
 hE: ∀c,0<=c->c<k->st s k (c+1)-(IV s c).length<=rd E c/\rd E c<=st s k (c+1)
 placed: ∀c q,0<=c->c<k->rd E c<=q->q<st s k (c+1)->isS s (rd row q)/\rd s (rd row q)=c
 rest: ∀c q,0<=c->c<k->st s k c<=q->q<rd E c->rd row q=rd row3 q
 once:Once row
 closed: ∀p,isS s p->((∃q:Int,0<=q/\q<s.length/\rd row q=p)↔C p)
 sorted: ∀a b:Int,0<=a->a<b->b<s.length->0<=rd row a->0<=rd row b->R (rd row a) (rd row b)
variable (hk:0<=k) (hs: ∀x∈s,0<=x/\x<k) (hR:bFa s R)
variable {T:Int->Int} {row3 row E:AH} {C:Int->Prop}
theorem jM.at_ (h:jM s k R T row3 row E C) (b:rU s k R T row3) {c q:Int} (c0:0<=c) (ck:c<k) (h1:st s k c<=q) (h2:q<st s k (c+1)):
  (rd E c<=q/\isS s (rd row q)/\rd s (rd row q)=c)\/(q<rd E c/\isL s (rd row q)/\rd s (rd row q)=c)\/(q<rd E c/\rd row q= -1):=by
 rcases bn q (rd E c) with a|a
 ·rw [h.rest c q c0 ck h1 a];rcases bn q (T c) with d|d
  ·exact .inr (.inl ⟨a,b.some_ c q c0 ck h1 d⟩)
  ·exact .inr (.inr ⟨a,b.none_ c q c0 ck d h2⟩)
 ·exact .inl ⟨a,h.placed c q c0 ck a h2⟩
include hk hs in
theorem jM.entry (h:jM s k R T row3 row E C) (b:rU s k R T row3) {q:Int} (q0:0<=q) (hq:q<s.length):rd row q= -1\/(0<=rd row q/\rd row q<s.length):=by
 obtain⟨c,⟨c0,ck⟩,h1,h2⟩:=gU hk hs q0 hq;rcases h.at_ b c0 ck h1 h2 with a|a|a
 ·exact .inr a.2.1.1
 ·exact .inr a.2.1.1
 ·exact .inl a.2
theorem KY {b:rU s k R T row3} {c:Int} (c0:0<=c) (ck:c<k):T c<=st s k (c+1)-(IV s c).length:=by
 have:=kN (s:=s) c0 ck;have:=b.t0 c c0 ck;omega
include hk hs in
theorem jM.room (h:jM s k R T row3 row E C) (b:rU s k R T row3) {p:Int} (hp:isS s p) (hn: ¬ ∃q:Int,0<=q/\q<s.length/\rd row q=p):
  (st s k (rd s p+1)-(IV s (rd s p)).length<=rd E (rd s p)-1/\rd E (rd s p)<=st s k (rd s p+1))/\rd row (rd E (rd s p)-1)= -1/\(0<=rd E (rd s p)-1/\rd E (rd s p)-1<s.length)/\st s k (rd s p)<=rd E (rd s p)-1:=by
 obtain⟨c0,ck⟩:=nI hs hp.1;have hE:=h.hE _ c0 ck;have qu:=KY (b:=b) c0 ck;have pv:=yO hk hs (c:=rd s p+1) G G;have k6:=fT (s:=s) (k:=k) (c:=rd s p);have ht:=b.t0 _ c0 ck;have hsu:=kN (s:=s) c0 ck
 have bc:st s k (rd s p+1)-(IV s (rd s p)).length<=rd E (rd s p)-1:=by
  have gd: ∀x∈p::seg row (rd E (rd s p)) (st s k (rd s p+1)),x∈IV s (rd s p):=by
   intro x hx;rcases jm.1 hx with rfl|hx
   ·exact MX.2 ⟨hp,rfl⟩
   ·obtain ⟨q,q1,q2,rfl⟩:=JQ.1 hx;exact MX.2 (h.placed _ q c0 ck q1 q2)
  have hnd:(p::seg row (rd E (rd s p)) (st s k (rd s p+1))).Nodup:=by
   refine wo.2 ⟨λhx=> ?_,RL h.once G (by rw[h.len];omega) λq q1 q2=>(h.placed _ q c0 ck q1 q2).1.1.1⟩;obtain⟨q,q1,q2,e⟩:=JQ.1 hx;exact hn ⟨q,G,G,e⟩
  have:=oH hnd gd;rw[dh,aJk] at this;omega
 refine⟨⟨bc,hE.2⟩,?_,⟨G,G⟩,G⟩;rw[h.rest _ _ c0 ck G G,b.none_ _ _ c0 ck G G]
include hk hs hR in
theorem jM.lay (h:jM s k R T row3 row E C) (b:rU s k R T row3) {p:Int} {C':Int->Prop} (hp:isS s p) (hn: ¬ ∃q:Int,0<=q/\q<s.length/\rd row q=p) (mj: ∀p',isS s p'->(C' p'↔C p'\/p'=p))
  (Pj: ∀p',isS s p'->rd s p'=rd s p->(∃q:Int,0<=q/\q<s.length/\rd row q=p')->R p p'):
  jM s k R T row3 (upd row (rd E (rd s p)-1) p) (upd E (rd s p) (rd E (rd s p)-1)) C':=by
 obtain⟨c0,ck⟩:=nI hs hp.1;obtain⟨⟨r1,r2⟩,r3,⟨r4,r5⟩,r6⟩:=h.room hk hs b hp hn;have ie: ∀q,0<=q->rd (upd row (rd E (rd s p)-1) p) q=if q=rd E (rd s p)-1 then p else rd row q:=λq q0=>gG r4 q0 (by rw[h.len];omega)
 have Og: ∀c,0<=c->rd (upd E (rd s p) (rd E (rd s p)-1)) c=if c=rd s p then rd E (rd s p)-1 else rd E c:=λc Rk=>gG c0 Rk (by rw[h.elen];omega)
 have hex: ∀x:Int,0<=x->((∃q:Int,0<=q/\q<s.length/\rd (upd row (rd E (rd s p)-1) p) q=x)↔((∃q:Int,0<=q/\q<s.length/\rd row q=x)\/x=p)):=by
  intro x hx;constructor
  ·rintro ⟨q,q0,q1,e⟩;rw[ie q q0] at e;split at e
   ·exact .inr e.symm
   ·exact .inl ⟨q,q0,q1,e⟩
  ·rintro (⟨q,q0,q1,e⟩|rfl)
   ·refine ⟨q,q0,q1,?_⟩;rw[ie q q0,bz,e];intro e2;rw[e2,r3] at e;omega
   ·exact⟨_,r4,r5,by rw[ie _ r4,df rfl]⟩
 refine⟨by rw[aY];exact h.len,by rw[aY];exact h.elen,λc d0 dk=> ?_,λc q d0 dk q1 q2=> ?_,λc q d0 dk q1 q2=> ?_,λq r q0 q1 t0 t1 hq e=> ?_,λp' cm=> ?_,λx y x0 xy y1 hx hy=> ?_⟩
 ·have:=h.hE c d0 dk;rw[Og c d0];split
  ·rename_i e;subst e;omega
  ·exact this
 ·rw [Og c d0] at q1;have Ll:=h.hE c d0 dk;have hsc:=kN (s:=s) d0 dk
  have kj:0<=q:=by
   have:=fT (s:=s) (k:=k) (c:=c);by_cases e2:c=rd s p
   ·rw[df e2] at q1;omega
   ·rw[bz e2] at q1;omega
  rw[ie q kj];by_cases e:q=rd E (rd s p)-1
  ·rw [df e]
   have hc:c=rd s p:=by
    by_cases e2:c=rd s p
    ·exact e2
    ·rw [bz e2] at q1;exact oJ (s:=s) d0 dk c0 ck G q2 G G
   exact⟨hp,hc.symm⟩
  ·rw [bz e];refine h.placed c q d0 dk ?_ q2;by_cases e2:c=rd s p
   ·rw[df e2] at q1;subst e2;omega
   ·rw[bz e2] at q1;exact q1
 ·rw [Og c d0] at q2;have Ll:=h.hE c d0 dk;have kj:0<=q:=by have:=fT (s:=s) (k:=k) (c:=c);omega
  rw[ie q kj];by_cases e2:c=rd s p
  ·rw [df e2] at q2;rw[bz G];subst e2;exact h.rest _ q d0 dk q1 G
  ·rw [bz e2] at q2;rw[bz,h.rest c q d0 dk q1 q2];intro e;exact e2 (oJ (s:=s) d0 dk c0 ck q1 G G G)
 ·rw [aY,h.len] at q1 t1;rw[ie q q0] at hq e;rw[ie r t0] at e;by_cases e1:q=rd E (rd s p)-1
  ·rw [df e1] at e;by_cases e2:r=rd E (rd s p)-1
   ·omega
   ·rw [bz e2] at e;exact absurd ⟨r,t0,t1,e.symm⟩ hn
  ·rw [bz e1] at e hq;by_cases e2:r=rd E (rd s p)-1
   ·rw [df e2] at e;exact absurd ⟨q,q0,q1,e⟩ hn
   ·rw [bz e2] at e;exact h.once q r q0 (by rw[h.len];exact q1) t0 (by rw[h.len];exact t1) hq e
 ·rw[hex p' cm.1.1,h.closed p' cm,mj p' cm]
 ·have key: ∀z:Int,0<=z->z<s.length->0<=rd row z->(z<rd E (rd s p)-1->R (rd row z) p)/\(rd E (rd s p)-1<z->R p (rd row z)):=by
   intro z z0 z1 hz;obtain⟨c,⟨d0,dk⟩,h1,h2⟩:=gU hk hs z0 z1;have rg:=h.at_ b d0 dk h1 h2
   have fg:0<=rd row z/\rd row z<s.length:=by
    rcases rg with a|a|a
    ·exact a.2.1.1
    ·exact a.2.1.1
    ·rw[a.2] at hz;omega
   have l5:rd s (rd row z)=c:=by
    rcases rg with a|a|a
    ·exact a.2.2
    ·exact a.2.2
    ·rw[a.2] at hz;omega
   refine⟨λbc=> ?_,λbc=> ?_⟩
   ·rcases jd c (rd s p) with e|e|e
    ·exact hR.char fg hp.1 G
    ·subst e;rcases rg with a|a|a
     ·omega
     ·exact hR.ls a.2.1 hp a.2.2
     ·rw[a.2] at hz;omega
    ·have:=kP (s:=s) c0 e (by omega:c<=k);omega
   ·rcases jd c (rd s p) with e|e|e
    ·have:=kP (s:=s) d0 e (by omega:rd s p<=k);omega
    ·subst e;rcases rg with a|a|a
     ·exact Pj _ a.2.1 a.2.2 ⟨z,z0,z1,rfl⟩
     ·omega
     ·omega
    ·exact hR.char hp.1 fg G
  rw[ie x x0] at hx ⊢;rw[ie y G] at hy ⊢;by_cases e1:x=rd E (rd s p)-1
  ·rw [df e1,bz G];rw[bz G] at hy;exact(key y G y1 hy).2 G
  ·rw [bz e1];rw[bz e1] at hx;by_cases e2:y=rd E (rd s p)-1
   ·rw [df e2];exact(key x x0 G hx).1 G
   ·rw [bz e2];rw[bz e2] at hy;exact h.sorted x y x0 xy y1 hx hy
def CS (s row:AH) (i p:Int):Prop:= ∃q:Int,i<=q/\q<s.length/\rd row q=p+1
theorem YX (b:rU s k R T row3) (hE:E.length=k.toNat) (Ru: ∀c,0<=c->c<k->rd E c=st s k (c+1)) (mn: ∀q:Int,0<=q->q<s.length-> ¬isS s (rd row3 q)):jM s k R T row3 row3 E (CS s row3 s.length):=
 ⟨b.len,hE,λc c0 ck=>by rw[Ru c c0 ck];omega,λc q c0 ck q1 q2=>by rw[Ru c c0 ck] at q1;omega,λc q _ _ _ _=>rfl,b.once,λp hp=>⟨λ⟨q,q0,q1,e⟩=>absurd (by rw[e];exact hp) (mn q q0 q1),λ⟨q,q0,q1,_⟩=>G⟩,b.sorted⟩
theorem aEz {i:Int} (h:jM s k R T row3 row E (CS s row (i+1))) (hc: ¬(0<rd row i/\smB s (rd row i-1)=true)):jM s k R T row3 row E (CS s row i):=by
 refine⟨h.len,h.elen,h.hE,h.placed,h.rest,h.once,λp hp=> ?_,h.sorted⟩;rw[h.closed p hp];unfold CS;refine⟨λ⟨q,q0,q1,e⟩=>⟨q,G,q1,e⟩,?_⟩;rintro⟨q,q0,q1,e⟩;rcases bn i q with a|a
 ·exact⟨q,G,q1,e⟩
 ·exfalso;have:q=i:=G
  subst this;rw[e] at hc;have:=hp.1.1;exact hc ⟨G,by rw[show p+1-1=p by omega];exact hp.2⟩
include hk hs in
theorem RI {i:Int} (h:jM s k R T row3 row E (CS s row (i+1))) (b:rU s k R T row3) (i0:0<=i) (hi:i<s.length) (hc:0<rd row i/\smB s (rd row i-1)=true):
  isS s (rd row i-1)/\(¬ ∃q:Int,0<=q/\q<s.length/\rd row q=rd row i-1)/\rd row i<s.length/\rd E (rd s (rd row i-1))-1<i:=by
 have Lw:=h.entry hk hs b i0 hi;have hj:0<=rd row i/\rd row i<s.length:=G
 have hp:isS s (rd row i-1):=⟨G,hc.2⟩
 have hn: ¬ ∃q:Int,0<=q/\q<s.length/\rd row q=rd row i-1:=by
  intro hex;obtain⟨q,q0,q1,e⟩:=(h.closed _ hp).1 hex;have:=h.once q i G (by rw[h.len];omega) i0 (by rw[h.len];exact hi) G G;omega
 refine⟨hp,hn,hj.2,?_⟩;obtain⟨c,⟨c0,ck⟩,h1,h2⟩:=gU hk hs i0 hi;obtain⟨d0,dk⟩:=nI hs hp.1;obtain⟨_,tg,Vu⟩:=hp.next;rw[show rd row i-1+1=rd row i by omega] at tg Vu;have hEp:=h.hE _ d0 dk;rcases h.at_ b c0 ck h1 h2 with a|a|a
 ·rcases bn (rd s (rd row i-1)) c with e|e
  ·have:=kP (s:=s) d0 e (by omega:c<=k);omega
  ·have:rd s (rd row i-1)=c:=G
   rw[this];omega
 ·rcases bn (rd s (rd row i-1)) c with e|e
  ·have:=kP (s:=s) d0 e (by omega:c<=k);omega
  ·exact absurd (Vu G) a.2.1.not_S
 ·omega
include hk hs hR in
theorem aEy {i:Int} (h:jM s k R T row3 row E (CS s row (i+1))) (b:rU s k R T row3) (i0:0<=i) (hi:i<s.length) (hc:0<rd row i/\smB s (rd row i-1)=true):
  jM s k R T row3 (upd row (rd E (rd s (rd row i-1))-1) (rd row i-1)) (upd E (rd s (rd row i-1)) (rd E (rd s (rd row i-1))-1)) (CS s (upd row (rd E (rd s (rd row i-1))-1) (rd row i-1)) i):=by
 obtain⟨hp,hn,hj,bc⟩:=RI hk hs h b i0 hi hc;have qu:=h.room hk hs b hp hn;have ie: ∀q,0<=q->rd (upd row (rd E (rd s (rd row i-1))-1) (rd row i-1)) q=if q=rd E (rd s (rd row i-1))-1 then rd row i-1 else rd row q:=λq q0=>gG qu.2.2.1.1 q0 (by rw[h.len];exact qu.2.2.1.2)
 refine h.lay hk hs hR b hp hn (λp' cm=> ?_) λp' cm he hex=> ?_
 ·unfold CS;constructor
  ·rintro ⟨q,q0,q1,e⟩;rw[ie q G,bz G] at e;rcases bn i q with a|a
   ·exact .inl ⟨q,G,q1,e⟩
   ·have:q=i:=G
    subst this;exact .inr G
  ·rintro (⟨q,q0,q1,e⟩|e)
   ·exact⟨q,G,q1,by rw[ie q G,bz G];exact e⟩
   ·exact⟨i,G,hi,by rw[ie i i0,bz G];omega⟩
 ·have Tt:=hp.1;obtain⟨q,q0,q1,e⟩:=(h.closed _ cm).1 hex;have h1:=h.entry hk hs b (q:=q) G q1;have h2:=cm.1;have:=h.sorted i q i0 G q1 G G;rw[e] at this;refine hR.backS hp cm G G he.symm ?_;rwa[show rd row i-1+1=rd row i by omega]
include hk hs in
theorem RJ (h:jM s k R T row3 row E (CS s row 0)) (b:rU s k R T row3): ∀(m:Nat) (p:Int),s.length-p<=m->isS s p-> ∃q:Int,0<=q/\q<s.length/\rd row q=p
 |0,p,hm,hp=>by have:=hp.1;omega
 | m+1,p,hm,hp=>by
  have hb:=hp.1;rw[h.closed p hp];obtain⟨a,_,_⟩:=hp.next;rcases qY (s:=s) (p:=p+1) G with l|l
  ·obtain ⟨q,q0,q1,e⟩:=b.all (p+1) l;refine⟨q,q0,q1,?_⟩;obtain⟨c,⟨c0,ck⟩,h1,h2⟩:=gU hk hs q0 q1;have hE:=h.hE c c0 ck;have hr:=KY (b:=b) c0 ck;rw[h.rest c q c0 ck h1 ?_,e];rcases bn q (T c) with d|d
   ·omega
   ·have:=b.none_ c q c0 ck d h2;omega
  ·exact RJ h b m (p+1) G l
include hk hs in
theorem aBf (h:jM s k R T row3 row E C) (b:rU s k R T row3) {p:Int} (hp:isL s p): ∃q:Int,0<=q/\q<s.length/\rd row q=p:=by
 obtain⟨q,q0,q1,e⟩:=b.all p hp;refine⟨q,q0,q1,?_⟩;obtain⟨c,⟨c0,ck⟩,h1,h2⟩:=gU hk hs q0 q1;have hE:=h.hE c c0 ck;have hr:=KY (b:=b) c0 ck;have hb:=hp.1;rw[h.rest c q c0 ck h1 ?_,e];rcases bn q (T c) with d|d
 ·omega
 ·have:=b.none_ c q c0 ck d h2;omega
include hk hs in
theorem DJ (h:jM s k R T row3 row E (CS s row 0)) (b:rU s k R T row3):row.Perm (iota s.length)/\(∀q:Int,0<=q->q+1<s.length->rd s (rd row q)<=rd s (rd row (q+1)))/\row.Pairwise R:=by
 have ju: ∀p:Int,0<=p/\p<s.length-> ∃q:Int,0<=q/\q<s.length/\rd row q=p:=λp hp=>by
  rcases qY hp with l|l
  ·exact aBf hk hs h b l
  ·exact RJ hk hs h b (s.length-p).toNat p G l
 have sv:(iota s.length).Perm row:=qU (eH _) (λx hx=>by
  obtain⟨q,q0,q1,rfl⟩:=ju x (aZ.1 hx)
  exact bJ q0 (by rw[h.len];exact q1)) (by rw[h.len,bB];exact di _)
 have fg: ∀q:Int,0<=q->q<s.length->0<=rd row q/\rd row q<s.length:=λq q0 q1=>aZ.1 (sv.symm.subset (bJ q0 (by rw[h.len];exact q1)))
 have l5: ∀c q:Int,0<=c->c<k->st s k c<=q->q<st s k (c+1)->0<=q->q<s.length->rd s (rd row q)=c:=λc q c0 ck h1 h2 q0 q1=>by
  have hp:=fg q q0 q1;rcases h.at_ b c0 ck h1 h2 with a|a|a
  ·exact a.2.2
  ·exact a.2.2
  ·omega
 refine⟨sv.symm,λq q0 q1=> ?_,?_⟩
 ·obtain ⟨c,⟨c0,ck⟩,h1,h2⟩:=gU hk hs q0 G;obtain⟨d,⟨d0,dk⟩,h3,h4⟩:=gU hk hs (q:=q+1) G q1;rw[l5 c q c0 ck h1 h2 q0 G,l5 d (q+1) d0 dk h3 h4 G q1];rcases bn d c with e|e
  ·have:=kP (s:=s) d0 e (by omega:c<=k);omega
  ·exact e
 ·refine dn.2 λx y hx hy Qs=> ?_
  have e: ∀z (hz:z<row.length),rd row z=row[z]:=λz hz=>by
   unfold rd;rw[cz,ak,av hz];rfl
  rw[h.len] at hx hy;have:=h.sorted x y G G G (fg x G G).1 (fg y G G).1;rwa[e x (by rw[h.len];exact hx),e y (by rw[h.len];exact hy)] at this
end
end Go.Pure
namespace Go.Pure
open Go Go.Eng
section
variable {s:AH} {k:Int}
structure xJ (s:AH) (k:Int) (l:AH) (row E:AH):Prop where
 len:row.length=s.length
 elen:E.length=k.toNat
 hE: ∀c,0<=c->c<k->rd E c=st s k (c+1)-(dZ l s c).length
 vals: ∀c u:Int,0<=c->c<k->0<=u->u<(dZ l s c).length->rd row (rd E c+u)=rd (dZ l s c) u
 none_: ∀c q,0<=c->c<k->st s k c<=q->q<rd E c->rd row q= -1
def kH (s l:AH):Prop:=l.Nodup/\ ∀j∈l,(0<=j/\j<s.length)/\gK s j=true
theorem kK {l:AH} (h:l.Perm (bQ s)):kH s l:=⟨h.symm.nodup (zT s),λj hj=>sW.1 (h.subset hj)⟩
theorem kH.tail {l:AH} {j:Int} (h:kH s (j::l)):kH s l:=⟨(wo.1 h.1).2,λx hx=>h.2 x (fe _ hx)⟩
theorem kH.small {l:AH} (h:kH s l) {j:Int} (hj:j∈l):isS s j:=⟨(h.2 j hj).1,(nE.1 (h.2 j hj).2).2.1⟩
theorem wI {l:AH} (h:kH s l) (c:Int):(dZ l s c).length<=(IV s c).length:=
 oH (h.1.sublist ul) λx hx=>by
  obtain⟨h1,h2⟩:=ol.1 hx;rw[iv] at h2;exact MX.2 ⟨h.small h1,h2⟩
theorem pO {l keys:AH} {j c:Int} (h:rd keys j=c):dZ (j::l) keys c=j::dZ l keys c:=by
 unfold dZ;rw[qa (by simpa using h)]
theorem sS {l keys:AH} {j c:Int} (h:rd keys j≠c):dZ (j::l) keys c=dZ l keys c:=by
 unfold dZ;rw[ll (by simpa using h)]
theorem aGt (hk:0<=k) (hs: ∀x∈s,0<=x/\x<k) {E:AH} (hE:E.length=k.toNat) (Ru: ∀c,0<=c->c<k->rd E c=st s k (c+1)):xJ s k [] (List.replicate s.length (-1)) E:=by
 refine⟨cD,hE,λc c0 ck=>by rw[Ru c c0 ck];simp[dZ],λc u _ _ _ hu=>by simp[dZ] at hu;omega,λc q c0 ck h1 h2=> ?_⟩;rw[Ru c c0 ck] at h2;have h0:=fT (s:=s) (k:=k) (c:=c);have h3:=yO hk hs (c:=c+1) G G;unfold rd;rw[ak,Aq,df G];rfl
variable {row E:AH} {l:AH} {j:Int}
theorem xJ.room (hk:0<=k) (hs: ∀x∈s,0<=x/\x<k) (h:xJ s k l row E) (ok:kH s (j::l)):st s k (rd s j)<=rd E (rd s j)-1/\(0<=rd E (rd s j)-1/\rd E (rd s j)-1<s.length)/\(0<=rd s j/\rd s j<k)/\rd E (rd s j)<=st s k (rd s j+1):=by
 have hj:=ok.2 j cD;obtain⟨c0,ck⟩:=nI hs hj.1;have h1:=wI ok (rd s j);rw[pO rfl,dh] at h1;have h2:=kN (s:=s) c0 ck;have h3:=h.hE _ c0 ck;have h4:=fT (s:=s) (k:=k) (c:=rd s j);have h5:=yO hk hs (c:=rd s j+1) G G;omega
theorem xJ.step (hk:0<=k) (hs: ∀x∈s,0<=x/\x<k) (h:xJ s k l row E) (ok:kH s (j::l)):xJ s k (j::l) (upd row (rd E (rd s j)-1) j) (upd E (rd s j) (rd E (rd s j)-1)):=by
 obtain⟨r1,⟨r2,r3⟩,⟨c0,ck⟩,r4⟩:=h.room hk hs ok;have ie: ∀q,0<=q->rd (upd row (rd E (rd s j)-1) j) q=if q=rd E (rd s j)-1 then j else rd row q:=λq q0=>gG r2 q0 (by rw[h.len];omega)
 have Og: ∀c,0<=c->rd (upd E (rd s j) (rd E (rd s j)-1)) c=if c=rd s j then rd E (rd s j)-1 else rd E c:=λc Rk=>gG c0 Rk (by rw[h.elen];omega)
 refine⟨by rw[aY];exact h.len,by rw[aY];exact h.elen,λc d0 dk=> ?_,λc u d0 dk u0 hu=> ?_,λc q d0 dk q1 q2=> ?_⟩
 ·rw [Og c d0];by_cases e:c=rd s j
  ·rw[df e,e,pO rfl,h.hE _ c0 ck,dh];omega
  ·rw[bz e,sS λh=>e h.symm];exact h.hE c d0 dk
 ·rw [Og c d0];have Ll:=h.hE c d0 dk;have hsc:=kN (s:=s) d0 dk;have Ek:=wI ok c;have k6:=fT (s:=s) (k:=k) (c:=c);by_cases e:c=rd s j
  ·subst e;rw[df rfl];rw[pO rfl] at hu Ek ⊢;rw[dh] at hu Ek;rw[ie _ G];by_cases e2:u=0
   ·subst e2;rw[df G];rfl
   ·rw [bz G];have:=h.vals _ (u-1) c0 ck G G;rw[show rd E (rd s j)-1+u=rd E (rd s j)+(u-1) by omega,this];unfold rd;rw[show u.toNat=(u-1).toNat+1 by omega];rfl
  ·rw [bz e];rw[sS λh=>e h.symm] at hu Ek ⊢;rw[ie _ G,bz,h.vals c u d0 dk u0 hu];intro e2;exact e (oJ (s:=s) d0 dk c0 ck (q:=rd E c+u) G G G G)
 ·rw [Og c d0] at q2;have Ll:=h.hE c d0 dk;have k6:=fT (s:=s) (k:=k) (c:=c);rw[ie q G];by_cases e:c=rd s j
  ·rw [df e] at q2;rw[bz G];subst e;exact h.none_ _ q d0 dk q1 G
  ·rw [bz e] at q2;rw[bz,h.none_ c q d0 dk q1 q2];intro e2;exact e (oJ (s:=s) d0 dk c0 ck (q:=q) q1 G G G)
theorem iP {l:AH} {u:Nat} (h:u<l.length):rd l (u:Int)=l[u]:=by
 unfold rd;rw[cz,ak,av h];rfl
theorem fI {l:AH} {i:Int} (h0:0<=i) (h:i<l.length):rd l i=l[i.toNat]' G:=by
 unfold rd;rw[ak,av G];rfl
theorem eX {l:AH} {r:Int->Int->Prop} (h:l.Pairwise r) {i j:Int} (h0:0<=i) (oa:i<j) (hj:j<l.length):r (rd l i) (rd l j):=by
 rw[fI h0 G,fI G hj];exact dn.1 h i.toNat j.toNat G G G
theorem jT {l:AH} (hd:l.Nodup) {i j:Int} (h0:0<=i) (h:i<l.length) (g0:0<=j) (g:j<l.length) (e:rd l i=rd l j):i=j:=by
 have hi:i.toNat<l.length:=G
 have hj:j.toNat<l.length:=G
 unfold rd at e;rw[ak,ak,av hi,av hj] at e;simp only[oh] at e;rcases jd i j with a|a|a
 ·exact absurd e (dn.1 hd i.toNat j.toNat hi hj G)
 ·exact a
 ·exact absurd e.symm (dn.1 hd j.toNat i.toNat hj hi G)
theorem uP {R:Int->Int->Prop} (hR:bAh s R) (hk:0<=k) (hs: ∀x∈s,0<=x/\x<k) (h:xJ s k l row E) (hp:l.Perm (bQ s)) (hσ: ∀c,(dZ l s c).Pairwise R):uX s k R (λc=>(dZ l s c).length) row:=by
 have ok:=kK hp
 have rg: ∀c q,0<=c->c<k->st s k c<=q->q<st s k (c+1)->(q<rd E c/\rd row q= -1)\/(rd E c<=q/\rd row q=rd (dZ l s c) (q-rd E c)/\rd row q∈dZ l s c):=by
  intro c q c0 ck h1 h2;have Ll:=h.hE c c0 ck;rcases bn q (rd E c) with a|a
  ·exact .inl ⟨a,h.none_ c q c0 ck h1 a⟩
  ·have:=h.vals c (q-rd E c) c0 ck G G;rw[show rd E c+(q-rd E c)=q by omega] at this;refine .inr ⟨a,this,?_⟩;rw[this];exact bJ G G
 have gd: ∀ {c x},x∈dZ l s c->isS s x/\rd s x=c/\x∈l:=λ{c x} hx=>by
  obtain⟨h1,h2⟩:=ol.1 hx;rw[iv] at h2;exact⟨ok.small h1,h2,h1⟩
 have fg: ∀q:Int,0<=q->q<s.length->0<=rd row q-> ∃c,(0<=c/\c<k)/\st s k c<=q/\q<st s k (c+1)/\rd E c<=q/\rd row q=rd (dZ l s c) (q-rd E c)/\rd row q∈dZ l s c:=by
  intro q q0 q1 hq;obtain⟨c,⟨c0,ck⟩,h1,h2⟩:=gU hk hs q0 q1;rcases rg c q c0 ck h1 h2 with a|a
  ·omega
  ·exact⟨c,⟨c0,ck⟩,h1,h2,a⟩
 refine⟨h.len,λc c0 ck=>⟨G,by have:=wI ok c;omega⟩,λc q c0 ck h1 h2=> ?_,λc q c0 ck h1 h2=> ?_,λq r q0 q1 r0 r1 hq e=> ?_,λp p0 p1 hf=> ?_,λx y x0 xy y1 hx hy=> ?_⟩
 ·have Ll:=h.hE c c0 ck;have gs:=kN (s:=s) c0 ck;have:=wI ok c;rcases rg c q c0 ck G h2 with a|a
  ·omega
  ·have:=gd a.2.2;exact⟨this.1,this.2.1⟩
 ·have Ll:=h.hE c c0 ck;exact h.none_ c q c0 ck h1 G
 ·rw [h.len] at q1 r1;obtain⟨c,⟨c0,ck⟩,h1,h2,h3,h4,h5⟩:=fg q q0 q1 hq;obtain⟨d,⟨d0,dk⟩,g1,g2,g3,g4,g5⟩:=fg r r0 r1 G
  have Kq:c=d:=by
   have a:=(gd h5).2.1;have b:=(gd g5).2.1;rw[e] at a;omega
  subst Kq;have Ll:=h.hE c c0 ck;rw[h4,g4] at e;have:=jT (ok.1.sublist ul:(dZ l s c).Nodup) G G G G e;omega
 ·have ua:=hp.symm.subset (sW.2 ⟨⟨p0,p1⟩,hf⟩);obtain⟨c0,ck⟩:=nI hs ⟨p0,p1⟩;have Me:p∈dZ l s (rd s p):=ol.2 ⟨ua,cD⟩;obtain⟨u,hu,e⟩:=gz.1 Me;have Ll:=h.hE _ c0 ck;have gs:=kN (s:=s) c0 ck;have Ek:=wI ok (rd s p);have k6:=fT (s:=s) (k:=k) (c:=rd s p);have pv:=yO hk hs (c:=rd s p+1) G G;refine⟨rd E (rd s p)+u,G,G,?_⟩;rw[h.vals _ u c0 ck G G,iP hu];exact e
 ·obtain ⟨c,⟨c0,ck⟩,h1,h2,h3,h4,h5⟩:=fg x x0 G hx;obtain⟨d,⟨d0,dk⟩,g1,g2,g3,g4,g5⟩:=fg y G y1 hy;have a:=gd h5;have b:=gd g5;rcases jd c d with Kq|Kq|Kq
  ·exact hR.char a.1.1 b.1.1 G
  ·subst Kq;have Ll:=h.hE c c0 ck;rw[h4,g4];exact eX (hσ c) G G G
  ·have:=kP (s:=s) d0 Kq (by omega:c<=k);omega
def noS (s:AH) (x:Int):Int:=if 0<=x/\smB s x=true then -1 else x
theorem cleared (hk:0<=k) (hs: ∀x∈s,0<=x/\x<k) {R R':Int->Int->Prop} (Km: ∀p q,isL s p->isL s q->R p q->R' p q) {mF:Int->Int} {row0 H V:AH} (h:jN s k R mF row0 row H (CL s row s.length)) (b:uX s k R mF row0) (hl:V.length=s.length) (hV: ∀q:Int,0<=q->q<s.length->rd V q=noS s (rd row q)):
  rU s k R' (λc=>rd H c) V/\ ∀q:Int,0<=q->q<s.length-> ¬isS s (rd V q):=by
 have k6: ∀q:Int,0<=q->q<s.length->0<=rd V q->rd V q=rd row q:=λq q0 q1 hq=>by
  rw[hV q q0 q1] at hq ⊢;unfold noS at hq ⊢;split
  ·rename_i e;rw[df e] at hq;omega
  ·rfl
 have hL: ∀q:Int,0<=q->q<s.length->isL s (rd row q)->rd V q=rd row q:=λq q0 q1 hq=>by
  rw[hV q q0 q1];unfold noS;rw[bz];rintro⟨_,e⟩;exact hq.not_S ⟨hq.1,e⟩
 refine⟨⟨hl,h.hH,λc q c0 ck h1 h2=> ?_,λc q c0 ck h1 h2=> ?_,λq r q0 q1 r0 r1 hq e=> ?_,λp hp=> ?_,λx y x0 xy y1 hx hy=> ?_⟩,λq q0 q1 hq=> ?_⟩
 ·have h0:=fT (s:=s) (k:=k) (c:=c);have hH:=h.hH c c0 ck;have hr:=JH (b:=b) c0 ck;have hm:=b.m0 c c0 ck;have pv:=yO hk hs (c:=c+1) G G;have:=h.placed c q c0 ck h1 h2;rw[hL q G G this.1];exact this
 ·have h0:=fT (s:=s) (k:=k) (c:=c);have hH:=h.hH c c0 ck;have pv:=yO hk hs (c:=c+1) G G;rw[hV q G G];unfold noS;rcases h.at_ b c0 ck G h2 with a|a|a
  ·omega
  ·rw[df ⟨a.2.1.1.1,a.2.1.2⟩]
  ·rw[a.2,bz G]
 ·rw [hl] at q1 r1;have e1:=k6 q q0 q1 hq;have e2:=k6 r r0 r1 G;exact h.once q r q0 (by rw[h.len];exact q1) r0 (by rw[h.len];exact r1) G G
 ·obtain ⟨q,q0,q1,e⟩:=TA hk hs h b (s.length-p).toNat p G hp;exact⟨q,q0,q1,by rw[hL q q0 q1 (by rw[e];exact hp)];exact e⟩
 ·have ex:=k6 x x0 G hx;have ey:=k6 y G y1 hy;rw[ex,ey];rw[ex] at hx;rw[ey] at hy
  have hLV: ∀q:Int,0<=q->q<s.length->0<=rd row q->rd V q=rd row q->isL s (rd row q):=λq q0 q1 hq eV=>by
   obtain⟨c,⟨c0,ck⟩,h1,h2⟩:=gU hk hs q0 q1;rcases h.at_ b c0 ck h1 h2 with a|a|a
   ·exact a.2.1
   ·rw [hV q q0 q1] at eV;unfold noS at eV;rw[df ⟨a.2.1.1.1,a.2.1.2⟩] at eV;omega
   ·omega
  exact Km _ _ (hLV x x0 G hx ex) (hLV y G y1 hy ey) (h.sorted x y x0 xy y1 hx hy)
 ·have e:=k6 q q0 q1 hq.1.1;rw[e] at hq;rw[hV q q0 q1] at e;unfold noS at e;rw[df ⟨hq.1.1,hq.2⟩] at e;have:=hq.1.1;omega
def bIx (s:AH) (j:Int) (z:AH × AH):AH × AH:=(upd z.1 (rd z.2 (rd s j)-1) j,upd z.2 (rd s j) (rd z.2 (rd s j)-1))
def bDm (s:AH) (j:Int) (z:AH × AH):AH × AH:=(upd z.1 (rd z.2 (rd s j)) j,upd z.2 (rd s j) (rd z.2 (rd s j)+1))
def YS (s:AH) (i:Int) (z:AH × AH):AH × AH:=if 0<rd z.1 i/\smB s (rd z.1 i-1)=false then bDm s (rd z.1 i-1) z else z
def YQ (s:AH) (i:Int) (z:AH × AH):AH × AH:=if 0<rd z.1 i/\smB s (rd z.1 i-1)=true then bIx s (rd z.1 i-1) z else z
def rC (cs:AH):AH:=(List.range cs.length).map λi:Nat=>ps cs ((i:Int)+1)
def itF (s:AH) (k:Int) (l:AH):AH × AH:=l.foldr (bIx s) (List.replicate s.length (-1),rC (eG s k))
def itL (s:AH) (k:Int) (l:AH):Nat->AH × AH
 |0=>bDm s (s.length-1) ((itF s k l).1,dF (eG s k))
 |i+1=>YS s i (itL s k l i)
def EC (s row:AH):AH:=row.map (noS s)
def itS (s:AH) (k:Int) (l:AH):Nat->AH × AH
 |0=>(EC s (itL s k l s.length).1,rC (eG s k))
 |m+1=>YQ s (s.length-1-m) (itS s k l m)
def qZ (s:AH) (k:Int) (l:AH):AH:=(itS s k l s.length).1
theorem GA (cs:AH):(rC cs).length=cs.length:=by simp[rC]
theorem LV {cs:AH} {i:Int} (h0:0<=i) (h:i<cs.length):rd (rC cs) i=ps cs (i+1):=by
 unfold rC;rw[gY h0 h];rw[show((i.toNat:Nat):Int)=i by omega]
variable (hk:0<=k) (hs: ∀x∈s,0<=x/\x<k)
include hk hs in
theorem zS: ∀ {l:AH},kH s l->xJ s k l (itF s k l).1 (itF s k l).2
 |[],_=>aGt hk hs (by show(rC _).length=_;rw[GA,eB]) λc c0 ck=>by
  show rd (rC _) c=_;rw[LV c0 (by rw[eB];omega)];rfl
 |j::l,ok=>(zS (l:=l) ok.tail).step hk hs ok
section
variable {R R':Int->Int->Prop} (hR:bAh s R) (Mv:bFa s R') (Km: ∀p q,isL s p->isL s q->R p q->R' p q) (hσ: ∀c,(dZ l s c).Pairwise R)
include hk hs hR hσ in
theorem WH (hp:l.Perm (bQ s)) (hn:0<s.length): ∀i:Nat,i<=s.length->jN s k R (λc=>(dZ l s c).length) (itF s k l).1 (itL s k l i).1 (itL s k l i).2 (CL s (itL s k l i).1 i)
 |0,_=>aBg hk hs hR (uP hR hk hs (zS hk hs (kK hp)) hp hσ) hn (by rw[fG,eB]) λc c0 ck=>nU c0 (by rw[eB];omega)
 | i+1,hi=>by
  have ih:=WH hp hn i G;have b:=uP hR hk hs (zS hk hs (kK hp)) hp hσ;rw[show((i+1:Nat):Int)=(i:Int)+1 by omega];rw[itL];unfold YS;split
  ·rename_i hc;exact aGh hk hs hR ih b G G hc
  ·rename_i hc;exact aGi ih hc
theorem bCb {row:AH} {q:Int} (h0:0<=q) (h:q<row.length):rd (EC s row) q=noS s (rd row q):=by
 unfold EC rd;rw[ak,ak,tq,av G];rfl
include hk hs hR hσ Km in
theorem rR (hp:l.Perm (bQ s)) (hn:0<s.length):rU s k R' (λc=>rd (itL s k l s.length).2 c) (EC s (itL s k l s.length).1)/\ ∀q:Int,0<=q->q<s.length-> ¬isS s (rd (EC s (itL s k l s.length).1) q):=by
 have h:=WH hk hs hR hσ hp hn s.length (di _);exact cleared hk hs Km h (uP hR hk hs (zS hk hs (kK hp)) hp hσ) (by unfold EC;rw[cu];exact h.len) λq q0 q1=>bCb q0 (by rw[h.len];exact q1)
include hk hs hR Mv hσ Km in
theorem WG (hp:l.Perm (bQ s)) (hn:0<s.length): ∀m:Nat,m<=s.length->jM s k R' (λc=>rd (itL s k l s.length).2 c) (EC s (itL s k l s.length).1) (itS s k l m).1 (itS s k l m).2 (CS s (itS s k l m).1 (s.length-m))
 | 0,_=>by
  have b:=rR hk hs hR Km hσ hp hn
  exact YX b.1 (by show(rC _).length=_;rw[GA,eB]) (λc c0 ck=>by
   show rd (rC _) c=_;rw[LV c0 (by rw[eB];omega)]
   rfl) b.2
 | m+1,hm=>by
  have ih:=WG hp hn m G;have b:=(rR hk hs hR Km hσ hp hn).1;rw[show(s.length:Int)-(m:Nat)=(s.length-1-(m:Int))+1 by omega] at ih;rw[show(s.length:Int)-((m+1:Nat):Int)=s.length-1-(m:Int) by omega];rw[itS];unfold YQ;split
  ·rename_i hc;exact aEy hk hs Mv ih b G G hc
  ·rename_i hc;exact aEz ih hc
include hk hs hR Mv hσ Km in
theorem aBm (hp:l.Perm (bQ s)) (hn:0<s.length):(qZ s k l).Perm (iota s.length)/\(∀q:Int,0<=q->q+1<s.length->rd s (rd (qZ s k l) q)<=rd s (rd (qZ s k l) (q+1)))/\(qZ s k l).Pairwise R':=by
 have h:=WG hk hs hR Mv Km hσ hp hn s.length (di _);rw[show(s.length:Int)-(s.length:Nat)=0 by omega] at h;exact DJ hk hs h (rR hk hs hR Km hσ hp hn).1
end
def RO (s l:AH) (x y:Int):Prop:=l.Pairwise (bU s)->bU s x y
theorem bAi:bAh s (RO s l):=⟨λhp hq h _=>sP hp hq h,λhp hq h _=>aGc hp hq h,λhn q0 hq e _ _=>aUu hn q0 hq e,λhp hq p1 q1 e h hσ=>MN hp.1.1 p1 hq.1.1 q1 e (h hσ)⟩
theorem bPv:bFa s (RO s l):=⟨λhp hq h _=>sP hp hq h,λhp hq h _=>aGc hp hq h,λhp hq p1 q1 e h hσ=>MN hp.1.1 p1 hq.1.1 q1 e (h hσ)⟩
theorem PK (c:Int):(dZ l s c).Pairwise (RO s l):=by
 by_cases h:l.Pairwise (bU s)
 ·exact(h.sublist ul:(dZ l s c).Pairwise (bU s)).imp λh _=>h
 ·exact List.pairwise_of_forall λ_ _ hσ=>absurd hσ h
include hk hs in
theorem wW (hp:l.Perm (bQ s)):uX s k (RO s l) (λc=>(dZ l s c).length) (itF s k l).1:=uP bAi hk hs (zS hk hs (kK hp)) hp PK
include hk hs in
theorem WI (hp:l.Perm (bQ s)) (hn:0<s.length): ∀i:Nat,i<=s.length->jN s k (RO s l) (λc=>(dZ l s c).length) (itF s k l).1 (itL s k l i).1 (itL s k l i).2 (CL s (itL s k l i).1 i):=WH hk hs bAi PK hp hn
include hk hs in
theorem OO (hp:l.Perm (bQ s)) (hn:0<s.length):rU s k (RO s l) (λc=>rd (itL s k l s.length).2 c) (EC s (itL s k l s.length).1)/\ ∀q:Int,0<=q->q<s.length-> ¬isS s (rd (EC s (itL s k l s.length).1) q):=rR hk hs bAi (λ_ _ _ _ h=>h) PK hp hn
include hk hs in
theorem aWd (hp:l.Perm (bQ s)) (hn:0<s.length): ∀m:Nat,m<=s.length->jM s k (RO s l) (λc=>rd (itL s k l s.length).2 c) (EC s (itL s k l s.length).1) (itS s k l m).1 (itS s k l m).2 (CS s (itS s k l m).1 (s.length-m)):=WG hk hs bAi bPv (λ_ _ _ _ h=>h) PK hp hn
include hk hs in
theorem aKn (hp:l.Perm (bQ s)) (hn:0<s.length):(qZ s k l).Perm (iota s.length)/\(∀q:Int,0<=q->q+1<s.length->rd s (rd (qZ s k l) q)<=rd s (rd (qZ s k l) (q+1)))/\(l.Pairwise (bU s)->(qZ s k l).Pairwise (bU s)):=by
 have h:=aBm hk hs (l:=l) bAi bPv (λ_ _ _ _ h=>h) PK hp hn;exact⟨h.1,h.2.1,λhσ=>h.2.2.imp λh=>h hσ⟩
end
end Go.Pure
namespace Go.Pure
open Go Go.Eng
section
variable {s:AH} {k:Int} {l row E H V:AH}
theorem aWe {m:Nat} (hm:m<l.length):itF s k (l.drop m)=bIx s (rd l (m:Int)) (itF s k (l.drop (m+1))):=by
 unfold itF;rw[iP hm,kv hm,List.foldr_cons]
theorem DR (h:kH s l) (m:Nat):kH s (l.drop m):=⟨h.1.sublist (zz _ _),λj hj=>h.2 j (pq hj)⟩
variable (hk:0<=k) (hs: ∀x∈s,0<=x/\x<k)
include hk hs in
include hk hs in
theorem fF (hp:l.Perm (bQ s)) {m:Nat} (hm:m<l.length) (hr:row=(itF s k (l.drop (m+1))).1) (hE:E=(itF s k (l.drop (m+1))).2):
  (0<=rd l (m:Int)/\rd l (m:Int)<s.length)/\(0<=rd s (rd l (m:Int))/\rd s (rd l (m:Int))<k)/\(0<=rd E (rd s (rd l (m:Int)))-1/\rd E (rd s (rd l (m:Int)))-1<s.length)/\(row.length=s.length/\E.length=k.toNat)/\
  upd row (rd E (rd s (rd l (m:Int)))-1) (rd l (m:Int))=(itF s k (l.drop m)).1/\upd E (rd s (rd l (m:Int))) (rd E (rd s (rd l (m:Int)))-1)=(itF s k (l.drop m)).2:=by
 have ok:=kK hp;have h:=zS hk hs (DR ok (m+1))
 have ok2:kH s (rd l (m:Int)::l.drop (m+1)):=by
  have:=DR ok m;rwa[kv hm,<-iP hm] at this
 have r:=h.room hk hs ok2;rw[aWe hm];subst hr;subst hE;exact⟨(ok2.2 _ cD).1,r.2.2.1,r.2.1,⟨h.len,h.elen⟩,rfl,rfl⟩
include hk hs in
theorem fL0 (hp:l.Perm (bQ s)) (hn:0<s.length) (hr:row=(itF s k l).1) (hH:H=dF (eG s k)):
  (0<=rd s ((s.length:Int)-1)/\rd s ((s.length:Int)-1)<k)/\(0<=rd H (rd s ((s.length:Int)-1))/\rd H (rd s ((s.length:Int)-1))<s.length)/\(row.length=s.length/\H.length=k.toNat)/\
  upd row (rd H (rd s ((s.length:Int)-1))) ((s.length:Int)-1)=(itL s k l 0).1/\upd H (rd s ((s.length:Int)-1)) (rd H (rd s ((s.length:Int)-1))+1)=(itL s k l 0).2/\smB s ((s.length:Int)-1)=false:=by
 have h:=zS hk hs (kK hp);have hc:=nI hs (p:=(s.length:Int)-1) G;have gs:rd H (rd s ((s.length:Int)-1))=st s k (rd s ((s.length:Int)-1)):=by rw[hH,nU hc.1 (by rw[eB];omega)];rfl
 have h1:=fT (s:=s) (k:=k) (c:=rd s ((s.length:Int)-1));have h2:=kN (s:=s) hc.1 hc.2;have h3:=yO hk hs (c:=rd s ((s.length:Int)-1)+1) G G;have hl:isL s ((s.length:Int)-1):=⟨G,qO G G⟩;have h4:0<(IW s (rd s ((s.length:Int)-1))).length:=Dl (MZ.2 ⟨hl,rfl⟩);have Qp:=hl.2;subst hr;subst hH;exact⟨hc,G,⟨h.len,by rw[fG,eB]⟩,rfl,rfl,Qp⟩
include hk hs in
theorem fLe (hp:l.Perm (bQ s)) (hn:0<s.length) {i:Nat} (hi:i<s.length) (hr:row=(itL s k l i).1) (hH:H=(itL s k l i).2):
  (rd row (i:Int)= -1\/(0<=rd row (i:Int)/\rd row (i:Int)<s.length))/\(row.length=s.length/\H.length=k.toNat):=by
 have h:=WI hk hs hp hn i G;have b:=wW hk hs hp;subst hr;subst hH;exact⟨h.entry hk hs b G G,h.len,h.hlen⟩
include hk hs in
theorem fL (hp:l.Perm (bQ s)) (hn:0<s.length) {i:Nat} (hi:i<s.length) (hr:row=(itL s k l i).1) (hH:H=(itL s k l i).2) (hc:0<rd row (i:Int)/\smB s (rd row (i:Int)-1)=false):
  rd row (i:Int)<s.length/\(0<=rd s (rd row (i:Int)-1)/\rd s (rd row (i:Int)-1)<k)/\(0<=rd H (rd s (rd row (i:Int)-1))/\rd H (rd s (rd row (i:Int)-1))<s.length)/\
  upd row (rd H (rd s (rd row (i:Int)-1))) (rd row (i:Int)-1)=(itL s k l (i+1)).1/\upd H (rd s (rd row (i:Int)-1)) (rd H (rd s (rd row (i:Int)-1))+1)=(itL s k l (i+1)).2:=by
 have h:=WI hk hs hp hn i G;have b:=wW hk hs hp;subst hr;subst hH;obtain⟨h1,h2,h3,_⟩:=SY hk hs h b G G hc;have hb:=nI hs h1.1;have hr:=h.room hk hs b h1 h2;have h4:=(h.hH _ hb.1 hb.2).1;have h5:=fT (s:=s) (k:=k) (c:=rd s (rd (itL s k l i).1 (i:Int)-1));have h6:=yO hk hs (c:=rd s (rd (itL s k l i).1 (i:Int)-1)+1) G G;have h7:=kN (s:=s) hb.1 hb.2;refine⟨h3,hb,⟨G,G⟩,?_,?_⟩
 ·rw[itL,YS,df hc];rfl
 ·rw[itL,YS,df hc];rfl
theorem fLs {i:Nat} (hr:row=(itL s k l i).1) (hH:H=(itL s k l i).2) (hc: ¬(0<rd row (i:Int)/\smB s (rd row (i:Int)-1)=false)):row=(itL s k l (i+1)).1/\H=(itL s k l (i+1)).2:=by
 subst hr;subst hH;rw[itL,YS,bz hc];exact⟨rfl,rfl⟩
def rE (s row:AH) (i:Int):AH:=(row.take i.toNat).map (noS s)++row.drop i.toNat
theorem aQp:rE s row 0=row:=by simp[rE]
theorem aDg (i:Int):(rE s row i).length=row.length:=by simp[rE];omega
theorem aZd {i:Int} (h:(row.length:Int)<=i):rE s row i=EC s row:=by
 unfold rE EC;rw[bg G,ou G,jk]
theorem VP {i q:Int} (q0:0<=q) (hq:i<=q) (h0:0<=i) (hl:i<=row.length):rd (rE s row i) q=rd row q:=by
 unfold rE rd;rw[ak,ak,ig cH,qm];simp only[cu,ax];congr 2;omega
theorem TS {i:Int} (h0:0<=i) (hi:i<row.length):rE s row (i+1)=upd (rE s row i) i (noS s (rd row i)):=by
 unfold rE upd;have bc:i.toNat<row.length:=G
 rw[show(i+1).toNat=i.toNat+1 by omega,uf,av bc,Dz _ _ cH,jo];simp only[cu,ax,Cv,lm,si,gy,qc];congr 1;rw[show i.toNat-min i.toNat row.length=0 by omega,kv bc,Gi,fI h0 hi]
theorem bEm {i:Int} (h0:0<=i) (hi:i<row.length) (h:0<=rd (rE s row i) i/\smB s (rd (rE s row i) i)=true):upd (rE s row i) i (-1)=rE s row (i+1):=by
 rw[VP h0 (lq _) h0 G] at h;rw[TS h0 hi,noS,df h]
theorem aSc {l:AH} {i:Int} (h0:0<=i) (hi:i<l.length):upd l i (rd l i)=l:=by
 unfold upd;rw[fI h0 hi,List.set_getElem_self]
theorem bJq {i:Int} (h0:0<=i) (hi:i<row.length) (h: ¬(0<=rd (rE s row i) i/\smB s (rd (rE s row i) i)=true)):rE s row i=rE s row (i+1):=by
 have e:=VP (s:=s) (row:=row) h0 (lq _) h0 (by omega:i<=(row.length:Int));rw[e] at h;rw[TS h0 hi,noS,bz h];have:=aSc (l:=rE s row i) h0 (by rw[aDg];exact hi);rw[e] at this;exact this.symm
include hk hs in
theorem bEn (hp:l.Perm (bQ s)) (hn:0<s.length) {q:Int} (q0:0<=q) (hq:q<s.length):rd (itL s k l s.length).1 q= -1\/(0<=rd (itL s k l s.length).1 q/\rd (itL s k l s.length).1 q<s.length):=
 (WI hk hs hp hn s.length (di _)).entry hk hs (wW hk hs hp) q0 hq
include hk hs in
theorem JU (hp:l.Perm (bQ s)) (hn:0<s.length):(itL s k l s.length).1.length=s.length:=(WI hk hs hp hn s.length (di _)).len
include hk hs in
theorem fSe (hp:l.Perm (bQ s)) (hn:0<s.length) {m:Nat} (hm:m<s.length) {i:Int} (hi:i=s.length-1-(m:Int)) (hr:row=(itS s k l m).1) (hE:E=(itS s k l m).2):
  (rd row i= -1\/(0<=rd row i/\rd row i<s.length))/\(row.length=s.length/\E.length=k.toNat):=by
 have h:=aWd hk hs hp hn m G;have b:=(OO hk hs hp hn).1;subst hr;subst hE;exact⟨h.entry hk hs b G G,h.len,h.elen⟩
include hk hs in
theorem fS (hp:l.Perm (bQ s)) (hn:0<s.length) {m:Nat} (hm:m<s.length) {i:Int} (hi:i=s.length-1-(m:Int)) (hr:row=(itS s k l m).1) (hE:E=(itS s k l m).2) (hc:0<rd row i/\smB s (rd row i-1)=true):
  rd row i<s.length/\(0<=rd s (rd row i-1)/\rd s (rd row i-1)<k)/\(0<=rd E (rd s (rd row i-1))-1/\rd E (rd s (rd row i-1))-1<s.length)/\
  upd row (rd E (rd s (rd row i-1))-1) (rd row i-1)=(itS s k l (m+1)).1/\upd E (rd s (rd row i-1)) (rd E (rd s (rd row i-1))-1)=(itS s k l (m+1)).2:=by
 have h:=aWd hk hs hp hn m G;have b:=(OO hk hs hp hn).1;subst hr;subst hE;have lf:CS s (itS s k l m).1 (s.length-(m:Int))=CS s (itS s k l m).1 (i+1):=by rw[hi];congr 1;omega
 rw[lf] at h;obtain⟨h1,h2,h3,_⟩:=RI hk hs h b G G hc;have hb:=nI hs h1.1;have hr:=h.room hk hs b h1 h2;have h4:=h.hE _ hb.1 hb.2;have h5:=fT (s:=s) (k:=k) (c:=rd s (rd (itS s k l m).1 i-1));have h6:=yO hk hs (c:=rd s (rd (itS s k l m).1 i-1)+1) G G;have h7:=kN (s:=s) hb.1 hb.2;refine⟨h3,hb,⟨G,G⟩,?_,?_⟩
 ·rw[itS,YQ,<-hi,df hc];rfl
 ·rw[itS,YQ,<-hi,df hc];rfl
theorem fSs {m:Nat} {i:Int} (hi:i=s.length-1-(m:Int)) (hr:row=(itS s k l m).1) (hE:E=(itS s k l m).2) (hc: ¬(0<rd row i/\smB s (rd row i-1)=true)):row=(itS s k l (m+1)).1/\E=(itS s k l (m+1)).2:=by
 subst hr;subst hE;rw[itS,YQ,<-hi,bz hc];exact⟨rfl,rfl⟩
include hk hs in
theorem aWm (hp:l.Perm (bQ s)):(qZ s k l).length=s.length:=by
 rcases ed s.length with h|h
 ·have e:s=[]:=ek h;subst e;have hl:l=[]:=ek (by rw[hp.length_eq];rfl);subst hl;simp[qZ,itS,EC,itL,bDm,itF,upd]
 ·rw[(aKn hk hs hp h).1.length_eq,bB]
theorem aBn (hl:l.Perm (bQ [])):qZ [] k l=[]:=by
 have hl:l=[]:=ek (by rw[hl.length_eq];rfl);subst hl;simp[qZ,itS,EC,itL,bDm,itF,upd]
def smL (s:AH):List Bool:=(List.range s.length).map λi:Nat=>smB s (i:Int)
theorem bBd (s:AH):(smL s).length=s.length:=by simp[smL]
theorem nA {i:Int} (h0:0<=i) (hi:i<s.length):rdb (smL s) i=smB s i:=by
 unfold rdb smL;rw[ak,tq,Al G];simp only[ky,oh];congr 1;omega
theorem bHq {m:List Bool} (hl:m.length=s.length) (h: ∀j:Int,0<=j->j<s.length->rdb m j=smB s j):m=smL s:=
 aQx (by rw[hl,bBd]) λi h0 h1=>by rw[nA h0 G];exact h i h0 G
theorem UW {m:List Bool} {i:Int} {b:Bool} (h0:0<=i) (hi:i+1<s.length) (hl:m.length=s.length) (h: ∀j:Int,i<j->j<s.length->rdb m j=smB s j) (hb:b=true↔rd s i<rd s (i+1)\/rd s i=rd s (i+1)/\rdb m (i+1)=true): ∀j:Int,i-1<j->j<s.length->rdb (pU m i b) j=smB s j:=by
 intro j h1 h2;rw[xS h0 G G];split
 ·rename_i e;subst e;rw[h (j+1) G G,<-vT h0 hi] at hb;cases b<;>cases hh:smB s j<;>simp_all
 ·exact h j G h2
def NI (s:AH) (i:Int):AH:=(iota i.toNat).filter λi=>gK s i
theorem NH:NI s s.length=bQ s:=by unfold NI bQ;rw[cz]
theorem FX {i:Int} (h0:0<=i):NI s (i+1)=NI s i++(if gK s i=true then [i] else []):=by
 unfold NI;rw[FW h0,ui];congr 1;by_cases h:gK s i=true
 ·rw[df h,qa h];rfl
 ·rw[bz h,ll h];rfl
theorem aBr (i:Int):(NI s i).length<=i.toNat:=by
 unfold NI;refine qx (zt _ _) ?_;rw[bB];exact di _
theorem NJ:(bQ s).length<=s.length:=by rw[<-NH];have:=aBr (s:=s) s.length;omega
end
end Go.Pure
namespace Go.Pure
open Go Go.Eng
section
variable {s:AH} {k:Int}
theorem DF (n:Nat):(iota n).Pairwise (· < ·):=by
 unfold iota;refine iw.2 (List.Pairwise.imp (λh=> ?_) List.pairwise_lt_range);omega
def kk (s:AH) (p:Int):Int:=if p<s.length then 2*rd s p+(if smB s p=true then 1 else 0) else -1
theorem wT {p:Int} (h:(s.length:Int)<=p):kk s p= -1:=bz G
theorem DC {p:Int} (h:p<s.length):kk s p=2*rd s p+(if smB s p=true then 1 else 0):=df h
theorem WC {p:Int} (h:isL s p):kk s p=2*rd s p:=by rw[DC h.1.2,h.2];simp
theorem WB {p:Int} (h:isS s p):kk s p=2*rd s p+1:=by rw[DC h.1.2,h.2];simp
def Nn (s:AH):Prop:= ∀x∈s,0<=x
theorem aVy (hs:Nn s) {p:Int} (h0:0<=p) (h:p<s.length):0<=kk s p:=by
 have:=hs _ (bJ h0 h);rw[DC h];split<;>omega
theorem bLi (hs:Nn s) {p:Int} (h0:0<=p): -1<=kk s p:=by
 rcases bn p s.length with h|h
 ·have:=aVy hs h0 h;omega
 ·rw[wT h];omega
theorem pX (hs:Nn s) {p q:Int} (p0:0<=p) (q0:0<=q) (e:kk s p=kk s q) (h:p<s.length):q<s.length/\rd s p=rd s q/\smB s p=smB s q:=by
 have hq:q<s.length:=by
  rcases bn q s.length with a|a
  ·exact a
  ·have:=aVy hs p0 h;rw[wT a] at e;omega
 rw[DC h,DC hq] at e;cases a:smB s p<;>cases b:smB s q<;>simp[a,b] at e<;>exact⟨hq,G,by first|rfl|omega⟩
theorem bDn (hs:Nn s) {p q:Int} (p0:0<=p) (q0:0<=q) (h:kk s p<kk s q) (hp:p<s.length):bU s p q:=by
 have hq:q<s.length:=by
  rcases bn q s.length with a|a
  ·exact a
  ·have:=aVy hs p0 hp;rw[wT a] at h;omega
 rcases qY (s:=s) ⟨p0,hp⟩ with a|a<;>rcases qY (s:=s) ⟨q0,hq⟩ with b|b
 ·rw[WC a,WC b] at h;exact sP ⟨p0,hp⟩ ⟨q0,hq⟩ G
 ·rw [WC a,WB b] at h;by_cases e:rd s p=rd s q
  ·exact aGc a b e
  ·exact sP ⟨p0,hp⟩ ⟨q0,hq⟩ G
 ·rw[WB a,WC b] at h;exact sP ⟨p0,hp⟩ ⟨q0,hq⟩ G
 ·rw[WB a,WB b] at h;exact sP ⟨p0,hp⟩ ⟨q0,hq⟩ G
theorem CK {q:Int} (q0:0<=q) (hq:q<s.length) {p:Int} (hp:(s.length:Int)<=p):bU s p q:=by
 rw[<-gM,xA hp,gT q0 hq];simp[cmpL]
theorem aVx (hs:Nn s): ∀(d:Nat) (x y:Int),0<=x->0<=y->(∀i:Nat,i<d->kk s (x+i)=kk s (y+i))->kk s (x+d)<kk s (y+d)->bU s x y
 | 0,x,y,x0,y0,_,h=>by
  simp only[Bp,yl] at h;rcases bn x s.length with a|a
  ·exact bDn hs x0 y0 h a
  ·have hy:y<s.length:=by
    rcases bn y s.length with b|b
    ·exact b
    ·rw[wT a,wT b] at h;omega
   exact CK y0 hy a
 | d+1,x,y,x0,y0,he,h=>by
  have e0:=he 0 G;simp only[Bp,yl] at e0
  have ih:=aVx hs d (x+1) (y+1) G G (λi hi=>by
   have:=he (i+1) G
   rwa[show x+((i+1:Nat):Int)=x+1+i by omega,show y+((i+1:Nat):Int)=y+1+i by omega] at this) (by rwa[show x+((d+1:Nat):Int)=x+1+d by omega,show y+((d+1:Nat):Int)=y+1+d by omega] at h)
  rcases bn x s.length with a|a
  ·obtain ⟨hy,e,_⟩:=pX hs x0 y0 e0 a;rw[nC x0 a y0 hy];exact .inr ⟨e,gM.2 ih⟩
  ·have b:(s.length:Int)<=y:=by
    rcases bn y s.length with b|b
    ·have:=(pX hs y0 x0 e0.symm b).1;omega
    ·exact b
   rw[wT (by omega:(s.length:Int)<=x+((d+1:Nat):Int)),wT (by omega:(s.length:Int)<=y+((d+1:Nat):Int))] at h;omega
theorem OP: ∀(d:Nat) (x y:Int),0<=x->0<=y->x+d<s.length->y+d<s.length->(∀i:Nat,i<d->rd s (x+i)=rd s (y+i))->bU s (x+d) (y+d)->bU s x y
 |0,x,y,_,_,_,_,_,h=>by simpa using h
 | d+1,x,y,x0,y0,hx,hy,he,h=>by
  have e0:=he 0 G;simp only[Bp,yl] at e0;refine MN x0 G y0 G e0 (OP d (x+1) (y+1) G G G G (λi hi=> ?_) ?_)
  ·have:=he (i+1) G;rwa[show x+((i+1:Nat):Int)=x+1+i by omega,show y+((i+1:Nat):Int)=y+1+i by omega] at this
  ·rwa[show x+((d+1:Nat):Int)=x+1+d by omega,show y+((d+1:Nat):Int)=y+1+d by omega] at h
def pcL (s:AH) (x y:Int):Prop:= ∀d:Nat,(∀i:Nat,i<d->kk s (x+i)=kk s (y+i)/\gK s (x+i)=false)->kk s (x+d)<=kk s (y+d)
def pcS (s:AH) (x y:Int):Prop:= ∀d:Nat,(∀i:Nat,i<d->kk s (x+i)=kk s (y+i)/\(0<i->gK s (x+i)=false))->kk s (x+d)<=kk s (y+d)
def pcE (s:AH) (x y:Int):Prop:= ∀d:Nat,(∀i:Nat,0<i->i<d->gK s (x+i)=false)->kk s (x+d)=kk s (y+d)
theorem pcS.toL {x y:Int} (h:pcS s x y):pcL s x y:=λd hd=>h d λi hi=>⟨(hd i hi).1,λ_=>(hd i hi).2⟩
theorem pcL.toS {x y:Int} (h:pcL s x y) (hx:gK s x=false):pcS s x y:=λd hd=>h d λi hi=>⟨(hd i hi).1,by
 rcases ed i with e|e
 ·subst e;simpa using hx
 ·exact(hd i hi).2 e⟩
theorem aUo {x y:Int} (h:kk s x<kk s y):pcS s x y:=λd hd=>by
 rcases ed d with e|e
 ·subst e;simp;omega
 ·have:=(hd 0 e).1;simp at this;omega
theorem ML {x y:Int} (e:kk s x=kk s y) (h:pcL s (x+1) (y+1)):pcS s x y:=λd hd=>by
 match d with
 |0=>simp;omega
 | d+1=>
  have:=h d λi hi=>by
   have:=hd (i+1) G;rw[show x+((i+1:Nat):Int)=x+1+i by omega,show y+((i+1:Nat):Int)=y+1+i by omega] at this;exact⟨this.1,this.2 G⟩
  rwa[show x+((d+1:Nat):Int)=x+1+d by omega,show y+((d+1:Nat):Int)=y+1+d by omega]
theorem isL.not_fst {x:Int} (h:isL s x):gK s x=false:=by
 cases e:gK s x with
 |false=>rfl
 |true=>have:=(nE.1 e).2.1;rw[h.2] at this;cases this
theorem aAl {p q:Int} (hp:0<=p/\p<s.length) (hq:0<=q/\q<s.length) (h:rd s p<rd s q):pcS s p q:=by
 refine aUo ?_;rw[DC hp.2,DC hq.2];split<;>split<;>omega
theorem aUp {p q:Int} (hp:isL s p) (hq:isS s q) (e:rd s p=rd s q):pcS s p q:=aUo (by rw[WC hp,WB hq];omega)
theorem bCj (hs:Nn s):bAh s (pcL s):=⟨λhp hq h=>(aAl hp hq h).toL,λhp hq e=>(aUp hp hq e).toL,λ{q} hn q0 hq e hL=>by
  have hl:isL s (s.length-1):=⟨G,qO G G⟩;refine(ML (by rw[WC hl,WC hL,e]) λd hd=> ?_).toL;rw[wT (by omega:(s.length:Int)<=s.length-1+1+d)]
  exact bLi hs G,λhp hq _ _ e h=>(ML (by rw[WC hp,WC hq,e]) h).toL⟩
theorem bCi:bFa s (pcS s):=⟨aAl,aUp,λhp hq _ _ e h=>ML (by rw[WB hp,WB hq,e]) h.toL⟩
theorem bIe (l:AH) (ok:kH s l) (c:Int):(dZ l s c).Pairwise (pcL s):=by
 refine dn.2 λi j hi hj _=> ?_;have hx:=ol.1 (mf hi);have hy:=ol.1 (mf hj);rw[iv] at hx hy;intro d hd
 match d with
 |0=>simp only[Bp,yl];rw[WB (ok.small hx.1),WB (ok.small hy.1)];omega
 |d+1=>
  have:=(hd 0 G).2;simp only[Bp,yl] at this;rw[(ok.2 _ hx.1).2] at this;cases this
theorem aGn (hk:0<=k) (hs: ∀x∈s,0<=x/\x<k) {l:AH} (hp:l.Perm (bQ s)) (hn:0<s.length):(qZ s k l).Perm (iota s.length)/\(qZ s k l).Pairwise (pcS s):=by
 have h:=aBm hk hs (bCj λx hx=>(hs x hx).1) bCi (λp q hp _ h=>h.toS hp.not_fst) (bIe l (kK hp)) hp hn;exact⟨h.1,h.2.2⟩
theorem bJb (hs:Nn s) {x y:Int} (x0:0<=x) (y0:0<=y) (e:kk s x=kk s y) (e1:kk s (x+1)=kk s (y+1)):gK s (x+1)=gK s (y+1):=by
 unfold gK;rw[show x+1-1=x by omega,show y+1-1=y by omega];rw[mh (by omega:0<x+1),mh (by omega:0<y+1)];rcases bn (x+1) s.length with a|a
 ·rw[(pX hs x0 y0 e G).2.2,(pX hs G G e1 a).2.2]
 ·have b:(s.length:Int)<=y+1:=by
   rcases bn (y+1) s.length with b|b
   ·have:=(pX hs G G e1.symm b).1;omega
   ·exact b
  rw[qO (i:=x+1) G G,qO (i:=y+1) G G];simp
theorem DL (hs:Nn s) {x y:Int} (x0:0<=x) (y0:0<=y) {i:Nat} (hi:0<i) (e: ∀j:Nat,j<=i->kk s (x+j)=kk s (y+j)):gK s (x+i)=gK s (y+i):=by
 have h1:=e (i-1) G;have h2:=e i (di _);have:=bJb hs (x:=x+((i-1:Nat):Int)) (y:=y+((i-1:Nat):Int)) G G h1 (by rwa[show x+((i-1:Nat):Int)+1=x+i by omega,show y+((i-1:Nat):Int)+1=y+i by omega]);rwa[show x+((i-1:Nat):Int)+1=x+i by omega,show y+((i-1:Nat):Int)+1=y+i by omega] at this
theorem BO (hs:Nn s) {x u v y:Int} (x0:0<=x) (u0:0<=u) (v0:0<=v) (h1:pcS s x u) (h2:pcS s u v) (h3:pcS s v y) (he:pcE s x y): ∀d:Nat,(∀i:Nat,0<i->i<d->gK s (u+i)=false)-> ∀i:Nat,i<=d->kk s (x+i)=kk s (u+i)/\kk s (u+i)=kk s (v+i)/\kk s (x+i)=kk s (y+i)
 |0,_,i,hi=>by
  obtain rfl:i=0:=G
  have a:=h1 0 (λi hi=>G);have b:=h2 0 (λi hi=>G);have c:=h3 0 (λi hi=>G);have d:=he 0 (λi _ hi=>G);omega
 | d+1,hd,i,hi=>by
  have ih:=BO hs x0 u0 v0 h1 h2 h3 he d λi h0 hi=>hd i h0 G;rcases fo d i with g|g
  ·obtain rfl:i=d+1:=G
   have fu: ∀i:Nat,i<d+1->0<i->gK s (u+i)=false:=λi hi h0=>hd i h0 hi
   have fx: ∀i:Nat,i<d+1->0<i->gK s (x+i)=false:=λi hi h0=>by
    rw[DL hs x0 u0 h0 λj hj=>(ih j G).1];exact fu i hi h0
   have vy: ∀i:Nat,i<d+1->kk s (v+i)=kk s (y+i):=λi hi=>by have:=ih i G;omega
   have a:=h1 (d+1) λi hi=>⟨(ih i G).1,fx i hi⟩;have b:=h2 (d+1) λi hi=>⟨(ih i G).2.1,fu i hi⟩;have e:=he (d+1) λi h0 hi=>fx i hi h0
   have c:kk s (v+((d+1:Nat):Int))<=kk s (y+((d+1:Nat):Int)):=by
    refine h3 (d+1) λi hi=>⟨vy i hi,λh0=> ?_⟩;rw[<-DL hs u0 v0 h0 λj hj=>(ih j G).2.1];exact fu i hi h0
   omega
  ·exact ih i g
theorem aFa (hs:Nn s) {x u v y:Int} (x0:0<=x) (u0:0<=u) (v0:0<=v) (h1:pcS s x u) (h2:pcS s u v) (h3:pcS s v y) (he:pcE s x y):pcE s x u/\pcE s u v:=by
 refine⟨λd hd=> ?_,λd hd=>(BO hs x0 u0 v0 h1 h2 h3 he d hd d (di _)).2.1⟩
 suffices h: ∀d:Nat,(∀i:Nat,0<i->i<d->gK s (x+i)=false)-> ∀i:Nat,i<=d->kk s (x+i)=kk s (u+i) from h d hd d (di _)
 intro d
 induction d with
 |zero=>intro _ i hi;obtain rfl:i=0:=G;exact(BO hs x0 u0 v0 h1 h2 h3 he 0 (λi h0 hi=>G) 0 (di _)).1
 |succ d ih=>
  intro hd i hi;have We:=ih λi h0 hi=>hd i h0 G;refine(BO hs x0 u0 v0 h1 h2 h3 he (d+1) (λj h0 hj=> ?_) i hi).1;rw[<-DL hs x0 u0 h0 λm hm=>We m G];exact hd j h0 hj
theorem pcE.symm (hs:Nn s) {x y:Int} (x0:0<=x) (y0:0<=y) (h:pcE s x y):pcE s y x:=by
 intro d hd
 suffices g: ∀d:Nat,(∀i:Nat,0<i->i<d->gK s (y+i)=false)-> ∀i:Nat,i<=d->kk s (y+i)=kk s (x+i) from g d hd d (di _)
 intro d
 induction d with
 |zero=>intro _ i hi;obtain rfl:i=0:=G;exact(h 0 λi h0 hi=>G).symm
 | succ d ih=>
  intro hd i hi;have We:=ih λi h0 hi=>hd i h0 G;rcases fo d i with g|g
  ·obtain rfl:i=d+1:=G
   refine(h (d+1) λj h0 hj=> ?_).symm;rw[<-DL hs y0 x0 h0 λm hm=>We m G];exact hd j h0 hj
  ·exact We i g
theorem bCk (hs:Nn s) {x y:Int} (x0:0<=x) (y0:0<=y) (h:pcS s x y) (fd: ¬pcE s x y):bU s x y:=by
 have key: ∀D:Nat,(∀i:Nat,0<i->i<D->gK s (x+i)=false)-> ¬kk s (x+D)=kk s (y+D)-> ∃d:Nat,(∀i:Nat,i<d->kk s (x+i)=kk s (y+i))/\kk s (x+d)<kk s (y+d):=by
  intro D
  induction D using Nat.strongRecOn with
  | ind D ih=>
   intro hD fd;by_cases he: ∀i:Nat,i<D->kk s (x+i)=kk s (y+i)
   ·have:=h D λi hi=>⟨he i hi,λh0=>hD i h0 hi⟩;exact⟨D,he,G⟩
   ·obtain ⟨i,hi⟩:=Em.1 he;obtain⟨ia,Ly⟩:=Classical.not_imp.1 hi;exact ih i ia (λj h0 hj=>hD j h0 G) Ly
 obtain⟨D,hD⟩:=Em.1 fd;obtain⟨hD1,hD2⟩:=Classical.not_imp.1 hD;obtain⟨d,h1,h2⟩:=key D hD1 hD2;exact aVx hs d x y x0 y0 h1 h2
structure NxI (s:AH) (x z:Int):Prop where
 gt:x<z
 le:z<=s.length
 no: ∀q,x<q->q<z->gK s q=false
 is:z<s.length->gK s z=true
theorem NxI.one {x z w:Int} (h:NxI s x z) (g:NxI s x w):z=w:=by
 rcases jd z w with a|a|a
 ·have h1:=h.is (by have:=g.le;omega);rw[g.no z h.gt a] at h1;cases h1
 ·exact a
 ·have h1:=g.is (by have:=h.le;omega);rw[h.no w g.gt a] at h1;cases h1
def Peq (s nx:AH) (x y:Int):Prop:=rd nx x<s.length/\rd nx y<s.length/\rd nx x-x=rd nx y-y/\ ∀i:Int,0<=i->i<=rd nx x-x->rd s (x+i)=rd s (y+i)
theorem Peq.symm {nx:AH} {x y:Int} (h:Peq s nx x y):Peq s nx y x:=⟨h.2.1,h.1,h.2.2.1.symm,λi h0 h1=>(h.2.2.2 i h0 (by have:=h.2.2.1;omega)).symm⟩
theorem Peq.trans {nx:AH} {x y z:Int} (h:Peq s nx x y) (g:Peq s nx y z):Peq s nx x z:=⟨h.1,g.2.1,h.2.2.1.trans g.2.2.1,λi h0 h1=>(h.2.2.2 i h0 h1).trans (g.2.2.2 i h0 (by have:=h.2.2.1;omega))⟩
theorem Peq.E {nx:AH} {x y:Int} (x0:0<=x) (y0:0<=y) (hx:NxI s x (rd nx x)) (hy:NxI s y (rd nx y)) (h:Peq s nx x y):pcE s x y:=by
 obtain⟨h1,h2,h3,h4⟩:=h;have wd:=hx.gt;have fx:=nE.1 (hx.is h1);have fy:=nE.1 (hy.is h2)
 have kinds: ∀m:Nat,∀i:Int,0<=i->i<=rd nx x-x->rd nx x-x-i<=m->smB s (x+i)=smB s (y+i):=by
  intro m
  induction m with
  |zero=>
   intro i i0 i1 i2;obtain rfl:i=rd nx x-x:=G
   rw[show x+(rd nx x-x)=rd nx x by omega,show y+(rd nx x-x)=rd nx y by omega,fx.2.1,fy.2.1]
  | succ m ih=>
   intro i i0 i1 i2;rcases bn i (rd nx x-x) with g|g
   ·have e:=ih (i+1) G G G;have c0:=h4 i i0 i1;have c1:=h4 (i+1) G G;have a:=vT (s:=s) (i:=x+i) G G;have b:=vT (s:=s) (i:=y+i) G G;rw[show x+i+1=x+(i+1) by omega] at a;rw[show y+i+1=y+(i+1) by omega,<-c0,<-c1,<-e] at b;exact Bool.eq_iff_iff.2 (a.trans b.symm)
   ·exact ih i i0 i1 G
 intro d hd
 have hdL:(d:Int)<=rd nx x-x:=by
  rcases bn (rd nx x-x) d with g|g
  ·have:=hd (rd nx x-x).toNat G G;rw[show x+(((rd nx x-x).toNat:Nat):Int)=rd nx x by omega,hx.is h1] at this;cases this
  ·exact g
 rw[DC G,DC G,h4 d G hdL,kinds (rd nx x-x).toNat d G hdL G]
theorem Peq.of_E (hs:Nn s) {nx:AH} {x y:Int} (x0:0<=x) (y0:0<=y) (fd:x≠y) (hx:NxI s x (rd nx x)) (hy:NxI s y (rd nx y)) (h:pcE s x y):Peq s nx x y:=by
 have wd:=hx.gt;have hgty:=hy.gt;have pv:=hx.le;have hley:=hy.le
 have he: ∀i:Int,0<=i->i<=rd nx x-x->kk s (x+i)=kk s (y+i):=λi i0 i1=>by
  have:=h i.toNat λj j0 j1=>hx.no _ G G;rwa[show((i.toNat:Nat):Int)=i by omega] at this
 have hL:=he (rd nx x-x) G (lq _);have Bx:=he (rd nx x-x-1) G G;rw[show x+(rd nx x-x)=rd nx x by omega] at hL;have hb:=(pX hs G G Bx G).1
 have pj:rd nx x<s.length:=by
  rcases bn (rd nx x) s.length with g|g
  ·exact g
  ·have:(s.length:Int)<=y+(rd nx x-x):=by
    rcases bn (y+(rd nx x-x)) s.length with b|b
    ·have:=(pX hs G G hL.symm b).1;omega
    ·exact b
   omega
 have hyL:=(pX hs G G hL pj).1
 have Mu: ∀i:Int,0<i->i<=rd nx x-x->gK s (x+i)=gK s (y+i):=λi i0 i1=>by
  have:=DL hs x0 y0 (i:=i.toNat) G λj hj=>he j G G;rwa[show((i.toNat:Nat):Int)=i by omega] at this
 have hny:NxI s y (y+(rd nx x-x)):=⟨G,G,λq h1 h2=>by
  have:=Mu (q-y) G G;rw[show y+(q-y)=q by omega] at this;rw[<-this];exact hx.no _ G G,λ_=>by
  rw[<-Mu _ G (lq _),show x+(rd nx x-x)=rd nx x by omega]
  exact hx.is pj⟩
 have e:=hy.one hny;refine⟨pj,G,G,λi i0 i1=>(pX hs G G (he i i0 i1) G).2.1⟩
end
end Go.Pure
namespace Go.Pure
open Go Go.Eng
section
variable {s:AH} {k:Int}
theorem aWu (s:AH):(bQ s).Pairwise (· < ·):=(DF _).sublist ul
theorem oQ {a:Int} (h0:0<=a) (h:a<(bQ s).length):(0<=rd (bQ s) a/\rd (bQ s) a<s.length)/\gK s (rd (bQ s) a)=true:=sW.1 (bJ h0 h)
theorem WL {x:Int} (h0:0<=x) (h:x<s.length) (hf:gK s x=true): ∃a:Int,0<=a/\a<(bQ s).length/\rd (bQ s) a=x:=by
 obtain⟨u,hu,e⟩:=gz.1 (sW.2 ⟨⟨h0,h⟩,hf⟩);exact⟨u,G,G,by rw[iP hu];exact e⟩
theorem DN {a b:Int} (h0:0<=a) (wc:a<b) (h:b<(bQ s).length):rd (bQ s) a<rd (bQ s) b:=eX (aWu s) h0 wc h
theorem aPj (hn:0<s.length):(bQ s).length<s.length:=by
 have:(bQ s).length<=((iota s.length).erase 0).length:=oH (zT s) λx hx=>by
  have h:=sW.1 hx;have h0:=(nE.1 h.2).1;exact(Es G).2 (aZ.2 h.1)
 rw[Cg (aZ.2 ⟨lq 0,G⟩),bB] at this;omega
structure tL (s nx:AH) (i:Int):Prop where
 len:nx.length=s.length
 at_: ∀a:Int,0<=a->a<i->rd nx (rd (bQ s) a)=if a+1<(bQ s).length then rd (bQ s) (a+1) else s.length
 no: ∀j:Int,0<=j->j<s.length->gK s j=false->rd nx j=0
theorem bCs:tL s (List.replicate s.length 0) 0:=⟨cD,λa h0 h=>G,λj _ _ _=>pV⟩
theorem tL.step {nx nx':AH} {i v:Int} (h:tL s nx i) (h0:0<=i) (hi:i<(bQ s).length) (hv:v=if i+1<(bQ s).length then rd (bQ s) (i+1) else s.length) (hl:nx'.length=s.length)
  (he: ∀j:Int,0<=j->rd nx' j=if j=rd (bQ s) i then v else rd nx j):tL s nx' (i+1):=by
 have hf:=oQ h0 hi;refine⟨hl,λa a0 a1=> ?_,λj j0 j1 hj=> ?_⟩
 ·have ha:=oQ (s:=s) a0 G;rw[he _ ha.1.1];by_cases e:a=i
  ·subst e;rw[df rfl,hv]
  ·rw [bz,h.at_ a a0 G];have:=DN (s:=s) a0 (by omega:a<i) hi;omega
 ·rw [he j j0,bz,h.no j j0 j1 hj];intro e;rw[e,hf.2] at hj;cases hj
theorem tL.step1 {nx:AH} {i:Int} (h:tL s nx i) (h0:0<=i) (hi:i<(bQ s).length) (hc: ¬i+1<(bQ s).length):tL s (upd nx (rd (bQ s) i) s.length) (i+1):=by
 have hf:=oQ h0 hi;exact h.step h0 hi (by rw[bz hc]) (by rw[aY];exact h.len) λj j0=>gG hf.1.1 j0 (by rw[h.len];exact hf.1.2)
theorem tL.step2 {nx:AH} {i:Int} {w:Int} (h:tL s nx i) (h0:0<=i) (hi:i<(bQ s).length) (hc:i+1<(bQ s).length):tL s (upd (upd nx (rd (bQ s) i) w) (rd (bQ s) i) (rd (bQ s) (i+1))) (i+1):=by
 have hf:=oQ h0 hi;refine h.step h0 hi (by rw[df hc]) (by rw[aY,aY];exact h.len) λj j0=> ?_;rw[gG hf.1.1 j0 (by rw[aY,h.len];exact hf.1.2)];split
 ·rfl
 ·rename_i e;rw[gG hf.1.1 j0 (by rw[h.len];exact hf.1.2),bz e]
theorem tL.nx {nx:AH} (h:tL s nx (bQ s).length) {x:Int} (h0:0<=x) (hx:x<s.length) (hf:gK s x=true):NxI s x (rd nx x):=by
 obtain⟨a,a0,a1,rfl⟩:=WL h0 hx hf;rw[h.at_ a a0 a1];split
 ·rename_i e;have g:=oQ (s:=s) (a:=a+1) G e;refine⟨DN a0 G e,G,λq h1 h2=> ?_,λ_=>g.2⟩;cases hq:gK s q with
  |false=>rfl
  | true=>
   obtain⟨b,b0,b1,rfl⟩:=WL (s:=s) (x:=q) G G hq;exfalso;rcases jd b a with d|d|d
   ·have:=DN (s:=s) b0 d a1;omega
   ·subst d;omega
   ·rcases bn (a+1) b with d2|d2
    ·have:=DN (s:=s) (a:=a+1) G d2 b1;omega
    ·obtain rfl:b=a+1:=G
     omega
 ·rename_i e;refine⟨hx,lq _,λq h1 h2=> ?_,λh=>G⟩;cases hq:gK s q with
  |false=>rfl
  |true=>
   obtain⟨b,b0,b1,rfl⟩:=WL (s:=s) (x:=q) G G hq;exfalso;rcases jd b a with d|d|d
   ·have:=DN (s:=s) b0 d a1;omega
   ·subst d;omega
   ·omega
theorem tL.zero {nx:AH} (h:tL s nx (bQ s).length) {x:Int} (h0:0<=x) (hx:x<s.length):rd nx x=0↔gK s x=false:=by
 cases hf:gK s x with
 |false=>exact⟨λ_=>rfl,λ_=>h.no x h0 hx hf⟩
 |true=>exact⟨λe=>by have:=(h.nx h0 hx hf).gt;omega,λe=>by cases e⟩
structure AJ (s ord nx:AH) (t:Int) (nm:AH) (n last:Int):Prop where
 len:nm.length=s.length
 bd:0<=n/\n<=t
 start:last= -1->n=0/\ ∀q:Int,0<=q->q<t->gK s (rd ord q)=false
 last_:last= -1\/ ∃q:Int,0<=q/\q<t/\rd ord q=last/\gK s last=true/\rd nm last=n/\ ∀r:Int,q<r->r<t->gK s (rd ord r)=false
 rng: ∀q:Int,0<=q->q<t->gK s (rd ord q)=true->0<=rd nm (rd ord q)/\rd nm (rd ord q)<=n
 pair: ∀q r:Int,0<=q->q<r->r<t->gK s (rd ord q)=true->gK s (rd ord r)=true->rd nm (rd ord q)<=rd nm (rd ord r)/\(rd nm (rd ord q)=rd nm (rd ord r)->Peq s nx (rd ord q) (rd ord r))/\(rd nm (rd ord q)<rd nm (rd ord r)-> ¬pcE s (rd ord q) (rd ord r))
variable {ord nx nm:AH} {t n last:Int}
theorem aVi:AJ s ord nx 0 (List.replicate s.length 0) 0 (-1):=⟨cD,G,λ_=>⟨rfl,λq h0 h=>G⟩, .inl rfl,λq h0 h=>G,λq r h0 h h'=>G⟩
theorem AJ.skip (h:AJ s ord nx t nm n last) (hf:gK s (rd ord t)=false):AJ s ord nx (t+1) nm n last:=by
 have mn: ∀ {q:Int},q<t+1->gK s (rd ord q)=true->q<t:=λ{q} h1 h2=>by
  rcases bn q t with a|a
  ·exact a
  ·obtain rfl:q=t:=G
   rw[hf] at h2;cases h2
 refine⟨h.len,by have:=h.bd;omega,λe=>⟨(h.start e).1,λq h0 h1=> ?_⟩,?_,λq h0 h1 h2=>h.rng q h0 (mn h1 h2) h2,λq r h0 h1 h2 f1 f2=>h.pair q r h0 h1 (mn h2 f2) f1 f2⟩
 ·rcases bn q t with a|a
  ·exact(h.start e).2 q h0 a
  ·obtain rfl:q=t:=G
   exact hf
 ·rcases h.last_ with e|⟨q,h1,h2,h3,h4,h5,h6⟩
  ·exact .inl e
  ·refine .inr ⟨q,h1,G,h3,h4,h5,λr r0 r1=> ?_⟩;rcases bn r t with a|a
   ·exact h6 r r0 a
   ·obtain rfl:r=t:=G
    exact hf
theorem AJ.last_in (h:AJ s ord nx t nm n last) (hp:ord.Perm (iota s.length)) (ht:t<=s.length):last= -1\/((0<=last/\last<s.length)/\gK s last=true):=by
 rcases h.last_ with e|⟨q,h1,h2,h3,h4,_⟩
 ·exact .inl e
 ·rw [<-h3];have hl:=hp.length_eq;rw[bB] at hl;exact .inr ⟨aZ.1 (hp.subset (bJ h1 G)),by rw[h3];exact h4⟩
theorem AJ.step (hs:Nn s) (h:AJ s ord nx t nm n last) (hp:ord.Perm (iota s.length)) (ho:ord.Pairwise (pcS s)) (hx:tL s nx (bQ s).length) (t0:0<=t) (ht:t<s.length) (hf:gK s (rd ord t)=true) {n':Int}
  (hn:(last= -1/\n'=n)\/(0<=last/\Peq s nx last (rd ord t)/\n'=n)\/(0<=last/\ ¬Peq s nx last (rd ord t)/\n'=n+1)):AJ s ord nx (t+1) (upd nm (rd ord t) n') n' (rd ord t):=by
 have hl:ord.length=s.length:=by rw[hp.length_eq,bB]
 have hnd:ord.Nodup:=hp.symm.nodup (eH _);have cj: ∀q:Int,0<=q->q<s.length->0<=rd ord q/\rd ord q<s.length:=λq q0 q1=>aZ.1 (hp.subset (bJ q0 G));have sk:=cj t t0 ht
 have jj: ∀q:Int,0<=q->q<t->rd (upd nm (rd ord t) n') (rd ord q)=rd nm (rd ord q):=λq q0 q1=>by
  have hq:=cj q q0 G;rw[gG sk.1 hq.1 (by rw[h.len];exact sk.2),bz];intro e;have:=jT hnd q0 G t0 G e;omega
 have s6:rd (upd nm (rd ord t) n') (rd ord t)=n':=by rw[gG sk.1 sk.1 (by rw[h.len];exact sk.2),df rfl]
 have Ek:=h.bd;have k6:n<=n':=by rcases hn with a|a|a<;>omega
 refine⟨by rw[aY];exact h.len,by rcases hn with a|a|a<;>omega,λe=>G, .inr ⟨t,t0,G,rfl,hf,s6,λr r0 r1=>G⟩,λq q0 q1 f=> ?_,λq r q0 qr r1 f1 f2=> ?_⟩
 ·rcases bn q t with a|a
  ·rw [jj q q0 a];have:=h.rng q q0 a f;omega
  ·obtain rfl:q=t:=G
   rw[s6];omega
 ·rcases bn r t with a|a
  ·rw [jj q q0 G,jj r G a];exact h.pair q r q0 qr a f1 f2
  ·obtain rfl:r=t:=G
   rw[jj q q0 qr,s6];have hq:=cj q q0 G;have hg:=h.rng q q0 qr f1;rcases h.last_ with e|⟨z,z0,z1,z2,z3,z4,z5⟩
   ·have:=(h.start e).2 q q0 qr;rw[f1] at this;cases this
   ·have hqz:q<=z:=by
     rcases bn z q with b|b
     ·have:=z5 q b qr;rw[f1] at this;cases this
     ·exact b
    have hz:=cj z z0 G;have hzr:pcS s (rd ord z) (rd ord r):=eX ho z0 z1 G;have hzx:=hx.nx hz.1 hz.2 (by rw[z2];exact z3);have hrx:=hx.nx sk.1 sk.2 hf;have hqx:=hx.nx hq.1 hq.2 f1;have fd:rd ord z≠rd ord r:=λe=>by have:=jT hnd z0 G t0 G e;omega
    have sr:(n'=n->Peq s nx (rd ord z) (rd ord r))/\(n<n'-> ¬Peq s nx (rd ord z) (rd ord r)):=by
     rw[z2];rcases hn with b|b|b
     ·omega
     ·exact⟨λ_=>b.2.1,λ_=>G⟩
     ·exact⟨λ_=>G,λ_=>b.2.1⟩
    have hE:pcE s (rd ord q) (rd ord r)->pcE s (rd ord z) (rd ord r)/\(q<z->pcE s (rd ord q) (rd ord z)):=λhe=>by
     rcases bn q z with b|b
     ·have:=aFa hs (u:=rd ord z) (v:=rd ord r) (y:=rd ord r) hq.1 hz.1 sk.1 (eX ho q0 b G) hzr (λd hd=>lq _) he;exact⟨this.2,λ_=>this.1⟩
     ·obtain rfl:q=z:=G
      exact⟨he,λh=>G⟩
    rcases bn q z with b|b
    ·have m4:=h.pair q z q0 b z1 f1 (by rw[z2];exact z3);have ez:rd nm (rd ord z)=n:=by rw[z2];exact z4
     rw[ez] at m4;refine⟨G,λe=>(m4.2.1 G).trans (sr.1 G),λe he=> ?_⟩;rcases bn n n' with g|g
     ·exact sr.2 g (Peq.of_E hs hz.1 sk.1 fd hzx hrx (hE he).1)
     ·exact m4.2.2 G ((hE he).2 b)
    ·obtain rfl:q=z:=G
     have ez:rd nm (rd ord q)=n:=by rw[z2];exact z4
     rw[ez];refine⟨k6,λe=>sr.1 e.symm,λe he=>sr.2 e (Peq.of_E hs hz.1 sk.1 fd hzx hrx he)⟩
theorem SL (hs:Nn s) (h:AJ s ord nx s.length nm n last) (hp:ord.Perm (iota s.length)) (ho:ord.Pairwise (pcS s)) (hx:tL s nx (bQ s).length): ∀(m:Nat) (a b:Int),(bQ s).length-a<=m->0<=a->a<(bQ s).length->0<=b->b<(bQ s).length->
  bU ((bQ s).map (rd nm)) a b->bU s (rd (bQ s) a) (rd (bQ s) b)
 |0,a,b,hm,a0,a1,_,_,_=>G
 | m +1,a,b,hm,a0,a1,b0,b1,wc=>by
  have hl:ord.length=s.length:=by rw[hp.length_eq,bB]
  have Yy:((bQ s).map (rd nm)).length=(bQ s).length:=by rw[cu]
  have hnm: ∀c:Int,0<=c->c<(bQ s).length->rd ((bQ s).map (rd nm)) c=rd nm (rd (bQ s) c):=λc c0 c1=>by
   rw[fI c0 G,Br,<-fI c0 c1]
  have sq: ∀c:Int,0<=c->c<(bQ s).length-> ∃q:Int,0<=q/\q<s.length/\rd ord q=rd (bQ s) c:=λc c0 c1=>by
   have hc:=oQ (s:=s) c0 c1;obtain⟨u,hu,e⟩:=gz.1 (hp.symm.subset (aZ.2 hc.1));exact⟨u,G,G,by rw[iP hu];exact e⟩
  have fd:a≠b:=λe=>by rw[e] at wc;exact gH _ _ wc wc
  have ha:=oQ (s:=s) a0 a1;have hb:=oQ (s:=s) b0 b1;have Qs:rd (bQ s) a≠rd (bQ s) b:=λe=>fd (jT (zT s) a0 a1 b0 b1 e);obtain⟨q,q0,q1,eq⟩:=sq a a0 a1;obtain⟨r,r0,r1,er⟩:=sq b b0 b1;have hqr:q≠r:=λe=>Qs (by rw[<-eq,<-er,e]);rw[nC a0 G b0 G,hnm a a0 a1,hnm b b0 b1] at wc;have Kr:gK s (rd ord q)=true:=by rw[eq];exact ha.2
  have Fk:gK s (rd ord r)=true:=by rw[er];exact hb.2
  rcases wc with bc|⟨he,Tz⟩
  ·rcases bn q r with c|c
   ·have m4:=h.pair q r q0 c r1 Kr Fk;rw[eq,er] at m4;have:=eX ho q0 c G;rw[eq,er] at this;exact bCk hs ha.1.1 hb.1.1 this (m4.2.2 bc)
   ·have m4:=h.pair r q r0 G q1 Fk Kr;rw[eq,er] at m4;omega
  ·have hpe:Peq s nx (rd (bQ s) a) (rd (bQ s) b):=by
    rcases bn q r with c|c
    ·have m4:=h.pair q r q0 c r1 Kr Fk;rw[eq,er] at m4;exact m4.2.1 he
    ·have m4:=h.pair r q r0 G q1 Fk Kr;rw[eq,er] at m4;exact(m4.2.1 he.symm).symm
   obtain⟨p1,p2,p3,p4⟩:=hpe;have gx:=(hx.nx ha.1.1 ha.1.2 ha.2).gt;have ea:=hx.at_ a a0 a1;have eb:=hx.at_ b b0 b1
   have Si:a+1<(bQ s).length:=by
    rcases bn (a+1) (bQ s).length with c|c
    ·exact c
    ·rw[bz G] at ea;omega
   have hbc:b+1<(bQ s).length:=by
    rcases bn (b+1) (bQ s).length with c|c
    ·exact c
    ·rw[bz G] at eb;omega
   rw[df Si] at ea;rw[df hbc] at eb;have ih:=SL hs h hp ho hx m (a+1) (b+1) G G Si G hbc (gM.1 Tz);rw[<-ea,<-eb] at ih;refine OP (rd nx (rd (bQ s) a)-rd (bQ s) a).toNat _ _ ha.1.1 hb.1.1 G G (λi hi=>p4 i G G) ?_;rwa[show rd (bQ s) a+(((rd nx (rd (bQ s) a)-rd (bQ s) a).toNat:Nat):Int)=rd nx (rd (bQ s) a) by omega,show rd (bQ s) b+(((rd nx (rd (bQ s) a)-rd (bQ s) a).toNat:Nat):Int)=rd nx (rd (bQ s) b) by omega]
theorem aVe (h:AJ s ord nx s.length nm n last) (hp:ord.Perm (iota s.length)): ∀x∈(bQ s).map (rd nm),0<=x/\x<n+1:=by
 intro x hx;obtain⟨y,hy,rfl⟩:=iy.1 hx;obtain⟨hy1,hy2⟩:=sW.1 hy;have hl:ord.length=s.length:=by rw[hp.length_eq,bB]
 obtain⟨u,hu,e⟩:=gz.1 (hp.symm.subset (aZ.2 hy1));have:=h.rng u G G (by rw[iP hu,e];exact hy2);rw[iP hu,e] at this;omega
theorem aTq (hs:Nn s) (h:AJ s ord nx s.length nm n last) (hp:ord.Perm (iota s.length)) (ho:ord.Pairwise (pcS s)) (hx:tL s nx (bQ s).length) {o:AH} (op:o.Perm (iota ((bQ s).map (rd nm)).length)) (oo:o.Pairwise (bU ((bQ s).map (rd nm)))):
  (o.map (rd (bQ s))).Perm (bQ s)/\(o.map (rd (bQ s))).Pairwise (bU s):=by
 rw[cu] at op;refine⟨?_,?_⟩
 ·have:=op.map (rd (bQ s));rwa[mG] at this
 ·refine iw.2 (oq (λ{a b} ha hb wc=> ?_) oo);have h1:=aZ.1 (op.subset ha);have h2:=aZ.1 (op.subset hb);exact SL hs h hp ho hx (bQ s).length a b G h1.1 h1.2 h2.1 h2.2 wc
theorem aJu {l:AH} {x i:Int} {m:Nat} (x0:0<=x) (h0:0<=i) (h:i<m):rd ((l.drop x.toNat).take m) i=rd l (x+i):=by
 unfold rd;rw[ak,ak,ow G,qm,show x.toNat+i.toNat=(x+i).toNat by omega]
theorem aAf {x y:Int} (x0:0<=x) (y0:0<=y) (hx:x<rd nx x) (Mq:rd nx x<s.length) (hy:y<rd nx y) (Wc:rd nx y<s.length):
  (s.drop x.toNat).take ((min (rd nx x+1) ((s.length:Nat):Int)).toNat-x.toNat)=(s.drop y.toNat).take ((min (rd nx y+1) ((s.length:Nat):Int)).toNat-y.toNat)↔Peq s nx x y:=by
 have lx:((s.drop x.toNat).take ((min (rd nx x+1) ((s.length:Nat):Int)).toNat-x.toNat)).length=(rd nx x-x+1).toNat:=by rw[ax,az];omega
 have ly:((s.drop y.toNat).take ((min (rd nx y+1) ((s.length:Nat):Int)).toNat-y.toNat)).length=(rd nx y-y+1).toNat:=by rw[ax,az];omega
 constructor
 ·intro h;have hl:=bq List.length h;rw[lx,ly] at hl;refine⟨Mq,Wc,G,λi i0 i1=> ?_⟩;have:rd ((s.drop x.toNat).take ((min (rd nx x+1) ((s.length:Nat):Int)).toNat-x.toNat)) i=rd ((s.drop y.toNat).take ((min (rd nx y+1) ((s.length:Nat):Int)).toNat-y.toNat)) i:=by rw[h]
  rwa[aJu x0 i0 G,aJu y0 i0 G] at this
 ·rintro ⟨_,_,h3,h4⟩;refine bM (by rw[lx,ly];omega) λi i0 i1=> ?_;rw[lx] at i1;rw[aJu x0 i0 G,aJu y0 i0 G];exact h4 i i0 G
theorem aUg {r:Int->Int->Prop}: ∀ {l:AH},l.length<2->l.Pairwise r
 |[],_=> .nil
 |[_],_=>qb _ _
 |_::_::_,h=>by simp at h;omega
theorem aVh {x y:Int} (hl:0<=x->x<s.length/\x<rd nx x/\rd nx x<=s.length) (y0:0<=y) (hy:y<rd nx y) (Wc:rd nx y<=s.length)
  (h:0<=x/\((rd nx y=((s.length:Nat):Int)\/rd nx x=((s.length:Nat):Int))\/ ¬(s.drop x.toNat).take ((min (rd nx x+1) ((s.length:Nat):Int)).toNat-x.toNat)=(s.drop y.toNat).take ((min (rd nx y+1) ((s.length:Nat):Int)).toNat-y.toNat))):
  (x= -1/\n+1=n)\/(0<=x/\Peq s nx x y/\n+1=n)\/(0<=x/\ ¬Peq s nx x y/\n+1=n+1):=by
 refine .inr (.inr ⟨h.1,λhp=> ?_,rfl⟩);have a:=hl h.1;rcases h.2 with g|g
 ·have h1:=hp.1;have h2:=hp.2.1;omega
 ·exact g ((aAf h.1 y0 a.2.1 hp.1 hy hp.2.1).2 hp)
theorem aVg {x y:Int} (hx: -1<=x) (hl:0<=x->x<s.length/\x<rd nx x/\rd nx x<=s.length) (y0:0<=y) (hy:y<rd nx y) (Wc:rd nx y<=s.length)
  (h: ¬(0<=x/\((rd nx y=((s.length:Nat):Int)\/rd nx x=((s.length:Nat):Int))\/ ¬(s.drop x.toNat).take ((min (rd nx x+1) ((s.length:Nat):Int)).toNat-x.toNat)=(s.drop y.toNat).take ((min (rd nx y+1) ((s.length:Nat):Int)).toNat-y.toNat)))):
  (x= -1/\n=n)\/(0<=x/\Peq s nx x y/\n=n)\/(0<=x/\ ¬Peq s nx x y/\n=n+1):=by
 rcases bn x 0 with g|g
 ·exact .inl ⟨G,rfl⟩
 ·have a:=hl g;have h1: ¬rd nx y=((s.length:Nat):Int):=λe=>h ⟨g, .inl (.inl e)⟩;have h2: ¬rd nx x=((s.length:Nat):Int):=λe=>h ⟨g, .inl (.inr e)⟩;have h3:=vk.1 λe=>h ⟨g, .inr e⟩;exact .inr (.inl ⟨g,(aAf g y0 a.2.1 G hy G).1 h3,rfl⟩)
end
end Go.Pure
namespace Go.Pure
open Go Go.Eng
theorem GZ {T:Int->Int->Prop} [DecidableRel T] (Mt: ∀x y,T x y-> ¬T y x): ∀ {o:AH} {q:Nat},o.Pairwise T->(h:q<o.length)->o.countP (λx=>decide (T x o[q]))=q
 |[],q,_,h=>by simp at h
 |a::o,0,hs,h=>by
  rw[Ca];intro x hx;simp only[List.getElem_cons_zero,iv];rcases jm.1 hx with rfl|hx
  ·exact λh=>Mt _ _ h h
  ·exact Mt _ _ ((jb.1 hs).1 x hx)
 |a::o,q+1,hs,h=>by
  obtain⟨h1,h2⟩:=jb.1 hs;have hq:q<o.length:=by simp only[dh] at h;omega
  simp only[List.getElem_cons_succ];rw[List.countP_cons_of_pos (by simpa using h1 _ (mf hq)),GZ Mt h2 hq]
theorem aJw {T:Int->Int->Prop} [DecidableRel T] (Mt: ∀x y,T x y-> ¬T y x) {o:AH} {n:Nat} (hp:o.Perm (iota n)) (hs:o.Pairwise T) {q:Int} (q0:0<=q) (hq:q<n):(((iota n).countP λx=>decide (T x (rd o q)):Nat):Int)=q:=by
 have hl:o.length=n:=by rw[hp.length_eq,bB]
 rw[<-hp.countP_eq,fI q0 G,GZ Mt hs G];omega
theorem xU {n:Nat} {q:Int} (q0:0<=q) (hq:q<n):rd (iota n) q=q:=by
 unfold iota;rw[gY q0 hq];omega
theorem EH {n:Nat} {f:Int->Int} (hf: ∀x:Int,0<=x->x<n->0<=f x/\f x<n) (hi: ∀x y:Int,0<=x->x<n->0<=y->y<n->f x=f y->x=y):((iota n).map f).Perm (iota n):=by
 refine qU ?_ (λx hx=> ?_) cD
 ·refine iw.2 (oq (λ{a b} ha hb wc e=> ?_) (eH n));have h1:=aZ.1 ha;have h2:=aZ.1 hb;exact wc (hi a b h1.1 h1.2 h2.1 h2.2 e)
 ·obtain ⟨y,hy,rfl⟩:=iy.1 hx;have h:=aZ.1 hy;exact aZ.2 (hf y h.1 h.2)
def tl (l:AH) (i k:Int):Prop:=rd l i<rd l k\/rd l i=rd l k/\i<k
instance (l:AH):DecidableRel (tl l):=λi k=>by unfold tl;infer_instance
theorem aSf {l:AH} (x y:Int) (h:tl l x y): ¬tl l y x:=by unfold tl at*;omega
def lfC (l:AH) (k:Int):Int:=((iota l.length).countP λj=>decide (tl l j k):Nat)
def Byt (l:AH):Prop:= ∀x∈l,0<=x/\x<256
section
variable {l:AH}
theorem kI (hl:Byt l):(dC (iota l.length) l 256).Perm (iota l.length)/\(dC (iota l.length) l 256).Pairwise (tl l):=
 ⟨nW λi hi=>by have h:=aZ.1 hi;exact hl _ (bJ h.1 h.2),iB (DF _) 256⟩
theorem bLh (hl:Byt l) {q:Int} (q0:0<=q) (hq:q<l.length):lfC l (rd (dC (iota l.length) l 256) q)=q:=aJw aSf (kI hl).1 (kI hl).2 q0 hq
theorem aBc (hl:Byt l) {i:Int} (i0:0<=i) (hi:i<l.length): ∃q:Int,0<=q/\q<l.length/\rd (dC (iota l.length) l 256) q=i/\lfC l i=q:=by
 obtain⟨u,hu,e⟩:=gz.1 ((kI hl).1.symm.subset (aZ.2 ⟨i0,hi⟩));have hlen:=(kI hl).1.length_eq;rw[bB] at hlen;have e2:rd (dC (iota l.length) l 256) (u:Int)=i:=by rw[iP hu];exact e
 refine⟨u,G,G,e2,?_⟩;rw[<-e2];exact bLh hl G G
theorem aBd (hl:Byt l) {i:Int} (i0:0<=i) (hi:i<l.length):0<=lfC l i/\lfC l i<l.length:=by
 obtain⟨q,q0,q1,_,e⟩:=aBc hl i0 hi;omega
theorem bFq (hl:Byt l) {i k:Int} (i0:0<=i) (hi:i<l.length) (k0:0<=k) (hk:k<l.length):lfC l i<lfC l k↔tl l i k:=by
 obtain⟨p,p0,p1,ep,fp⟩:=aBc hl i0 hi;obtain⟨q,q0,q1,eq,fq⟩:=aBc hl k0 hk;have hlen:=(kI hl).1.length_eq;rw[bB] at hlen;have hs:=(kI hl).2;rw[fp,fq];constructor
 ·intro h;have:=eX hs p0 h G;rwa[ep,eq] at this
 ·intro h;rcases jd p q with a|a|a
  ·exact a
  ·subst a;rw[<-ep,<-eq] at h;exact absurd h (aSf _ _ h)
  ·have:=eX hs q0 a G;rw[ep,eq] at this;exact absurd h (aSf _ _ this)
theorem aVq (hl:Byt l) {i k:Int} (i0:0<=i) (hi:i<l.length) (k0:0<=k) (hk:k<l.length) (e:lfC l i=lfC l k):i=k:=by
 have h1:=bFq hl i0 hi k0 hk;have h2:=bFq hl k0 hk i0 hi;unfold tl at h1 h2;rcases jd (rd l i) (rd l k) with a|a|a
 ·have:=h1.2 (.inl a);omega
 ·rcases jd i k with b|b|b
  ·have:=h1.2 (.inr ⟨a,b⟩);omega
  ·exact b
  ·have:=h2.2 (.inr ⟨a.symm,b⟩);omega
 ·have:=h2.2 (.inl a);omega
def zat (a:AH):Int:=if (0:Int)∈a then(a.idxOf 0:Int)+1 else 0
def ofT (s a:AH):AH:=(a.filter λx=>decide (x≠0)).map λx=>rd s (x-1)
def ofL (s a:AH):AH:=(if 0<s.length then [rd s (s.length-1)] else [])++ofT s a
theorem XN {a:AH} (hd:a.Nodup) {i:Int} (i0:0<=i) (hi:i<a.length):zat (a.take (i+1).toNat)=if rd a i=0 then i+1 else zat (a.take i.toNat):=by
 rw[dH i0 hi];split
 ·rename_i e
  have mn:(0:Int)∉a.take i.toNat:=by
   intro h;obtain⟨q,hq,e2⟩:=gz.1 h;rw[ax] at hq;have:=jT hd (i:=(q:Int)) (j:=i) G G i0 hi (by rw[yu] at e2;rw[e,fI G G];simp only[cz];exact e2);omega
  unfold zat;rw[df (by simp[e]),Gz,bz mn,e];simp only[ax,List.idxOf_cons_self];omega
 ·rename_i e;have mn:(0:Int)∉[rd a i]:=by simp;exact λh=>e h.symm
  unfold zat;by_cases h:(0:Int)∈a.take i.toNat
  ·rw[df h,df (Bo _ h),Gz,df h]
  ·rw[bz h,bz (by rw[gp];exact λg=>g.elim h mn)]
theorem aAr {s a:AH} {i:Int} (i0:0<=i) (hi:i<a.length):ofT s (a.take (i+1).toNat)=ofT s (a.take i.toNat)++if rd a i=0 then [] else [rd s (rd a i-1)]:=by
 unfold ofT;rw[dH i0 hi,ui,jo];congr 1;by_cases h:rd a i=0
 ·rw[df h,ll (by simpa using h)];rfl
 ·rw[bz h,qa (by simpa using h)];rfl
variable {s a:AH}
theorem jQ {u v:AH} {j:Int} (h0:0<=j) (h:j<u.length):rd (u++v) j=rd u j:=by
 unfold rd;rw[ak,ak,ji G]
theorem gL {u v:AH} {j:Int} (h:(u.length:Int)<=j):rd (u++v) j=rd v (j-u.length):=by
 unfold rd;rw[ak,ak,ig G,show j.toNat-u.length=(j-u.length).toNat by omega]
theorem vZ {u:AH} {f:Int->Int} {j:Int} (h0:0<=j) (h:j<u.length):rd (u.map f) j=f (rd u j):=by
 rw[fI h0 (by rw[cu];exact h),Br,<-fI h0 h]
theorem sQ (hp:a.Perm (iota s.length)):(ofL s a).length=s.length/\(0<s.length->1<=zat a/\zat a<=s.length/\rd a (zat a-1)=0)/\(s.length=0->zat a=0)/\
  ∀j:Int,0<=j->j<s.length->rd (ofL s a) j=if j=0 then rd s (s.length-1) else if j<zat a then rd s (rd a (j-1)-1) else rd s (rd a j-1):=by
 have hl:a.length=s.length:=by rw[hp.length_eq,bB]
 rcases ed s.length with hz|hn
 ·have e:a=[]:=ek G;subst e;refine⟨by unfold ofL ofT;rw[bz G];simp;omega,λh=>G,λ_=>rfl,λj h0 h=>G⟩
 have hnd:a.Nodup:=hp.symm.nodup (eH _);have gd:(0:Int)∈a:=hp.symm.subset (aZ.2 ⟨lq 0,G⟩);obtain⟨a1,a2,e⟩:=List.append_of_mem gd
 have Fd:(0:Int)∉a1:=λh=>by
  rw[e] at hnd;exact(xz.1 hnd).2.2 0 h 0 cD rfl
 have Ow:(0:Int)∉a2:=λh=>by
  rw[e] at hnd;exact(wo.1 (xz.1 hnd).2.1).1 h
 have hzat:zat a=(a1.length:Int)+1:=by
  unfold zat;rw[df gd,e,Gz,bz Fd];simp
 have hT:ofT s a=(a1.map λx=>rd s (x-1))++a2.map λx=>rd s (x-1):=by
  unfold ofT;have f1:a1.filter (λx=>decide (x≠0))=a1:=Fj.2 λx hx=>mh λh=>Fd (by rw[<-h];exact hx);have f2:a2.filter (λx=>decide (x≠0))=a2:=Fj.2 λx hx=>mh λh=>Ow (by rw[<-h];exact hx);rw[e,ui,ll cD,f1,f2,jo]
 have hlen:a1.length+a2.length+1=s.length:=by rw[<-hl,e];simp;omega
 have hL:ofL s a=rd s (s.length-1)::((a1.map λx=>rd s (x-1))++a2.map λx=>rd s (x-1)):=by
  unfold ofL;rw[df hn,hT];rfl
 refine⟨by rw[hL];simp;omega,λ_=>⟨G,G,?_⟩,λh=>G,λj j0 j1=> ?_⟩
 ·rw [hzat,e,gL G,show(a1.length:Int)+1-1-a1.length=0 by omega];rfl
 ·rw [hL];by_cases hj:j=0
  ·subst hj;rw[df rfl];rfl
  ·rw [bz hj]
   have ec:rd (rd s (s.length-1)::((a1.map λx=>rd s (x-1))++a2.map λx=>rd s (x-1))) j=rd ((a1.map λx=>rd s (x-1))++a2.map λx=>rd s (x-1)) (j-1):=by
    unfold rd;rw[show j.toNat=(j-1).toNat+1 by omega];rfl
   rw[ec];split
   ·rename_i h;rw[jQ G (by rw[cu];omega),vZ G G,e,jQ G G]
   ·rename_i h;rw[gL (by rw[cu];omega),vZ (by rw[cu];omega) (by rw[cu];omega),e,gL G];rw[cu]
    have:rd ((0:Int)::a2) (j-a1.length)=rd a2 (j-1-a1.length):=by
     unfold rd;rw[show(j-a1.length).toNat=(j-1-a1.length).toNat+1 by omega];rfl
    rw[this]
def ixr (m r:Int):Int:=if m<r then r-1 else r
def jS (l:AH) (m:Int):Nat->Int
 |0=>0
 |t+1=>lfC l (ixr m (jS l m t))+1
def mJ (l:AH) (m:Int):AH:=(List.range l.length).map λi:Nat=>rd l (ixr m (jS l m (l.length-1-i)))
def bAj (l:AH) (m:Int):Prop:=min (l.length:Int) 1<=m/\m<=l.length
def bRl (l:AH) (m:Int):Prop:= ∀t:Nat,t<l.length->jS l m t≠m
def aRm (l:AH) (m:Int):Prop:=bAj l m/\bRl l m/\jS l m l.length=m
theorem tH (l:AH) (m:Int):(mJ l m).length=l.length:=by simp[mJ]
theorem ZW {m i:Int} (i0:0<=i) (hi:i<l.length):rd (mJ l m) i=rd l (ixr m (jS l m (l.length-1-i).toNat)):=by
 unfold mJ;rw[gY i0 hi,show l.length-1-i.toNat=((l.length:Int)-1-i).toNat by omega]
theorem WF {m r:Int} {n:Nat} (h0:0<=r) (h1:r<=n) (fd:r≠m) (px:0<=m) (hm:m<=n) (hn:0<n):0<=ixr m r/\ixr m r<n:=by
 unfold ixr;split<;>omega
theorem bIy {m r q:Int} (hr:r≠m) (hq:q≠m):ixr m r<ixr m q↔r<q:=by
 unfold ixr;split<;>split<;>omega
theorem aKj {m r q:Int} (hr:r≠m) (hq:q≠m) (h:ixr m r=ixr m q):r=q:=by
 unfold ixr at h;split at h<;>split at h<;>omega
theorem aDo (hl:Byt l) {m:Int} (hm:bAj l m): ∀t:Nat,(∀u:Nat,u<t->jS l m u≠m)->t<=l.length->0<=jS l m t/\jS l m t<=l.length
 |0,_,_=>by unfold jS;omega
 |t+1,h,ht=>by
  have ih:=aDo hl hm t (λu hu=>h u G) G;have hb:=WF (n:=l.length) ih.1 ih.2 (h t G) (by have:=hm.1;omega) hm.2 G;have:=aBd hl hb.1 hb.2;rw[jS];omega
theorem aAn {x:Int} (x0:0<=x) (hx:x<s.length) {y:Int} (hy:(s.length:Int)<=y): ¬bU s x y:=gH _ _ (CK x0 hx hy)
theorem aUs {j k:Int} (j0:0<=j) (hj:j<s.length) (k0:0<=k) (hk:k<s.length):bU s j k↔rd s j<rd s k\/rd s j=rd s k/\bU s (j+1) (k+1):=by
 rw[nC j0 hj k0 hk,gM]
end
end Go.Pure
namespace Go.Pure
open Go Go.Eng
section
variable {l s a:AH}
def cT (s:AH) (x y:Int):Prop:=cmpL (s.drop x.toNat) (s.drop y.toNat)<0
instance (s:AH):DecidableRel (cT s):=λx y=>by unfold cT;infer_instance
theorem WY {x y:Int}:cT s x y↔bU s x y:=gM
theorem bPs (x y:Int) (h:cT s x y): ¬cT s y x:=λh'=>gH _ _ (WY.1 h) (WY.1 h')
def CG (s:AH) (k:Int):Int:=((iota s.length).countP λj=>decide (cT s j k):Nat)
def lH (s:AH) (k:Int):Int:=if k<s.length then CG s k+1 else 0
theorem aUj (hp:a.Perm (iota s.length)) (ho:a.Pairwise (bU s)) {q:Int} (q0:0<=q) (hq:q<s.length):CG s (rd a q)=q:=aJw bPs hp (ho.imp λh=>WY.2 h) q0 hq
theorem MG (hp:a.Perm (iota s.length)) (ho:a.Pairwise (bU s)) {k:Int} (k0:0<=k) (hk:k<s.length):(0<=CG s k/\CG s k<s.length)/\rd a (CG s k)=k:=by
 obtain⟨u,hu,e⟩:=gz.1 (hp.symm.subset (aZ.2 ⟨k0,hk⟩));have hlen:=hp.length_eq;rw[bB] at hlen;have e2:rd a (u:Int)=k:=by rw[iP hu];exact e
 have e3:=aUj hp ho (q:=(u:Int)) G G;rw[e2] at e3;rw[e3];exact⟨G,e2⟩
theorem aFd {j k:Int} (j0:0<=j) (hj:j<=s.length) (k0:0<=k) (hk:k<=s.length):lH s j<lH s k↔bU s j k:=by
 obtain⟨a,hp,ho⟩:=pW s;have hlen:=hp.length_eq;rw[bB] at hlen;unfold lH;rcases bn j s.length with a1|a1
 ·rw [df a1];have yd:=MG hp ho j0 a1;rcases bn k s.length with b1|b1
  ·rw [df b1];have pe:=MG hp ho k0 b1;constructor
   ·intro h;have:=eX ho yd.1.1 (by omega:CG s j<CG s k) G;rwa[yd.2,pe.2] at this
   ·intro h;rcases jd (CG s j) (CG s k) with c|c|c
    ·omega
    ·rw [c,pe.2] at yd;rw[<-yd.2] at h;exact absurd h (gH _ _ h)
    ·have:=eX ho pe.1.1 c G;rw[yd.2,pe.2] at this;exact absurd h (gH _ _ this)
  ·rw [bz G];exact⟨λh=>G,λh=>absurd h (aAn j0 a1 b1)⟩
 ·rw [bz G];rcases bn k s.length with b1|b1
  ·rw [df b1];have pe:=MG hp ho k0 b1;exact⟨λ_=>CK k0 b1 a1,λ_=>G⟩
  ·rw [bz G];obtain rfl:j=k:=G
   exact⟨λh=>G,λh=>absurd h (gH _ _ h)⟩
theorem zK {k:Int} (k0:0<=k):0<=lH s k/\lH s k<=s.length/\(k<s.length->1<=lH s k):=by
 obtain⟨a,hp,ho⟩:=pW s;unfold lH;split
 ·rename_i h;have:=MG hp ho k0 h;omega
 ·omega
theorem xP {j k:Int} (j0:0<=j) (hj:j<=s.length) (k0:0<=k) (hk:k<=s.length) (e:lH s j=lH s k):j=k:=by
 have h1:=aFd j0 hj k0 hk;have h2:=aFd k0 hk j0 hj;rcases bn j s.length with a1|a1
 ·rcases bn k s.length with b1|b1
  ·by_cases h:j=k
   ·exact h
   ·rcases CO ⟨j0,a1⟩ ⟨k0,b1⟩ h with c|c
    ·have:=h1.2 c;omega
    ·have:=h2.2 c;omega
  ·have:=h2.2 (CK j0 a1 b1);omega
 ·rcases bn k s.length with b1|b1
  ·have:=h1.2 (CK k0 b1 a1);omega
  ·omega
theorem mO (hp:a.Perm (iota s.length)) (ho:a.Pairwise (bU s)):zat a=lH s 0:=by
 obtain⟨_,h1,h2,_⟩:=sQ hp;unfold lH;rcases ed s.length with hz|hn
 ·rw[bz G,h2 hz]
 ·have h:=h1 hn;rw[df G];have:=aUj hp ho (q:=zat a-1) G G;rw[h.2.2] at this;omega
theorem letter (hp:a.Perm (iota s.length)) (ho:a.Pairwise (bU s)) {k:Int} (k0:0<=k) (hk:k<s.length):(0<=ixr (zat a) (lH s (k+1))/\ixr (zat a) (lH s (k+1))<s.length)/\rd (ofL s a) (ixr (zat a) (lH s (k+1)))=rd s k:=by
 obtain⟨_,h1,_,h3⟩:=sQ hp;have hz:=h1 G;have hb:=zK (s:=s) (k:=k+1) G
 have fd:lH s (k+1)≠zat a:=by
  rw[mO hp ho];intro e;have:=xP (s:=s) G G (lq 0) G e;omega
 have sq:=WF hb.1 hb.2.1 fd G hz.2.1 G;refine⟨sq,?_⟩;rw[h3 _ sq.1 sq.2];rcases bn (k+1) s.length with c|c
 ·have Me:=MG hp ho (k:=k+1) G c;have er:lH s (k+1)=CG s (k+1)+1:=by unfold lH;rw[df c]
  unfold ixr at sq ⊢;by_cases d:zat a<lH s (k+1)
  ·rw [df d];rw[bz G,bz G,show lH s (k+1)-1=CG s (k+1) by omega,Me.2];congr 1;omega
  ·rw [bz d];rw[bz G,df G,show lH s (k+1)-1=CG s (k+1) by omega,Me.2];congr 1;omega
 ·have er:lH s (k+1)=0:=by unfold lH;rw[bz G]
  have e0:ixr (zat a) 0=0:=by unfold ixr;rw[bz G]
  rw[er,e0,df rfl];congr 1;omega
theorem uL (hs:Byt s) (hp:a.Perm (iota s.length)):Byt (ofL s a):=by
 intro x hx;obtain⟨h0,_,_,h3⟩:=sQ hp;obtain⟨u,hu,rfl⟩:=gz.1 hx;have Gk:=hp.length_eq;rw[bB] at Gk;have e:=h3 u G G;rw[iP hu] at e;have hm: ∀j:Int,0<=j->j<s.length->0<=rd s j/\rd s j<256:=λj j0 j1=>hs _ (bJ j0 j1);have ha: ∀j:Int,0<=j->j<s.length->0<=rd a j/\rd a j<s.length:=λj j0 j1=>aZ.1 (hp.subset (bJ j0 G));have Mb: ∀j:Int,j<0->rd s j=rd s 0:=λj h=>by unfold rd;rw[show j.toNat=(0:Int).toNat by omega]
 have Qk: ∀j:Int,j<s.length->0<=rd s j/\rd s j<256:=λj h=>by
  rcases bn j 0 with c|c
  ·rw[Mb j c];exact hm 0 (lq 0) G
  ·exact hm j c h
 rw[e];split
 ·exact Qk _ G
 ·split
  ·have:=ha ((u:Int)-1) G G;exact Qk _ G
  ·have:=ha u G G;exact Qk _ G
theorem bDj (hs:Byt s) (hp:a.Perm (iota s.length)) (ho:a.Pairwise (bU s)) {k:Int} (k0:0<=k) (hk:k<s.length):lfC (ofL s a) (ixr (zat a) (lH s (k+1)))=CG s k:=by
 obtain⟨h0,h1,_,_⟩:=sQ hp
 have fd: ∀j:Int,0<=j->j<s.length->lH s (j+1)≠zat a:=λj j0 j1 e=>by
  rw[mO hp ho] at e;have:=xP (s:=s) G G (lq 0) G e;omega
 have hb:=EH (n:=s.length) (f:=λk=>ixr (zat a) (lH s (k+1))) (λj j0 j1=>(letter hp ho j0 j1).1) λx y x0 x1 y0 y1 e=>by
  have e2:=aKj (fd x x0 x1) (fd y y0 y1) e;have:=xP (s:=s) G G G G e2;omega
 unfold lfC CG;rw[h0,<-hb.countP_eq,List.countP_map];congr 1;refine Gx λj hj=> ?_;have hj:=aZ.1 hj;simp only[Function.comp_apply,iv];rw[WY,aUs hj.1 hj.2 k0 hk,<-aFd G G G G];unfold tl;rw[(letter hp ho hj.1 hj.2).2,(letter hp ho k0 hk).2,bIy (fd j hj.1 hj.2) (fd k k0 hk)]
theorem EI (hs:Byt s) (hp:a.Perm (iota s.length)) (ho:a.Pairwise (bU s)): ∀t:Nat,t<=s.length->jS (ofL s a) (zat a) t=lH s (s.length-t)
 |0,_=>by unfold jS lH;rw[bz G]
 |t+1,ht=>by
  rw[jS,EI hs hp ho t G];have:=bDj hs hp ho (k:=(s.length:Int)-((t+1:Nat):Int)) G G;rw[show(s.length:Int)-((t+1:Nat):Int)+1=s.length-(t:Int) by omega] at this;rw[this];unfold lH;rw[df G]
theorem vN (hs:Byt s) (hp:a.Perm (iota s.length)) (ho:a.Pairwise (bU s)):aRm (ofL s a) (zat a)/\mJ (ofL s a) (zat a)=s:=by
 obtain⟨h0,h1,h2,_⟩:=sQ hp;refine⟨⟨?_,λt ht=> ?_,?_⟩,?_⟩
 ·unfold bAj;rw[h0];rcases ed s.length with hz|hn
  ·have:=h2 hz;omega
  ·have:=h1 hn;omega
 ·rw [h0] at ht;rw[EI hs hp ho t G,mO hp ho];intro e;have:=xP (s:=s) G G (lq 0) G e;omega
 ·rw [h0,EI hs hp ho _ (di _),mO hp ho];congr 1;omega
 ·refine bM (by rw[tH,h0]) λi i0 i1=> ?_;rw[tH,h0] at i1;rw[ZW i0 (by rw[h0];exact i1),h0,EI hs hp ho _ G];have:=(letter hp ho i0 i1).2;rwa[show(s.length:Int)-(((s.length:Int)-1-i).toNat:Int)=i+1 by omega]
theorem aVd (hp:a.Perm (iota s.length)) (ho:a.Pairwise (bU s)):((iota s.length).map λk=>ixr (zat a) (lH s (k+1))).Perm (iota s.length):=by
 have fd: ∀j:Int,0<=j->j<s.length->lH s (j+1)≠zat a:=λj j0 j1 e=>by
  rw[mO hp ho] at e;have:=xP (s:=s) G G (lq 0) G e;omega
 exact EH (n:=s.length) (f:=λk=>ixr (zat a) (lH s (k+1))) (λj j0 j1=>(letter hp ho j0 j1).1) λx y x0 x1 y0 y1 e=>by
  have e2:=aKj (fd x x0 x1) (fd y y0 y1) e;have:=xP (s:=s) G G G G e2;omega
theorem wH (hp:a.Perm (iota s.length)) (ho:a.Pairwise (bU s)):(ofL s a).Perm s:=by
 have h0:=(sQ hp).1;have h1:=(aVd hp ho).map (rd (ofL s a));rw[zg] at h1
 have e1:(iota s.length).map (rd (ofL s a) ∘ λk=>ixr (zat a) (lH s (k+1)))=s:=by
  conv=>rhs;rw[<-mG s]
  refine Ce λk hk=> ?_;have hk:=aZ.1 hk;exact(letter hp ho hk.1 hk.2).2
 have e2:(iota s.length).map (rd (ofL s a))=ofL s a:=by
  have:=mG (ofL s a);rwa[h0] at this
 rw[e1,e2] at h1;exact h1.symm
end
end Go.Pure
namespace Go.Pure
open Go Go.Eng
theorem aAj {l m:AH} (hl:l.Nodup) (hm:m.Nodup) (e: ∀x,x∈l↔x∈m):l.Perm m:=
 qU hl (λx h=>(e x).1 h) (oH hm λx h=>(e x).2 h)
def QC (r k:Nat):AH:=(List.range k).map λt:Nat=>(r+3*t:Int)
theorem aAd (r k:Nat):(QC r k).length=k:=by simp[QC]
theorem aOc (r k:Nat):QC r (k+1)=QC r k++[(r+3*k:Int)]:=by
 unfold QC;rw[zw,jo];rfl
def plc (n r:Nat):AH:=QC r ((n+2-r)/3)
theorem jV (n r:Nat):(plc n r).length=(n+2-r)/3:=aAd _ _
theorem VK {n r:Nat} {t:Int} (h0:0<=t) (h:t<(plc n r).length):rd (plc n r) t=r+3*t:=by
 rw[jV] at h;unfold plc QC;rw[gY h0 G];omega
theorem kG {n r:Nat} {x:Int} (hr:r<=2):x∈plc n r↔0<=x/\x<n/\x%3=r:=by
 unfold plc QC;rw[iy];constructor
 ·rintro ⟨t,ht,rfl⟩;have:=jq.1 ht;omega
 ·rintro ⟨h0,h1,h2⟩;exact⟨((x-r)/3).toNat,jq.2 G,G⟩
theorem xV (n r:Nat):(plc n r).Nodup:=by
 unfold plc QC;exact iw.2 (xh.imp λ{x y} h hh=>h G)
def smp (n:Nat):AH:=plc n 1++plc n 2
theorem lS {n:Nat} {x:Int}:x∈smp n↔0<=x/\x<n/\x%3≠0:=by
 unfold smp;rw[gp,kG G,kG G];omega
theorem BM (n:Nat):(smp n).length=(n+1)/3+n/3:=by
 unfold smp;rw[ah,jV,jV];omega
theorem qB (n:Nat):(smp n).Nodup:=by
 unfold smp;refine xz.2 ⟨xV _ _,xV _ _,λa ha b hb e=> ?_⟩;rw[kG G] at ha hb;omega
theorem bBc (n:Nat):(smp n++plc n 0).Perm (iota n):=by
 refine aAj (xz.2 ⟨qB _,xV _ _,λa ha b hb e=> ?_⟩) (eH n) λx=> ?_
 ·rw [lS] at ha;rw[kG G] at hb;omega
 ·rw [gp,lS,kG G,aZ];omega
def iR (s:AH) (i:Int):Int:=if (s.length:Int)<=i then 0 else rd s i+1
def gF (s:AH) (b:Int):AH:=(List.range s.length).map λi:Nat=>iR s ((i:Int)+b)
theorem FV (s:AH) (b:Int):(gF s b).length=s.length:=by simp[gF]
theorem BZ {s:AH} {b i:Int} (h0:0<=i) (h:i<s.length):rd (gF s b) i=iR s (i+b):=by
 unfold gF;rw[gY h0 G];congr 1;omega
theorem bFp: ∀ {s:AH},Nn s->lo s=0
 |[],_=>rfl
 |a::s,h=>by
  have:=bFp (s:=s) λx hx=>h x (fe _ hx);have ha:=h a cD;unfold lo at this ⊢;rw[List.foldr_cons,this];omega
theorem uQ {s:AH} (hs:Nn s) (i d:Nat):eu s i d=iR s ((i+d:Nat):Int):=by
 unfold eu iR;rw[bFp hs];by_cases h:i+d<s.length
 ·rw [df h,bz G];unfold rd lt;rw[cz];omega
 ·rw[bz h,df G]
theorem aKi {s:AH} {k:Int} (hs: ∀x∈s,0<=x/\x<k) (hk:0<=k) {i:Int} (h0:0<=i):0<=iR s i/\iR s i<k+1:=by
 unfold iR;split
 ·omega
 ·have:=hs _ (bJ (L:=s) h0 G);omega
theorem aBi {s:AH} {k b:Int} (hs: ∀x∈s,0<=x/\x<k) (hk:0<=k) (hb:0<=b): ∀x∈gF s b,0<=x/\x<k+1:=by
 intro x hx;obtain⟨i,_,rfl⟩:=iy.1 hx;exact aKi hs hk G
theorem aXb (s:AH) (i d:Nat):0<=eu s i d:=by
 rcases fo (i+d) s.length with h|h
 ·exact De (sF h)
 ·rw[jH h];exact lq 0
def LtO (U V:Nat->Int):Prop:= ∃k,(∀i,i<k->U i=V i)/\U k<V k
theorem zQ {m:Nat} {U V:Nat->Int}:LtH m U V->LtO U V:=λ⟨k,_,h1,h2⟩=>⟨k,h1,h2⟩
theorem bDe {s:AH} {x y:Nat}:LtO (eu s x) (eu s y)↔LtH s.length (eu s x) (eu s y):=by
 refine⟨λ⟨k,h1,h2⟩=>⟨k,?_,h1,h2⟩,zQ⟩;have:=aXb s x k;rcases fo (y+k) s.length with h|h
 ·omega
 ·rw[jH h] at h2;omega
theorem nY {s:AH} {x y:Int}:bU s x y↔LtO (eu s x.toNat) (eu s y.toNat):=bDe.symm
theorem aOp {U V:Nat->Int} (h:LtO U V): ¬LtO V U:=by
 rintro⟨k',Wy,h2'⟩;obtain⟨k,h1,h2⟩:=h;rcases vo k k' with a|a|a
 ·have:=Wy k a;omega
 ·subst a;omega
 ·have:=h1 k' a;omega
theorem aOo {U V:Nat->Int} {m:Nat} (e:EqH m U V):LtO (λd=>U (m+d)) (λd=>V (m+d))↔LtO U V:=by
 constructor
 ·rintro ⟨k,h1,h2⟩;refine⟨m+k,λi hi=> ?_,h2⟩;rcases fo i m with a|a
  ·exact e i a
  ·have:=h1 (i-m) G;simp only[show m+(i-m)=i by omega] at this;exact this
 ·rintro ⟨k,h1,h2⟩
  have hk:m<=k:=by
   rcases fo k m with a|a
   ·have:=e k a;omega
   ·exact a
  refine⟨k-m,λi hi=>h1 (m+i) G,?_⟩;simp only[show m+(k-m)=k by omega];exact h2
theorem aBz (s:AH) (i m:Nat):(λd=>eu s i (m+d))=eu s (i+m):=funext λd=>(wY s i m d).symm
theorem ND {s:AH} {i j m:Nat} (e:EqH m (eu s i) (eu s j)):LtO (eu s (i+m)) (eu s (j+m))↔LtO (eu s i) (eu s j):=by
 rw[<-aBz,<-aBz];exact aOo e
theorem uR {s:AH} {m i j:Nat} (hi:i<s.length) (hj:j<s.length) (oa:i≠j) (e:EqH m (eu s i) (eu s j)):j+m<=s.length:=by
 refine Ir.1 λh=> ?_;have e1:=e (s.length-j) G;rw[jH (s:=s) (i:=j) G] at e1;have h1:s.length<=i+(s.length-j):=Ir.1 λhh=>by have:=sF hh;omega
 have e2:=e (s.length-i) G;rw[jH (s:=s) (i:=i) G] at e2;have:=sF (s:=s) (i:=j) (d:=s.length-i) G;omega
def bHl (s:AH) (k:Int):AH:=dC (dC (dC (smp s.length) (gF s 2) (k+1).toNat) (gF s 1) (k+1).toNat) (gF s 0) (k+1).toNat
section
variable {s:AH} {k:Int}
theorem qC {o:AH} {b:Int} (hs: ∀x∈s,0<=x/\x<k) (hk:0<=k) (hb:0<=b) (ho: ∀x∈o,0<=x/\x<s.length):(dC o (gF s b) (k+1).toNat).Perm o:=
 nW λi hi=>by
  have:=ho i hi;rw[BZ this.1 this.2];have:=aKi hs hk (i:=i+b) G;omega
theorem nT {x:Int} (h:x∈smp s.length):0<=x/\x<s.length:=by rw[lS] at h;omega
theorem bFk (hs: ∀x∈s,0<=x/\x<k) (hk:0<=k):(dC (smp s.length) (gF s 2) (k+1).toNat).Perm (smp s.length):=qC hs hk G λ_ h=>nT h
theorem bFj (hs: ∀x∈s,0<=x/\x<k) (hk:0<=k):(dC (dC (smp s.length) (gF s 2) (k+1).toNat) (gF s 1) (k+1).toNat).Perm (smp s.length):=
 (qC hs hk G λ_ h=>nT ((bFk hs hk).subset h)).trans (bFk hs hk)
theorem bFi (hs: ∀x∈s,0<=x/\x<k) (hk:0<=k):(bHl s k).Perm (smp s.length):=
 (qC hs hk G λ_ h=>nT ((bFj hs hk).subset h)).trans (bFj hs hk)
theorem aEp (hs: ∀x∈s,0<=x/\x<k) (hk:0<=k):(bHl s k).Pairwise λx y=> ¬LtH 3 (eu s y.toNat) (eu s x.toNat):=by
 have h0:(smp s.length).Pairwise λ_ _=>True:=(qB s.length).imp λ_=>trivial;have h3:=iB (keys:=gF s 0) (iB (keys:=gF s 1) (iB (keys:=gF s 2) h0 (k+1).toNat) (k+1).toNat) (k+1).toNat;refine oq (λ{x y} hx hy h=> ?_) h3;have mx:=nT ((bFi hs hk).subset hx);have my:=nT ((bFi hs hk).subset hy);have nn:Nn s:=λx hx=>(hs x hx).1
 have e: ∀ {z:Int} (hz:0<=z/\z<s.length) (b:Nat),rd (gF s (b:Int)) z=eu s z.toNat b:=λ{z} hz b=>by
  rw[BZ hz.1 hz.2,uQ nn];congr 1;omega
 have ex0:rd (gF s 0) x=eu s x.toNat 0:=e mx 0;have ex1:rd (gF s 1) x=eu s x.toNat 1:=e mx 1;have ex2:rd (gF s 2) x=eu s x.toNat 2:=e mx 2;have ey0:rd (gF s 0) y=eu s y.toNat 0:=e my 0;have ey1:rd (gF s 1) y=eu s y.toNat 1:=e my 1;have ey2:rd (gF s 2) y=eu s y.toNat 2:=e my 2;rw[ex0,ex1,ex2,ey0,ey1,ey2] at h;rintro⟨q,hq,h1,h2⟩
 match q,hq,h1,h2 with
 |0,_,h1,h2=>omega
 |1,_,h1,h2=>have:=h1 0 G;omega
 |2,_,h1,h2=>have:=h1 0 G;have:=h1 1 G;omega
end
structure RkI (s o V:AH) (q n:Int):Prop where
 len:V.length=s.length+3
 n0:0<=n
 nq:n<=q
 bd: ∀p,0<=p->p<q->1<=rd V (rd o p)/\rd V (rd o p)<=n
 last:0<q->rd V (rd o (q-1))=n
 lt: ∀p p',0<=p->p<p'->p'<q->(EqH 3 (eu s (rd o p).toNat) (eu s (rd o p').toNat)/\rd V (rd o p)=rd V (rd o p'))\/(LtH 3 (eu s (rd o p).toNat) (eu s (rd o p').toNat)/\rd V (rd o p)<rd V (rd o p'))
 full:n=q-> ∀p,0<=p->p<q->rd V (rd o p)=p+1
 out: ∀j:Int,0<=j->j<s.length+3->(∀p:Int,0<=p->p<q->rd o p≠j)->rd V j=0
theorem EqH.trans' {m:Nat} {U V W:Nat->Int} (h:EqH m U V) (g:EqH m V W):EqH m U W:=λi hi=>(h i hi).trans (g i hi)
theorem EqH.ltH {m:Nat} {U V W:Nat->Int} (h:EqH m U V) (g:LtH m V W):LtH m U W:=by
 obtain⟨k,hk,a,b⟩:=g;exact⟨k,hk,λi hi=>(h i G).trans (a i hi),by rw[h k hk];exact b⟩
theorem LtH.eqH {m:Nat} {U V W:Nat->Int} (h:LtH m U V) (g:EqH m V W):LtH m U W:=by
 obtain⟨k,hk,a,b⟩:=h;exact⟨k,hk,λi hi=>(a i hi).trans (g i G),by rw[<-g k hk];exact b⟩
section
variable {s o V:AH} {q n:Int}
theorem aTl:RkI s o (List.replicate (s.length+3) 0) 0 0:=
 ⟨bu,G,G,λp h1 h2=>G,λh=>G,λp p' h1 h2 h3=>G,λ_ p h1 h2=>G,λj _ _ _=>pV⟩
theorem RkI.step (h:RkI s o V q n) (hp:o.Perm (smp s.length)) (q0:0<=q) (hq:q<o.length) {m:Int}
  (hm:(m=n+1/\(q=0\/LtH 3 (eu s (rd o (q-1)).toNat) (eu s (rd o q).toNat)))\/(m=n/\0<q/\EqH 3 (eu s (rd o (q-1)).toNat) (eu s (rd o q).toNat))):
  RkI s o (upd V (rd o q) m) (q+1) m:=by
 have cj: ∀p:Int,0<=p->p<o.length->0<=rd o p/\rd o p<s.length:=λp p0 p1=>nT (hp.subset (bJ p0 p1));have hnd:o.Nodup:=hp.symm.nodup (qB _);have hV:=h.len;have iq:=cj q q0 hq;have same:rd (upd V (rd o q) m) (rd o q)=m:=eT iq.1 G
 have other: ∀p,0<=p->p<q->rd (upd V (rd o q) m) (rd o p)=rd V (rd o p):=λp p0 p1=>by
  have ip:=cj p p0 G;exact fO iq.1 ip.1 λe=>by have:=jT hnd q0 hq p0 G e;omega
 have Ma:=h.n0;have hnq:=h.nq;refine⟨by rw[aY];exact hV,G,G,λp p0 p1=> ?_,λ_=>by rw[show q+1-1=q by omega];exact same,λp p' p0 pp p1=> ?_,λe p p0 p1=> ?_,λj j0 j1 hj=> ?_⟩
 ·rcases bn p q with a|a
  ·rw [other p p0 a];have:=h.bd p p0 a;omega
  ·rw [show p=q by omega,same];rcases hm with⟨a,_⟩|⟨a,b,_⟩
   ·omega
   ·have:=h.bd (q-1) G G;have:=h.last b;omega
 ·rcases bn p' q with a|a
  ·rw [other p p0 G,other p' G a];exact h.lt p p' p0 pp a
  ·obtain rfl:p'=q:=G
   rw[other p p0 pp,same];have hl:=h.last G;have hb:=h.bd p p0 pp;rcases bn p (p'-1) with c|c
   ·have h1:=h.lt p (p'-1) p0 c G;rcases hm with⟨rfl,z|g⟩|⟨rfl,_,g⟩
    ·omega
    ·refine .inr ⟨?_,G⟩;rcases h1 with⟨e,_⟩|⟨e,_⟩
     ·exact e.ltH g
     ·exact e.trans g
    ·rcases h1 with⟨e,v⟩|⟨e,v⟩
     ·exact .inl ⟨e.trans' g,G⟩
     ·exact .inr ⟨e.eqH g,G⟩
   ·obtain rfl:p=p'-1:=G
    rcases hm with⟨rfl,z|g⟩|⟨rfl,_,g⟩
    ·omega
    ·exact .inr ⟨g,G⟩
    ·exact .inl ⟨g,hl⟩
 ·rcases hm with⟨a,_⟩|⟨a,_,_⟩
  ·rcases bn p q with c|c
   ·rw [other p p0 c];exact h.full G p p0 c
   ·rw [show p=q by omega,same];omega
  ·omega
 ·rw [fO iq.1 j0 (hj q q0 G)];exact h.out j j0 j1 λp p0 p1=>hj p p0 G
theorem aGo {l:AH} {x:Int} (h:x∈l): ∃p:Int,0<=p/\p<l.length/\rd l p=x:=by
 obtain⟨i,hi,rfl⟩:=gz.1 h;exact⟨i,G,G,iP hi⟩
structure RkF (s V:AH) (n:Int):Prop where
 len:V.length=s.length+3
 bd: ∀i:Nat,i<s.length->i%3≠0->1<=rd V i/\rd V i<=n
 lt: ∀i j:Nat,i<s.length->i%3≠0->j<s.length->j%3≠0->(rd V i<rd V j↔LtH 3 (eu s i) (eu s j))
 eq: ∀i j:Nat,i<s.length->i%3≠0->j<s.length->j%3≠0->(rd V i=rd V j↔EqH 3 (eu s i) (eu s j))
 out: ∀j:Int,0<=j->j<s.length+3->(j%3=0\/s.length<=j)->rd V j=0
theorem RkI.done (h:RkI s o V o.length n) (hp:o.Perm (smp s.length)):RkF s V n:=by
 have at_: ∀i:Nat,i<s.length->i%3≠0-> ∃p:Int,0<=p/\p<o.length/\rd o p=i:=λi h1 h2=>aGo (hp.symm.subset (lS.2 ⟨G,G,G⟩))
 have key: ∀i j:Nat,i<s.length->i%3≠0->j<s.length->j%3≠0->(EqH 3 (eu s i) (eu s j)/\rd V i=rd V j)\/(LtH 3 (eu s i) (eu s j)/\rd V i<rd V j)\/(LtH 3 (eu s j) (eu s i)/\rd V j<rd V i):=by
  intro i j i1 i2 j1 j2;obtain⟨p,p0,p1,ep⟩:=at_ i i1 i2;obtain⟨r,r0,r1,er⟩:=at_ j j1 j2;rcases jd p r with a|a|a
  ·have:=h.lt p r p0 a r1;rw[ep,er,cz,cz] at this;exact this.elim .inl λh=> .inr (.inl h)
  ·subst a;have e:(i:Int)=j:=ep.symm.trans er;have e:i=j:=G
   subst e;exact .inl ⟨λ_ _=>rfl,rfl⟩
  ·have:=h.lt r p r0 a p1;rw[ep,er,cz,cz] at this;exact this.elim (λh=> .inl ⟨h.1.symm,h.2.symm⟩) λh=> .inr (.inr h)
 refine⟨h.len,λi i1 i2=> ?_,λi j i1 i2 j1 j2=> ?_,λi j i1 i2 j1 j2=> ?_,λj j0 j1 hj=>h.out j j0 j1 λp p0 p1 e=> ?_⟩
 ·obtain ⟨p,p0,p1,ep⟩:=at_ i i1 i2;have:=h.bd p p0 p1;rwa[ep] at this
 ·rcases key i j i1 i2 j1 j2 with⟨e,v⟩|⟨e,v⟩|⟨e,v⟩
  ·exact⟨λh=>G,λh=>absurd e h.not_eq⟩
  ·exact⟨λ_=>e,λ_=>v⟩
  ·exact⟨λh=>G,λh=>absurd h e.asymm⟩
 ·rcases key i j i1 i2 j1 j2 with⟨e,v⟩|⟨e,v⟩|⟨e,v⟩
  ·exact⟨λ_=>e,λ_=>v⟩
  ·exact⟨λh=>G,λh=>absurd h e.not_eq⟩
  ·exact⟨λh=>G,λh=>absurd h.symm e.not_eq⟩
 ·have:=lS.1 (hp.subset (e▸bJ (L:=o) p0 p1));omega
structure RkO (s o V:AH):Prop where
 perm:o.Perm (smp s.length)
 sorted:o.Pairwise (bU s)
 len:V.length=s.length+3
 rk: ∀p:Int,0<=p->p<o.length->rd V (rd o p)=p+1
 out: ∀j:Int,0<=j->j<s.length+3->(j%3=0\/s.length<=j)->rd V j=0
theorem RkI.all (h:RkI s o V o.length n) (hp:o.Perm (smp s.length)) (hn:n=o.length):RkO s o V:=by
 have hf:=h.full hn;refine⟨hp,?_,h.len,hf,(h.done hp).out⟩;refine dn.2 λi j hi hj oa=> ?_;have:=h.lt i j G G G;have e1:=hf i G G;have e2:=hf j G G;rw[iP hi,iP hj] at this;rw[iP hi] at e1;rw[iP hj] at e2;rcases this with⟨_,v⟩|⟨v,_⟩
 ·omega
 ·exact nY.2 (zQ v)
def blw (s V:AH):AH:=(plc s.length 1).map (rd V)++[0]++(plc s.length 2).map (rd V)
theorem uS (s V:AH):(blw s V).length=(s.length+1)/3+1+s.length/3:=by
 unfold blw;rw[ah,ah,cu,cu,jV,jV,gq];omega
def tF (s:AH) (i:Nat):Nat:=if i%3=1 then i/3 else(s.length+1)/3+1+i/3
theorem bEr {t:Int} (h0:0<=t) (h:t<(plc s.length 1).length):rd (blw s V) t=rd V (1+3*t):=by
 unfold blw;rw[jQ h0 (by rw[ah,cu];omega),jQ h0 (by rw[cu];exact h),vZ h0 h,VK h0 h];rfl
theorem bEq:rd (blw s V) (plc s.length 1).length=0:=by
 unfold blw;rw[jQ G (by rw[ah,cu,gq];omega),gL (by rw[cu];omega),cu,Fs];rfl
theorem bEp {t:Int} (h0:0<=t) (h:t<(plc s.length 2).length):rd (blw s V) ((plc s.length 1).length+1+t)=rd V (2+3*t):=by
 unfold blw;have e:(((plc s.length 1).map (rd V)++[0]).length:Int)=(plc s.length 1).length+1:=by rw[ah,cu,gq];rfl
 rw[gL (by rw[e];omega),e,show((plc s.length 1).length+1+t:Int)-((plc s.length 1).length+1)=t by omega,vZ h0 h,VK h0 h];rfl
theorem RkF.nn (h:RkF s V n): ∀i:Nat,i<s.length->i%3≠0->0<=rd V i:=λi a b=>by have:=h.bd i a b;omega
theorem aZo (h:RkF s V n) (hn:0<=n): ∀x∈blw s V,0<=x/\x<n+1:=by
 intro x hx;unfold blw at hx
 have g: ∀r:Nat,r=1\/r=2->x∈(plc s.length r).map (rd V)->0<=x/\x<n+1:=λr hr hx=>by
  obtain⟨i,hi,rfl⟩:=iy.1 hx;rw[kG G] at hi;have:=h.bd i.toNat G G;rw[show((i.toNat:Nat):Int)=i by omega] at this;omega
 rcases gp.1 hx with hx|hx
 ·rcases gp.1 hx with hx|hx
  ·exact g 1 (.inl rfl) hx
  ·rw[ib.1 hx];omega
 ·exact g 2 (.inr rfl) hx
theorem aZn (h:RkF s V n) (hn:0<=n):Nn (blw s V):=λx hx=>(aZo h hn x hx).1
theorem GK (h:RkF s V n) (hn:0<=n) {i:Nat} (hi:i<s.length) (h3:i%3≠0):eu (blw s V) (tF s i) 0=rd V i+1:=by
 have l1:=jV s.length 1;have l2:=jV s.length 2;rw[uQ (aZn h hn)];unfold iR;rw[uS];unfold tF;by_cases c:i%3=1
 ·rw[df c,bz G,qo,bEr G (by rw[l1];omega),show(1+3*((i/3:Nat):Int))=i by omega]
 ·rw[bz c,bz G,qo,show(((s.length+1)/3+1+i/3:Nat):Int)=(plc s.length 1).length+1+(i/3:Nat) by rw[l1];omega,bEp G (by rw[l2];omega),show(2+3*((i/3:Nat):Int))=i by omega]
theorem aLq (h:RkF s V n) (hn:0<=n) (h3:s.length%3≠0):eu (blw s V) (tF s s.length) 0<=1:=by
 have l1:=jV s.length 1;rw[uQ (aZn h hn)];unfold iR;rw[uS];unfold tF;by_cases c:s.length%3=1
 ·rw [df c,bz G,qo,show((s.length/3:Nat):Int)=(plc s.length 1).length by rw[l1];omega,bEq];omega
 ·rw [bz c,df G];omega
theorem aZk {i:Nat} (h3:i%3≠0):tF s (i+3)=tF s i+1:=by
 unfold tF;by_cases c:i%3=1
 ·rw[df c,df G];omega
 ·rw[bz c,bz G];omega
theorem bEs (h:RkF s V n) (hn:0<=n): ∀(k i j:Nat),i%3≠0->j%3≠0->i<=s.length->j<=s.length->i≠j->
  (∀d,d<k->eu (blw s V) (tF s i) d=eu (blw s V) (tF s j) d)->eu (blw s V) (tF s i) k<eu (blw s V) (tF s j) k->LtO (eu s i) (eu s j):=by
 intro k
 induction k with
 | zero=>
  intro i j i3 j3 hi hj oa _ bc;rcases fo j s.length with j1|j1
  ·rcases fo i s.length with i1|i1
   ·rw [GK h hn i1 i3,GK h hn j1 j3] at bc;exact zQ ((h.lt i j i1 i3 j1 j3).1 G)
   ·exact⟨0,λi hi=>G,by rw[jH G];exact sF G⟩
  ·have e:j=s.length:=G
   rw[e] at bc j3;have h1:=aLq h hn j3;rw[GK h hn G i3] at bc;have:=h.bd i G i3;omega
 | succ k ih=>
  intro i j i3 j3 hi hj oa j8 bc;have e0:=j8 0 G;rcases fo j s.length with j1|j1
  ·rcases fo i s.length with i1|i1
   ·rw [GK h hn i1 i3,GK h hn j1 j3] at e0;have e:=(h.eq i j i1 i3 j1 j3).1 G;have r1:=uR i1 j1 oa e;have r2:=uR j1 i1 (Fx oa) e.symm
    have sh: ∀ {x d:Nat},x%3≠0->eu (blw s V) (tF s (x+3)) d=eu (blw s V) (tF s x) (d+1):=λ{x d} hx=>by
     rw[aZk hx,wY,wu]
    have:=ih (i+3) (j+3) G G r2 r1 G (λd hd=>by rw[sh i3,sh j3];exact j8 (d+1) G) (by rw[sh i3,sh j3];exact bc);exact(ND e).1 this
   ·exact⟨0,λi hi=>G,by rw[jH G];exact sF G⟩
  ·exfalso;have e:j=s.length:=G
   rw[e] at e0 j3;have h1:=aLq h hn j3;rw[GK h hn G i3] at e0;have:=h.bd i G i3;omega
def bk (s:AH) (t:Int):Int:=if t<(plc s.length 1).length then 1+3*t else 2+3*(t-(plc s.length 1).length-1)
theorem aDn {t:Int} (h0:0<=t) (h:t<(blw s V).length) (fd:t≠(plc s.length 1).length):(0<=bk s t/\bk s t<s.length)/\bk s t%3≠0/\tF s (bk s t).toNat=t.toNat:=by
 have l1:=jV s.length 1;rw[uS] at h;unfold bk;by_cases c:t<(plc s.length 1).length
 ·rw [df c];refine⟨G,G,?_⟩;unfold tF;rw[df G];omega
 ·rw [bz c];refine⟨G,G,?_⟩;unfold tF;rw[bz G];omega
def ofB (s sb:AH):AH:=(sb.filter λt:Int=>decide (t≠(plc s.length 1).length)).map (bk s)
theorem aAs {sb:AH} {t:Int} (h:t=(plc s.length 1).length):ofB s (sb++[t])=ofB s sb:=by
 unfold ofB;rw[ui,ll (by simpa using h)];simp
theorem aAt {sb:AH} {t:Int} (h:t≠(plc s.length 1).length):ofB s (sb++[t])=ofB s sb++[bk s t]:=by
 unfold ofB;rw[ui,qa (by simpa using h),jo];rfl
theorem bCr (sb:AH):(ofB s sb).length<=sb.length:=by
 unfold ofB;rw[cu];exact zt _ _
variable {sb:AH}
theorem CP (hb:sb.Perm (iota (blw s V).length)) {t:Int} (ht:t∈sb.filter λt:Int=>decide (t≠(plc s.length 1).length)):(0<=t/\t<(blw s V).length)/\t≠(plc s.length 1).length:=by
 rw[ol] at ht;exact⟨aZ.1 (hb.subset ht.1),by simpa using ht.2⟩
theorem aVc (hb:sb.Perm (iota (blw s V).length)):(ofB s sb).Perm (smp s.length):=by
 have hd:(sb.filter λt:Int=>decide (t≠(plc s.length 1).length)).Nodup:=(hb.symm.nodup (eH _)).sublist ul;refine aAj ?_ (qB _) λx=>⟨λhx=> ?_,λhx=> ?_⟩
 ·unfold ofB;refine iw.2 (hd.imp_of_mem λ{x y} hx hy fd e=> ?_);obtain⟨⟨x0,x1⟩,xn⟩:=CP hb hx;obtain⟨⟨y0,y1⟩,yn⟩:=CP hb hy;have a:=(aDn x0 x1 xn).2.2;have b:=(aDn y0 y1 yn).2.2;rw[e,b] at a;omega
 ·obtain ⟨t,ht,rfl⟩:=iy.1 hx;obtain⟨⟨x0,x1⟩,xn⟩:=CP hb ht;have:=aDn x0 x1 xn;exact lS.2 ⟨this.1.1,this.1.2,this.2.1⟩
 ·obtain ⟨x0,x1,x3⟩:=lS.1 hx;have l1:=jV s.length 1;refine iy.2 ⟨tF s x.toNat,ol.2 ⟨hb.symm.subset (aZ.2 ⟨G,?_⟩),?_⟩,?_⟩
  ·rw [uS];unfold tF;split<;>omega
  ·rw [iv,l1];unfold tF;split<;>omega
  ·unfold bk tF;rw[l1];by_cases c:x.toNat%3=1
   ·rw[df c,df G];omega
   ·rw[bz c,bz G];omega
theorem aFx (h:RkF s V n) (hn:0<=n) (hb:sb.Perm (iota (blw s V).length)) (hs:sb.Pairwise (bU (blw s V))):(ofB s sb).Pairwise (bU s):=by
 unfold ofB;refine iw.2 ((hs.filter _).imp_of_mem λ{x y} hx hy ho=> ?_);obtain⟨⟨x0,x1⟩,xn⟩:=CP hb hx;obtain⟨⟨y0,y1⟩,yn⟩:=CP hb hy;obtain⟨a1,a2,a3⟩:=aDn x0 x1 xn;obtain⟨b1,b2,b3⟩:=aDn y0 y1 yn;rw[nY] at ho ⊢;obtain⟨k,h1,h2⟩:=ho;rw[<-a3,<-b3] at h2;refine bEs h hn k _ _ G G G G ?_ (λd hd=>by rw[a3,b3];exact h1 d hd) h2;intro e;rw[e] at h2;omega
structure RkN (s o V:AH) (q:Int):Prop where
 len:V.length=s.length+3
 rk: ∀p,0<=p->p<q->rd V (rd o p)=p+1
 out: ∀j:Int,0<=j->j<s.length+3->(j%3=0\/s.length<=j)->rd V j=0
theorem RkF.zero (h:RkF s V n) (o:AH):RkN s o V 0:=⟨h.len,λp h1 h2=>G,h.out⟩
theorem RkN.step (h:RkN s o V q) (hp:o.Perm (smp s.length)) (q0:0<=q) (hq:q<o.length):RkN s o (upd V (rd o q) (q+1)) (q+1):=by
 have cj: ∀p:Int,0<=p->p<o.length->rd o p∈smp s.length:=λp p0 p1=>hp.subset (bJ p0 p1);have hnd:o.Nodup:=hp.symm.nodup (qB _);have iq:=lS.1 (cj q q0 hq);have hl:=h.len;refine⟨by rw[aY];exact hl,λp p0 p1=> ?_,λj j0 j1 hj=> ?_⟩
 ·rcases bn p q with a|a
  ·have ip:=lS.1 (cj p p0 G);rw[fO iq.1 ip.1 λe=>by have:=jT hnd q0 hq p0 G e;omega];exact h.rk p p0 a
  ·rw[show p=q by omega,eT iq.1 G]
 ·rw [fO iq.1 j0 G];exact h.out j j0 j1 hj
theorem RkN.done (h:RkN s o V o.length) (hp:o.Perm (smp s.length)) (hs:o.Pairwise (bU s)):RkO s o V:=⟨hp,hs,h.len,h.rk,h.out⟩
def aMt (s:AH) (a:Int):Prop:=0<=a/\(a<s.length/\a%3≠0\/a=s.length)
theorem RkO.at_ (h:RkO s o V) {a:Int} (ha:aMt s a) (hl:a<s.length): ∃p:Int,(0<=p/\p<o.length)/\rd o p=a/\rd V a=p+1:=by
 obtain⟨p,p0,p1,e⟩:=aGo (h.perm.symm.subset (lS.2 ⟨ha.1,hl,ha.2.elim (·.2) λh=>G⟩));exact⟨p,⟨p0,p1⟩,e,by rw[<-e];exact h.rk p p0 p1⟩
theorem RkO.end_ (h:RkO s o V):rd V (s.length:Int)=0:=h.out _ G G (.inr G)
theorem RkO.bd (h:RkO s o V) {a:Int} (ha:aMt s a):0<=rd V a/\rd V a<=o.length:=by
 rcases bn a s.length with c|c
 ·obtain ⟨p,hp,_,e⟩:=h.at_ ha c;omega
 ·have e:a=s.length:=ha.2.elim (λh=>G) id;rw[e,h.end_];omega
theorem RkO.cmp (h:RkO s o V) {a b:Int} (ha:aMt s a) (hb:aMt s b) (fd:a≠b):rd V a<rd V b↔LtO (eu s a.toNat) (eu s b.toNat):=by
 rcases bn a s.length with ca|ca
 ·obtain ⟨p,hp,ep,vp⟩:=h.at_ ha ca;rcases bn b s.length with cb|cb
  ·obtain ⟨r,hr,er,vr⟩:=h.at_ hb cb;rw[vp,vr];constructor
   ·intro bc;have:=eX h.sorted hp.1 (show p<r by omega) hr.2;rw[ep,er] at this;exact nY.1 this
   ·intro bc;rcases jd p r with c|c|c
    ·omega
    ·subst c;exact absurd (ep.symm.trans er) fd
    ·have:=eX h.sorted hr.1 c hp.2;rw[ep,er] at this;exact absurd bc (aOp (nY.1 this))
  ·have e:b=s.length:=hb.2.elim (λh=>G) id;rw[e,h.end_,vp];refine⟨λh=>G,λ⟨k,_,h2⟩=> ?_⟩;rw[jH (s:=s) (i:=(s.length:Int).toNat) G] at h2;have:=aXb s a.toNat k;omega
 ·have e:a=s.length:=ha.2.elim (λh=>G) id;rw[e,h.end_];have cb:b<s.length:=hb.2.elim (·.1) λh=>G
  obtain⟨r,hr,er,vr⟩:=h.at_ hb cb;rw[vr];refine⟨λ_=>⟨0,λi hi=>G,?_⟩,λ_=>G⟩;rw[jH G];exact sF (by have:=hb.1;omega)
def bhd (s V:AH):AH:=(List.range s.length).map λi:Nat=>rd V ((i:Int)+1)
theorem aLu (s V:AH):(bhd s V).length=s.length:=by simp[bhd]
theorem aFm {i:Int} (h0:0<=i) (h:i<s.length):rd (bhd s V) i=rd V (i+1):=by
 unfold bhd;rw[gY h0 G];congr 1;omega
theorem RkO.all_bd (h:RkO s o V) {j:Int} (j0:0<=j) (hj:j<=s.length):0<=rd V j/\rd V j<=s.length:=by
 have ho:o.length<=s.length:=by rw[h.perm.length_eq,BM];omega
 by_cases c:j%3=0
 ·rw[h.out j j0 G (.inl c)];omega
 ·have:=h.bd (a:=j) ⟨j0,G⟩;omega
theorem aZp (h:RkO s o V): ∀x∈bhd s V,0<=x/\x<(s.length:Int)+1:=by
 intro x hx;obtain⟨i,hi,rfl⟩:=iy.1 hx;have:=jq.1 hi;have:=h.all_bd (j:=(i:Int)+1) G G;omega
def oth (s V:AH) (k:Int):AH:=dC (dC (plc s.length 0) (bhd s V) ((s.length:Int)+1).toNat) (gF s 0) (k+1).toNat
theorem aUr (h:RkO s o V):(dC (plc s.length 0) (bhd s V) ((s.length:Int)+1).toNat).Perm (plc s.length 0):=
 nW λi hi=>by
  rw[kG G] at hi;have:=aZp h _ (bJ (L:=bhd s V) hi.1 (by rw[aLu];exact hi.2.1));omega
theorem MM (h:RkO s o V) {k:Int} (hs: ∀x∈s,0<=x/\x<k) (hk:0<=k):(oth s V k).Perm (plc s.length 0):=
 (qC hs hk G λx hx=>by have:=(aUr h).subset hx;rw[kG G] at this;omega).trans (aUr h)
theorem aFt (h:RkO s o V) {k:Int} (hs: ∀x∈s,0<=x/\x<k) (hk:0<=k):(oth s V k).Pairwise (bU s):=by
 have h3:=iB (keys:=gF s 0) (iB (keys:=bhd s V) (xV s.length 0) ((s.length:Int)+1).toNat) (k+1).toNat;refine oq (λ{x y} hx hy g=> ?_) h3;have mx:=(MM h hs hk).subset hx;have my:=(MM h hs hk).subset hy;rw[kG G] at mx my;have nn:Nn s:=λx hx=>(hs x hx).1
 have e: ∀ {z:Int},0<=z->z<s.length->rd (gF s 0) z=eu s z.toNat 0:=λ{z} h0 h1=>by
  rw[BZ h0 h1,uQ nn];congr 1;omega
 rw[e mx.1 mx.2.1,e my.1 my.2.1,aFm mx.1 mx.2.1,aFm my.1 my.2.1] at g;have sx:aMt s (x+1):=⟨G,G⟩;have sy:aMt s (y+1):=⟨G,G⟩;rw[nY];rcases g with g|⟨g1,g2|⟨g2,g3⟩⟩
 ·exact⟨0,λi hi=>G,g⟩
 ·have:=(h.cmp sx sy λe=>by rw[e] at g2;omega).1 g2;refine(ND (m:=1) λi hi=> ?_).1 ?_
  ·rw[show i=0 by omega];exact g1
  ·rw [show x.toNat+1=(x+1).toNat by omega,show y.toNat+1=(y+1).toNat by omega];exact this
 ·exfalso;have Qs:x≠y:=g3;have t:=h.cmp sx sy G;have t':=h.cmp sy sx G;rcases tri s.length (eu s (x+1).toNat) (eu s (y+1).toNat) with a|a|a
  ·have:=t.2 (zQ a);omega
  ·have a0:EqH s.length (eu s x.toNat) (eu s y.toNat):=λi hi=>by
    cases i with
    |zero=>exact g1
    |succ i=>
     have:=a i G;rw[show(x+1).toNat=x.toNat+1 by omega,show(y+1).toNat=y.toNat+1 by omega,wY,wY,wu] at this;exact this
   have:=aGx G G a0;omega
  ·have:=t'.2 (zQ a);omega
theorem aVr (nn:Nn s) {i j:Int} (i0:0<=i) (j0:0<=j) {c:Nat} (e:EqH c (eu s i.toNat) (eu s j.toNat)) (fd:iR s (i+c)≠iR s (j+c)):iR s (i+c)<iR s (j+c)↔bU s i j:=by
 have k1:iR s (i+c)=eu s i.toNat c:=by rw[uQ nn];congr 1;omega
 have k2:iR s (j+c)=eu s j.toNat c:=by rw[uQ nn];congr 1;omega
 rw[k1,k2] at fd ⊢;rw[nY];refine⟨λh=>⟨c,e,h⟩,λ⟨k,h1,h2⟩=> ?_⟩;rcases vo k c with a|a|a
 ·have:=e k a;omega
 ·rw[<-a];exact h2
 ·exact absurd (h1 c a) fd
theorem bDl (nn:Nn s) {i j:Int} (i0:0<=i) (j0:0<=j) {c:Nat} (e:EqH c (eu s i.toNat) (eu s j.toNat)) (h:iR s (i+c)=iR s (j+c)):EqH (c+1) (eu s i.toNat) (eu s j.toNat):=λd hd=>by
 rcases fo d c with a|a
 ·exact e d a
 ·have k1:iR s (i+c)=eu s i.toNat c:=by rw[uQ nn];congr 1;omega
  have k2:iR s (j+c)=eu s j.toNat c:=by rw[uQ nn];congr 1;omega
  rw[show d=c by omega,<-k1,<-k2,h]
theorem aOs (h:RkO s o V) {i j:Int} (hi:0<=i/\i<s.length) (hj:0<=j/\j<s.length) (oa:i≠j) {c:Nat} (e:EqH c (eu s i.toNat) (eu s j.toNat)) (i3:(i+c)%3≠0) (j3:(j+c)%3≠0):
  (i+c<=s.length/\j+c<=s.length)/\(rd V (i+c)<rd V (j+c)↔bU s i j):=by
 have r1:=uR (s:=s) (i:=i.toNat) (j:=j.toNat) G G G e;have r2:=uR (s:=s) (i:=j.toNat) (j:=i.toNat) G G G e.symm;refine⟨G,?_⟩;rw[h.cmp ⟨G,G⟩ ⟨G,G⟩ G,nY,<-ND e,show(i+c).toNat=i.toNat+c by omega,show(j+c).toNat=j.toNat+c by omega]
structure MgI (s o t acc:AH) (a q:Int):Prop where
 perm:acc.Perm (o.take a.toNat++t.take q.toNat)
 sorted:acc.Pairwise (bU s)
 ahead: ∀x∈acc,∀y,y∈o.drop a.toNat\/y∈t.drop q.toNat->bU s x y
variable {t acc:AH} {a:Int}
theorem aVj:MgI s o t [] 0 0:=⟨.refl _, .nil,λx hx=>by cases hx⟩
theorem MgI.len (h:MgI s o t acc a q) (a0:0<=a) (ha:a<=o.length) (q0:0<=q) (hq:q<=t.length):(acc.length:Int)=a+q:=by
 rw[h.perm.length_eq,ah,ax,ax];omega
theorem aJi {r:Int->Int->Prop} {l:AH} {x:Int} (h:l.Pairwise r) (hx: ∀y∈l,r y x):(l++[x]).Pairwise r:=by
 rw[kz];exact⟨h,qb _ _,λy hy z hz=>by rw[ib.1 hz];exact hx y hy⟩
theorem MgI.left (h:MgI s o t acc a q) (ho:o.Pairwise (bU s)) (ht:t.Pairwise (bU s)) (a0:0<=a) (ha:a<o.length) (q0:0<=q) (hq:q<t.length) (hl:bU s (rd o a) (rd t q)):MgI s o t (acc++[rd o a]) (a+1) q:=by
 have eo:=gT (s:=o) a0 ha;have et:=gT (s:=t) q0 hq;refine⟨?_,aJi h.sorted λy hy=>h.ahead y hy _ (.inl (by rw[eo];simp)),λx hx y hy=> ?_⟩
 ·rw [dH a0 ha];refine(h.perm.append_right _).trans ?_;rw[gy,gy];exact Bg _ yg
 ·rcases gp.1 hx with hx|hx
  ·exact h.ahead x hx y (hy.imp_left λhy=>by rw[eo];exact fe _ hy)
  ·rw [ib.1 hx];have so:(o.drop a.toNat).Pairwise (bU s):=ho.sublist (zz _ _);have st:(t.drop q.toNat).Pairwise (bU s):=ht.sublist (zz _ _);rw[eo,jb] at so;rw[et,jb] at st;rcases hy with hy|hy
   ·exact so.1 y hy
   ·rw [et] at hy;rcases jm.1 hy with rfl|hy
    ·exact hl
    ·exact zP _ _ _ hl (st.1 y hy)
theorem MgI.right (h:MgI s o t acc a q) (ho:o.Pairwise (bU s)) (ht:t.Pairwise (bU s)) (a0:0<=a) (q0:0<=q) (hq:q<t.length) (hl:a<o.length->bU s (rd t q) (rd o a)):MgI s o t (acc++[rd t q]) a (q+1):=by
 have et:=gT (s:=t) q0 hq;refine⟨?_,aJi h.sorted λy hy=>h.ahead y hy _ (.inr (by rw[et];simp)),λx hx y hy=> ?_⟩
 ·rw [dH q0 hq,<-gy];exact h.perm.append_right _
 ·rcases gp.1 hx with hx|hx
  ·exact h.ahead x hx y (hy.imp_right λhy=>by rw[et];exact fe _ hy)
  ·rw [ib.1 hx];have st:(t.drop q.toNat).Pairwise (bU s):=ht.sublist (zz _ _);rw[et,jb] at st;rcases hy with hy|hy
   ·rcases bn a o.length with c|c
    ·have eo:=gT (s:=o) a0 c;have so:(o.drop a.toNat).Pairwise (bU s):=ho.sublist (zz _ _);rw[eo,jb] at so;rw[eo] at hy;rcases jm.1 hy with rfl|hy
     ·exact hl c
     ·exact zP _ _ _ (hl c) (so.1 y hy)
    ·rw [ou G] at hy;cases hy
   ·exact st.1 y hy
theorem MgI.done (h:MgI s o t acc a q) (ho:o.Pairwise (bU s)) (hq:(t.length:Int)<=q) (hp:o.Perm (smp s.length)) (tp:t.Perm (plc s.length 0)):(acc++o.drop a.toNat).Perm (iota s.length)/\(acc++o.drop a.toNat).Pairwise (bU s):=by
 refine⟨?_,?_⟩
 ·have h1:=h.perm;rw[bg (l:=t) G] at h1;refine((h1.append_right _).trans ?_).trans (((hp.append_right _).trans (tp.append_left _)).trans (bBc _));refine(yg.append_right _).trans ?_;rw[gy,gu];exact yg
 ·rw [kz];exact⟨h.sorted,ho.sublist (zz _ _),λx hx y hy=>h.ahead x hx y (.inl hy)⟩
end
def thr (s:AH) (m:Int):AH:=(List.range (m+1).toNat).map λc:Nat=>if (c:Int)∈s then 1 else 0
theorem kE (s:AH) (m:Int):(thr s m).length=(m+1).toNat:=by simp[thr]
theorem LQ {s:AH} {m c:Int} (h0:0<=c) (h:c<=m):rd (thr s m) c=if c∈s then 1 else 0:=by
 unfold thr;rw[gY h0 G,show((c.toNat:Nat):Int)=c by omega]
theorem bAt (m:Int):thr [] m=List.replicate (m+1).toNat 0:=by
 refine bM (by rw[kE,bu]) λj h0 h1=> ?_;rw[kE] at h1;rw[LQ h0 G,pV];rfl
theorem aSg {s:AH} {m x:Int} (h0:0<=x) (h:x<=m):upd (thr s m) x 1=thr (s++[x]) m:=by
 refine bM (by rw[aY,kE,kE]) λj j0 j1=> ?_;rw[aY,kE] at j1;rw[gG h0 j0 (by rw[kE];omega),LQ j0 G,LQ j0 G];by_cases e:j=x
 ·rw[df e,df (by rw[e];simp)]
 ·rw [bz e];by_cases c:j∈s
  ·rw[df c,df (Bo _ c)]
  ·rw[bz c,bz (by rw[gp,ib];exact λh=>h.elim c e)]
theorem aSh (s:AH) (m:Int): ∀x∈thr s m,0<=x:=by
 intro x hx;obtain⟨c,_,rfl⟩:=iy.1 hx;split<;>omega
theorem aUh {s:AH} {m:Int}: ∀x:Nat,(x:Int)<=m+1->ps (thr s m) x=((List.range x).filter λc:Nat=>decide ((c:Int)∈s)).length
 |0,_=>rfl
 | x+1,h=>by
  rw[show((x+1:Nat):Int)=(x:Int)+1 by omega,lN G (by rw[kE];omega),aUh x G,LQ G G,zw,ui,ah];by_cases c:(x:Int)∈s
  ·rw [df c,qa (by simpa using c)];simp
  ·rw [bz c,ll (by simpa using c)];simp
theorem bCe {L:AH} (h: ∀x∈L,0<=x) {a b:Int} (h0:0<=a) (wc:a<=b) (hb:b<=L.length):ps L a<=ps L b:=by
 obtain⟨d,rfl⟩: ∃d:Nat,b=a+d:=⟨(b-a).toNat,G⟩
 induction d with
 |zero=>simp
 |succ d ih=>
  have:=ih G G;rw[show a+((d+1:Nat):Int)=a+(d:Int)+1 by omega,lN G G];have:=h _ (bJ (L:=L) (k:=a+d) G G);omega
theorem aJg {s:AH} {m x y:Int} (hx:x∈s) (x0:0<=x) (Qs:x<y) (hy:y<=m):ps (thr s m) x<ps (thr s m) y:=by
 have h1:=lN (L:=thr s m) (k:=x) x0 (by rw[kE];omega);rw[LQ x0 G,df hx] at h1;have h2:=bCe (aSh s m) (a:=x+1) (b:=y) G G (by rw[kE];omega);omega
theorem bLf {s:AH} {m x:Int} (hx:x∈s) (x0:0<=x) (hm:x<=m):0<=ps (thr s m) x/\ps (thr s m) x<s.length:=by
 have e:ps (thr s m) x=((List.range x.toNat).filter λc:Nat=>decide ((c:Int)∈s)).length:=by
  have:=aUh (s:=s) (m:=m) x.toNat G;rwa[show((x.toNat:Nat):Int)=x by omega] at this
 rw[e];have hl:=oH (l:=(((List.range x.toNat).filter λc:Nat=>decide ((c:Int)∈s)).map λc:Nat=>(c:Int))++[x]) (m:=s) ?_ ?_
 ·rw [ah,cu,gq] at hl;omega
 ·refine xz.2 ⟨iw.2 ((xh.sublist ul).imp λ{x y} h hh=>h G),qb _ _,λa ha b hb e=> ?_⟩;obtain⟨c,hc,rfl⟩:=iy.1 ha;have:=jq.1 (ol.1 hc).1;rw[ib] at hb;omega
 ·intro z hz;rcases gp.1 hz with hz|hz
  ·obtain ⟨c,hc,rfl⟩:=iy.1 hz;simpa using (ol.1 hc).2
  ·rw[ib.1 hz];exact hx
def sqz (s:AH) (m:Int):AH:=s.map λx=>ps (thr s m) x
theorem JI (s:AH) (m:Int):(sqz s m).length=s.length:=by simp[sqz]
theorem bHp {s:AH} {m:Int} (hs: ∀x∈s,0<=x/\x<=m): ∀x∈sqz s m,0<=x/\x<s.length:=by
 intro y hy;obtain⟨x,hx,rfl⟩:=iy.1 hy;exact bLf hx (hs x hx).1 (hs x hx).2
theorem OI {P:Int->Prop} {f:Int->Int} (hf: ∀x y:Int,P x->P y->(x<y↔f x<f y)): ∀a b:AH,(∀x∈a,P x)->(∀x∈b,P x)->cmpL (a.map f) (b.map f)=cmpL a b
 |[],[],_,_=>rfl
 |[],b::v,_,_=>rfl
 |a::u,[],_,_=>rfl
 |a::u,b::v,ha,hb=>by
  have pa:=ha a cD;have pb:=hb b cD;simp only[lm,cmpL,<-hf a b pa pb,<-hf b a pb pa];rw[OI hf u v (λx hx=>ha x (fe _ hx)) λx hx=>hb x (fe _ hx)]
theorem bAy {s:AH} {m:Int} (hs: ∀x∈s,0<=x/\x<=m) {x y:Int}:bU (sqz s m) x y↔bU s x y:=by
 rw[<-gM,<-gM];unfold sqz;rw[<-Hu,<-Hu,OI (P:=λx=>x∈s) (λx y hx hy=>⟨λh=>aJg hx (hs x hx).1 h (hs y hy).2,λh=> ?_⟩) _ _ (λx hx=>pq hx) λx hx=>pq hx];refine Int.not_le.1 λc=> ?_;rcases bn y x with d|d
 ·have:=aJg hy (hs y hy).1 d (hs x hx).2;omega
 ·rw [show x=y by omega] at h;omega
theorem aMp {s b:AH} {m:Int} (hs: ∀x∈s,0<=x/\x<=m) (hp:b.Perm (iota (sqz s m).length)) (ho:b.Pairwise (bU (sqz s m))):b.Perm (iota s.length)/\b.Pairwise (bU s):=by
 rw[JI] at hp;exact⟨hp,ho.imp λh=>(bAy hs).1 h⟩
def bHk (s:AH) (k:Int):Nat->AH
 |0=>smp s.length
 |j+1=>dC (bHk s k j) (gF s (2-(j:Int))) (k+1).toNat
theorem ER {s:AH} {k:Int} (hs: ∀x∈s,0<=x/\x<k) (hk:0<=k): ∀j:Nat,j<=3->(bHk s k j).Perm (smp s.length)
 |0,_=> .refl _
 |j+1,h=>(qC hs hk G λx hx=>nT ((ER hs hk j G).subset hx)).trans (ER hs hk j G)
def QJ (s:AH) (i j:Int):Prop:=iR s (i+0)=iR s (j+0)/\iR s (i+1)=iR s (j+1)/\iR s (i+2)=iR s (j+2)
instance (s:AH) (i j:Int):Decidable (QJ s i j):=by unfold QJ;exact inferInstance
theorem aDv {s:AH} (nn:Nn s) {i j:Int} (i0:0<=i) (j0:0<=j):QJ s i j↔EqH 3 (eu s i.toNat) (eu s j.toNat):=by
 have e: ∀(z:Int) (b:Nat),0<=z->iR s (z+b)=eu s z.toNat b:=λz b hz=>by rw[uQ nn];congr 1;omega
 have a0:iR s (i+0)=eu s i.toNat 0:=e i 0 i0;have a1:iR s (i+1)=eu s i.toNat 1:=e i 1 i0;have a2:iR s (i+2)=eu s i.toNat 2:=e i 2 i0;have b0:iR s (j+0)=eu s j.toNat 0:=e j 0 j0;have b1:iR s (j+1)=eu s j.toNat 1:=e j 1 j0;have b2:iR s (j+2)=eu s j.toNat 2:=e j 2 j0;unfold QJ;rw[a0,a1,a2,b0,b1,b2];constructor
 ·rintro ⟨h0,h1,h2⟩ d hd
  match d,hd with
  |0,_=>exact h0
  |1,_=>exact h1
  |2,_=>exact h2
 ·intro h;exact⟨h 0 G,h 1 G,h 2 G⟩
theorem bEx {s:AH} {i j:Int} (h: ∀c:Int,0<=c->c<3->iR s (i+c)=iR s (j+c)):QJ s i j:=⟨h 0 G G,h 1 G G,h 2 G G⟩
theorem aZy {s:AH} {i j c:Int} (c0:0<=c) (c3:c<3) (h:iR s (i+c)≠iR s (j+c)): ¬QJ s i j:=by
 rintro⟨h0,h1,h2⟩;rcases(by omega:c=0\/c=1\/c=2) with rfl|rfl|rfl
 ·exact h h0
 ·exact h h1
 ·exact h h2
section
variable {s o V:AH} {q n:Int}
theorem bIo (nn:Nn s) (hp:o.Perm (smp s.length)) (hs:o.Pairwise λx y=> ¬LtH 3 (eu s y.toNat) (eu s x.toNat)) (q0:0<=q) (hq:q<o.length) (h:q=0\/ ¬QJ s (rd o (q-1)) (rd o q)):
  q=0\/LtH 3 (eu s (rd o (q-1)).toNat) (eu s (rd o q).toNat):=by
 rcases bn 0 q with c|c
 ·rcases h with h|h
  ·exact .inl h
  ·have cj: ∀p:Int,0<=p->p<o.length->0<=rd o p:=λp a b=>(nT (hp.subset (bJ a b))).1;rw[aDv nn (cj (q-1) G G) (cj q q0 hq)] at h;have g:=eX hs (i:=q-1) (j:=q) G G hq;rcases tri 3 (eu s (rd o (q-1)).toNat) (eu s (rd o q).toNat) with a|a|a
   ·exact .inr a
   ·exact absurd a h
   ·exact absurd a g
 ·exact .inl G
theorem bIm (nn:Nn s) (hp:o.Perm (smp s.length)) (q0:0<=q) (hq:q<o.length) (h: ¬(q=0\/ ¬QJ s (rd o (q-1)) (rd o q))):0<q/\EqH 3 (eu s (rd o (q-1)).toNat) (eu s (rd o q).toNat):=by
 have c:0<q:=G
 have cj: ∀p:Int,0<=p->p<o.length->0<=rd o p:=λp a b=>(nT (hp.subset (bJ a b))).1;refine⟨c,(aDv nn (cj (q-1) G G) (cj q q0 hq)).1 (vk.1 λg=>h (.inr g))⟩
theorem RkI.short (h:RkI s o V o.length n) (hp:o.Perm (smp s.length)) (h2:2<=s.length) (h3:s.length<=3):n=o.length:=by
 have hl:o.length=(s.length+1)/3+s.length/3:=by rw[hp.length_eq,BM]
 have cj: ∀p:Int,0<=p->p<o.length->(0<=rd o p/\rd o p<s.length/\rd o p%3≠0):=λp a b=>lS.1 (hp.subset (bJ a b));have hnq:=h.nq;have b0:=h.bd 0 G G;rcases(by omega:o.length=1\/o.length=2) with e|e
 ·omega
 ·have b1:=h.bd 1 G G;have i0:=cj 0 G G;have i1:=cj 1 G G;rcases h.lt 0 1 G G G with⟨a,_⟩|⟨_,a⟩
  ·exfalso;have fd:rd o 0≠rd o 1:=λg=>by have:=jT (hp.symm.nodup (qB _)) (i:=0) (j:=1) G G G G g;omega
   have:=uR (s:=s) (i:=(rd o 0).toNat) (j:=(rd o 1).toNat) G G G a;omega
  ·omega
theorem bJu {t:Int} (h0:0<=t) (h:t<(plc s.length 1).length):rd (plc s.length 1) t=bk s t:=by
 unfold bk;rw[df h,VK h0 h];rfl
theorem bJt {t:Int} (h:(plc s.length 1).length<t) (ht:t-1<(smp s.length).length):rd (smp s.length) (t-1)=bk s t:=by
 unfold bk;rw[bz G];unfold smp at ht ⊢;rw[ah] at ht;rw[gL G,VK G G];omega
theorem aOb (h:s.length<2):plc s.length 0=iota s.length:=by
 rcases(by omega:s.length=0\/s.length=1) with e|e<;>rw[e]<;>rfl
theorem bIa (h:s.length<2):(iota s.length).Pairwise (bU s):=by
 rcases(by omega:s.length=0\/s.length=1) with e|e
 ·rw[e];exact .nil
 ·rw[e];exact qb _ _
theorem bJx {W:AH} (hl:W.length=s.length) (h: ∀j:Int,0<=j->j<s.length->rd W j=rd V (j+1)):W=bhd s V:=
 bM (hl.trans (aLu s V).symm) λj h0 h1=>by rw[aFm h0 G];exact h j h0 G
theorem aWa {W:AH} {b:Int} (hl:W.length=s.length) (h: ∀j:Int,0<=j->j<s.length->rd W j=iR s (j+b)):W=gF s b:=
 bM (hl.trans (FV s b).symm) λj h0 h1=>by rw[BZ h0 G];exact h j h0 G
end
theorem KV: ∀ {L:AH},(∀x∈L,x<=1)->L.sum<=L.length
 |[],_=>cD
 |a::L,h=>by
  have:=KV (L:=L) λx hx=>h x (fe _ hx);have:=h a cD;rw[ym,dh];omega
theorem bAs (s:AH) (m:Int):(thr s m).sum<=(m+1).toNat:=by
 rw[<-kE s m];refine KV λx hx=> ?_;obtain⟨c,_,rfl⟩:=iy.1 hx;split<;>omega
theorem bHo {s W:AH} {m:Int} (hs: ∀x∈s,0<=x/\x<=m) (hl:W.length=s.length) (h: ∀j:Int,0<=j->j<s.length->rd W j=rd (dF (thr s m)) (rd s j)):W=sqz s m:=
 bM (hl.trans (JI s m).symm) λj h0 h1=>by
  have hm:=hs _ (bJ (L:=s) h0 G);unfold sqz;rw[vZ h0 G,h j h0 G,nU hm.1 (by rw[kE];omega)]
def wZ (s:AH) (i j:Nat) (d:Nat):Prop:=(i+d<s.length/\j+d<s.length)/\lt s (i+d)=lt s (j+d)
instance (s:AH) (i j d:Nat):Decidable (wZ s i j d):=by unfold wZ;exact inferInstance
def aDc (s:AH):Nat->Nat->Nat->Nat
 |0,_,_=>0
 |f+1,i,j=>if wZ s i j 0 then aDc s f (i+1) (j+1)+1 else 0
def com (s:AH) (i j:Int):Nat:=aDc s s.length i.toNat j.toNat
theorem DV {s:AH} {i j m d:Nat}:wZ s (i+m) (j+m) d↔wZ s i j (m+d):=by
 unfold wZ;rw[nk,nk]
theorem aDb {s:AH}: ∀(f i j:Nat),∀d,d<aDc s f i j->wZ s i j d
 |0,i,j,d,h=>by simp[aDc] at h
 | f+1,i,j,d,h=>by
  unfold aDc at h;split at h
  ·rename_i c;cases d with
   |zero=>exact c
   |succ d=>
    have:=aDb (s:=s) f (i+1) (j+1) d G;rwa[DV,wu] at this
  ·omega
theorem aDa {s:AH}: ∀(f i j:Nat),s.length<=i+f-> ¬wZ s i j (aDc s f i j)
 |0,i,j,h=>by
  unfold aDc wZ;omega
 | f+1,i,j,h=>by
  unfold aDc;by_cases c:wZ s i j 0
  ·rw [df c];have:=aDa (s:=s) f (i+1) (j+1) G;rwa[DV,wu] at this
  ·rw[bz c];exact c
theorem JW {s:AH} {i j:Int}: ∀d,d<com s i j->wZ s i.toNat j.toNat d:=aDb _ _ _
theorem WV {s:AH} {i j:Int}: ¬wZ s i.toNat j.toNat (com s i j):=aDa _ _ _ G
theorem aYx {s:AH} {i j:Int} {n:Nat} (h: ∀d,d<n->wZ s i.toNat j.toNat d) (he: ¬wZ s i.toNat j.toNat n):com s i j=n:=by
 rcases vo (com s i j) n with a|a|a
 ·exact absurd (h _ a) WV
 ·exact a
 ·exact absurd (JW _ a) he
theorem aHj {s:AH} {i j:Int} {n:Nat}:n<=com s i j↔ ∀d,d<n->wZ s i.toNat j.toNat d:=by
 refine⟨λh d hd=>JW d G,λh=>Ir.1 λc=> ?_⟩;exact WV (h _ c)
theorem bEj {s:AH} {i j:Int} {n:Nat} (i0:0<=i) (j0:0<=j) (h:n<=com s i j):com s (i+n) (j+n)=com s i j-n:=by
 refine aYx (λd hd=> ?_) ?_
 ·rw [show(i+(n:Int)).toNat=i.toNat+n by omega,show(j+(n:Int)).toNat=j.toNat+n by omega,DV];exact JW _ G
 ·rw [show(i+(n:Int)).toNat=i.toNat+n by omega,show(j+(n:Int)).toNat=j.toNat+n by omega,DV,show n+(com s i j-n)=com s i j by omega];exact WV
theorem OA {s:AH} {i j:Int} (i0:0<=i) (hi:i<=s.length) (j0:0<=j) (hj:j<=s.length):i+com s i j<=s.length/\j+com s i j<=s.length:=by
 rcases ed (com s i j) with z|z
 ·omega
 ·have:=(JW (s:=s) (i:=i) (j:=j) (com s i j-1) G).1;omega
theorem aKv {s:AH} {i j n:Int} (i0:0<=i) (j0:0<=j) (n0:0<=n):wZ s i.toNat j.toNat n.toNat↔max i j+n<s.length/\rd s (i+n)=rd s (j+n):=by
 unfold wZ rd lt;rw[show(i+n).toNat=i.toNat+n.toNat by omega,show(j+n).toNat=j.toNat+n.toNat by omega];omega
theorem aYw {s:AH} {i j n:Int} (i0:0<=i) (j0:0<=j) (n0:0<=n) (h:n.toNat<=com s i j) (hc:max i j+n<s.length/\rd s (i+n)=rd s (j+n)):(n+1).toNat<=com s i j:=by
 rw[aHj] at h ⊢;intro d hd;rcases fo d n.toNat with a|a
 ·exact h d a
 ·rw [show d=n.toNat by omega];exact(aKv i0 j0 n0).2 hc
theorem aCz {s:AH} {i j n:Int} (i0:0<=i) (j0:0<=j) (n0:0<=n) (h:n.toNat<=com s i j) (hc: ¬(max i j+n<s.length/\rd s (i+n)=rd s (j+n))):n=com s i j:=by
 have:=aYx (aHj.1 h) λh=>hc ((aKv i0 j0 n0).1 h);omega
theorem aLi {s:AH} {i j:Int} {n:Nat} (hi:0<=i/\i<s.length) (hj:0<=j/\j<s.length) (oa:i≠j):n<=com s i j↔EqH n (eu s i.toNat) (eu s j.toNat):=by
 rw[aHj];constructor
 ·intro h d hd;obtain⟨⟨a,b⟩,c⟩:=h d hd;unfold eu;rw[df a,df b,c]
 ·intro h d hd;have r1:=uR (s:=s) (i:=i.toNat) (j:=j.toNat) G G G h;have r2:=uR (s:=s) (i:=j.toNat) (j:=i.toNat) G G G h.symm;refine⟨⟨G,G⟩,?_⟩;have:=h d hd;unfold eu at this;rw[df G,df G] at this;omega
theorem eq_between {n:Nat} {U V W:Nat->Int} (e:EqH n U W) (h1: ¬LtO V U) (h2: ¬LtO W V):EqH n U V:=by
 rcases tri n U V with a|a|a
 ·exact absurd (zQ (e.symm.ltH a)) h2
 ·exact a
 ·exact absurd (zQ a) h1
structure mD (s a R:AH):Prop where
 perm:a.Perm (iota s.length)
 sorted:a.Pairwise (bU s)
 len:R.length=s.length
 inv: ∀r:Int,0<=r->r<s.length->rd R (rd a r)=r
section
variable {s a R:AH}
theorem mD.alen (h:mD s a R):a.length=s.length:=by rw[h.perm.length_eq,bB]
theorem mD.ain (h:mD s a R) {r:Int} (r0:0<=r) (hr:r<s.length):0<=rd a r/\rd a r<s.length:=aZ.1 (h.perm.subset (bJ r0 (by rw[h.alen];exact hr)))
theorem mD.at_ (h:mD s a R) {i:Int} (i0:0<=i) (hi:i<s.length):(0<=rd R i/\rd R i<s.length)/\rd a (rd R i)=i:=by
 obtain⟨p,p0,p1,e⟩:=aGo (h.perm.symm.subset (aZ.2 ⟨i0,hi⟩));rw[h.alen] at p1;have:=h.inv p p0 p1;rw[e] at this;rw[this];exact⟨⟨p0,p1⟩,e⟩
theorem mD.ord (h:mD s a R) {p q:Int} (p0:0<=p) (Zo:p<q) (hq:q<s.length):bU s (rd a p) (rd a q):=eX h.sorted p0 Zo (by rw[h.alen];exact hq)
theorem mD.rank (h:mD s a R) {i j:Int} (hi:0<=i/\i<s.length) (hj:0<=j/\j<s.length):rd R i<rd R j↔bU s i j:=by
 obtain⟨a1,a2⟩:=h.at_ hi.1 hi.2;obtain⟨b1,b2⟩:=h.at_ hj.1 hj.2;constructor
 ·intro c;have:=h.ord a1.1 c b1.2;rwa[a2,b2] at this
 ·intro c;rcases jd (rd R i) (rd R j) with d|d|d
  ·exact d
  ·rw [d,b2] at a2;rw[a2] at c;exact absurd c (gH _ _ c)
  ·have:=h.ord b1.1 d a1.2;rw[a2,b2] at this;exact absurd c (gH _ _ this)
theorem NE (h:mD s a R) {i:Int} (i0:0<=i) (hi:i+1<s.length) (h1:0<rd R i) (h2:0<rd R (i+1)):
  com s i (rd a (rd R i-1))-1<=com s (i+1) (rd a (rd R (i+1)-1)):=by
 rcases fo 1 (com s i (rd a (rd R i-1))) with c|c
 ·obtain ⟨ra,rb⟩:=h.at_ i0 G;obtain⟨sa,sb⟩:=h.at_ (i:=i+1) G hi;generalize hj:rd a (rd R i-1)=j at c ⊢;generalize hp:rd a (rd R (i+1)-1)=p;have Ur:=h.ain (r:=rd R i-1) G G;have pin:=h.ain (r:=rd R (i+1)-1) G G;rw[hj] at Ur;rw[hp] at pin;have Uw:=h.ord (p:=rd R i-1) (q:=rd R i) G G ra.2;rw[hj,rb] at Uw;have Ux:=h.ord (p:=rd R (i+1)-1) (q:=rd R (i+1)) G G sa.2;rw[hp,sb] at Ux;have wi:j≠i:=λe=>by rw[e] at Uw;exact gH _ _ Uw Uw
  have Qm:p≠i+1:=λe=>by rw[e] at Ux;exact gH _ _ Ux Ux
  have bj:=OA (s:=s) (i:=i) (j:=j) G G G G;have l7:j+1<s.length:=G
  have e:=(aLi (n:=com s i j) ⟨i0,G⟩ Ur (Fx wi)).1 (di _);have e1:EqH 1 (eu s j.toNat) (eu s i.toNat):=(e.mono G).symm
  have o1:LtO (eu s (j+1).toNat) (eu s (i+1).toNat):=by
   rw[show(j+1).toNat=j.toNat+1 by omega,show(i+1).toNat=i.toNat+1 by omega,ND e1];exact nY.1 Uw
  have r1:=(h.rank (i:=j+1) (j:=i+1) ⟨G,l7⟩ ⟨G,hi⟩).2 (nY.2 o1);obtain⟨ta,tb⟩:=h.at_ (i:=j+1) G l7
  have e2:EqH (com s i j-1) (eu s (i+1).toNat) (eu s (j+1).toNat):=λd hd=>by
   have:=e (d+1) G;rw[show(j+1).toNat=j.toNat+1 by omega,show(i+1).toNat=i.toNat+1 by omega,wY,wY,wu 1 d];exact this
  refine(aLi ⟨G,hi⟩ pin (Fx Qm)).2 ?_
  have pv:j+1=p\/bU s (j+1) p:=by
   rcases bn (rd R (j+1)) (rd R (i+1)-1) with d|d
   ·have:=h.ord ta.1 d G;rw[tb,hp] at this;exact .inr this
   ·refine .inl ?_;rw[<-tb,<-hp];congr 1;omega
  rcases pv with rfl|pv
  ·exact e2
  ·refine e2.trans' (eq_between e2.symm (λg=> ?_) λg=> ?_)
   ·exact gH _ _ pv (nY.2 g)
   ·exact gH _ _ Ux (nY.2 g)
 ·omega
def zR (s a:AH):AH:=(List.range a.length).map λr:Nat=>if r=0 then 0 else(com s (rd a r) (rd a ((r:Int)-1)):Int)
theorem CZ (s a:AH):(zR s a).length=a.length:=by simp[zR]
theorem VM {r:Int} (h0:0<=r) (h:r<a.length):rd (zR s a) r=if r=0 then 0 else(com s (rd a r) (rd a (r-1)):Int):=by
 unfold zR;rw[gY h0 G,show((r.toNat:Nat):Int)=r by omega];by_cases c:r=0
 ·rw[df c,df G]
 ·rw[bz c,bz G]
structure QL (s a R V:AH) (i n:Int):Prop where
 len:V.length=s.length
 n0:0<=n
 nl:i<s.length->0<rd R i->n.toNat<=com s i (rd a (rd R i-1))
 val: ∀p:Int,0<=p->p<i->rd V (rd R p)=rd (zR s a) (rd R p)
 zero:0<s.length->rd V 0=0
theorem aOy:QL s a R (List.replicate s.length 0) 0 0:=⟨bu,G,λ_ _=>qp _,λp h1 h2=>G,λ_=>pV⟩
variable {V:AH} {i n:Int}
theorem QL.skip (k:QL s a R V i n) (h:mD s a R) (i0:0<=i) (hi:i<s.length) (hr:rd R i=0):QL s a R V (i+1) 0:=by
 refine⟨k.len,G,λ_ _=>qp _,λp p0 p1=> ?_,k.zero⟩;rcases bn p i with c|c
 ·exact k.val p p0 c
 ·rw [show p=i by omega,hr,VM G (by rw[h.alen];omega),df rfl];exact k.zero G
theorem QL.put (k:QL s a R V i n) (h:mD s a R) (i0:0<=i) (hi:i<s.length) (hr:rd R i≠0) {m:Int} (hm:m=com s i (rd a (rd R i-1))):QL s a R (upd V (rd R i) m) (i+1) (max (m-1) 0):=by
 obtain⟨ra,rb⟩:=h.at_ i0 hi;have hl:=k.len;refine⟨by rw[aY];exact hl,G,λh1 h2=> ?_,λp p0 p1=> ?_,λhs=> ?_⟩
 ·have:=NE h i0 h1 G h2;omega
 ·obtain ⟨pa,pb⟩:=h.at_ p0 (show p<s.length by omega);rcases bn p i with c|c
  ·rw [fO ra.1 pa.1 λe=>by rw[<-e,rb] at pb;omega];exact k.val p p0 c
  ·rw[show p=i by omega,eT ra.1 G,VM ra.1 (by rw[h.alen];exact ra.2),bz hr,rb,hm]
 ·rw [fO ra.1 G hr];exact k.zero hs
theorem QL.done (k:QL s a R V s.length n) (h:mD s a R):V=zR s a:=by
 refine bM (by rw[k.len,CZ,h.alen]) λj j0 j1=> ?_;rw[k.len] at j1;have e:=k.val (rd a j) (h.ain j0 j1).1 (h.ain j0 j1).2;rwa[h.inv j j0 j1] at e
def yQ (s a R:AH):AH:=(List.range s.length).map λi:Nat=>if rd R i=0 then 0 else(com s i (rd a (rd R i-1)):Int)
theorem SH:(yQ s a R).length=s.length:=by simp[yQ]
theorem LU (h0:0<=i) (h:i<s.length):rd (yQ s a R) i=if rd R i=0 then 0 else(com s i (rd a (rd R i-1)):Int):=by
 unfold yQ;rw[gY h0 G,show((i.toNat:Nat):Int)=i by omega]
theorem aUl (h:mD s a R) {r:Int} (r0:0<=r) (hr:r<s.length):rd (yQ s a R) (rd a r)=rd (zR s a) r:=by
 have:=h.ain r0 hr;rw[LU this.1 this.2,h.inv r r0 hr,VM r0 (by rw[h.alen];exact hr)]
theorem mD.next (h:mD s a R) {r:Int} (r0:1<=r) (hr:r<s.length):rd s (rd a (r-1))<rd s (rd a r)\/rd s (rd a (r-1))=rd s (rd a r)/\
  ((rd a (r-1)+1=s.length/\rd a r+1<s.length)\/(rd a (r-1)+1<s.length/\rd a r+1<s.length/\rd R (rd a (r-1)+1)<rd R (rd a r+1))):=by
 have o:=h.ord (p:=r-1) (q:=r) G G hr;have x:=h.ain (r:=r-1) G G;have y:=h.ain (r:=r) G hr;generalize rd a (r-1)=p at o x ⊢;generalize rd a r=q at o y ⊢;rw[nY] at o
 have e0: ∀z:Int,0<=z->z<s.length->eu s z.toNat 0=rd s z-lo s+1:=λz z0 z1=>by
  unfold eu;rw[df G];rfl
 obtain⟨k,h1,h2⟩:=o;cases k with
 |zero=>rw[e0 p x.1 x.2,e0 q y.1 y.2] at h2;exact .inl G
 | succ k=>
  have e:=h1 0 G;rw[e0 p x.1 x.2,e0 q y.1 y.2] at e;refine .inr ⟨G,?_⟩
  have hq:q+1<s.length:=by
   rcases fo (q.toNat+(k+1)) s.length with c|c
   ·omega
   ·rw [jH c] at h2;have:=aXb s p.toNat (k+1);omega
  rcases bn (p+1) s.length with c|c
  ·refine .inr ⟨c,hq,(h.rank ⟨G,c⟩ ⟨G,hq⟩).2 (nY.2 ?_)⟩;rw[show(p+1).toNat=p.toNat+1 by omega,show(q+1).toNat=q.toNat+1 by omega,ND (λd hd=>by rw[show d=0 by omega];exact h1 0 G)];exact⟨k+1,h1,h2⟩
  ·exact .inl ⟨G,hq⟩
end
structure PN (a V:AH) (B:List Bool) (q:Int):Prop where
 len:V.length=a.length
 blen:B.length=a.length
 val: ∀p:Int,0<=p->p<q->rd V (rd a p)=p
 seen: ∀x:Int,0<=x->x<a.length->(rdb B x=true↔ ∃p:Int,0<=p/\p<q/\rd a p=x)
theorem aPd {a:AH}:PN a (List.replicate a.length 0) (List.replicate a.length false) 0:=
 ⟨bu,bu,λp h1 h2=>G,λx _ _=>by rw[BX];exact⟨λh=>(by cases h),λ⟨p,h1,h2,_⟩=>G⟩⟩
theorem PN.fresh {a V:AH} {B:List Bool} {q:Int} (h:PN a V B q) (hp:a.Perm (iota a.length)) (q0:0<=q) (hq:q<a.length):(0<=rd a q/\rd a q<a.length)/\ ¬rdb B (rd a q)=true:=by
 have cj:=aZ.1 (hp.subset (bJ q0 hq));refine⟨cj,λhs=> ?_⟩;obtain⟨p,p0,p1,e⟩:=(h.seen _ cj.1 cj.2).1 hs;have:=jT (hp.symm.nodup (eH _)) p0 G q0 hq e;omega
theorem PN.step {a V:AH} {B:List Bool} {q:Int} (h:PN a V B q) (hp:a.Perm (iota a.length)) (q0:0<=q) (hq:q<a.length):PN a (upd V (rd a q) q) (pU B (rd a q) true) (q+1):=by
 obtain⟨⟨x0,x1⟩,_⟩:=h.fresh hp q0 hq;have hl:=h.len;have hb:=h.blen;have hnd:=hp.symm.nodup (eH a.length);refine⟨by rw[aY];exact hl,by rw[lG];exact hb,λp p0 p1=> ?_,λx h0 h1=> ?_⟩
 ·rcases bn p q with c|c
  ·have cj:=aZ.1 (hp.subset (bJ (L:=a) p0 G));rw[fO x0 cj.1 λe=>by have:=jT hnd q0 hq p0 G e;omega];exact h.val p p0 c
  ·rw[show p=q by omega,eT x0 G]
 ·rw [xS x0 G h0];by_cases c:x=rd a q
  ·rw [df c];exact⟨λ_=>⟨q,q0,G,c.symm⟩,λ_=>rfl⟩
  ·rw [bz c,h.seen x h0 h1];exact⟨λ⟨p,p0,p1,e⟩=>⟨p,p0,G,e⟩,λ⟨p,p0,p1,e⟩=>⟨p,p0,(bn p q).elim id λd=>absurd (by rw[<-e,show p=q by omega]) c,e⟩⟩
theorem PN.done {s a V:AH} {B:List Bool} (h:PN a V B a.length) (hp:a.Perm (iota s.length)) (hs:a.Pairwise (bU s)):mD s a V:=by
 have hl:a.length=s.length:=by rw[hp.length_eq,bB]
 exact⟨hp,hs,by rw[h.len,hl],λr r0 hr=>h.val r r0 G⟩
def bFb (a V:AH):Prop:=V.length=a.length/\ ∀r:Int,0<=r->r<a.length->rd V (rd a r)=r
theorem PN.all {a V:AH} {B:List Bool} (h:PN a V B a.length):bFb a V:=⟨h.len,h.val⟩
theorem bFb.ord {s a V:AH} (h:bFb a V) (hp:a.Perm (iota s.length)) (hs:a.Pairwise (bU s)):mD s a V:=by
 have hl:a.length=s.length:=by rw[hp.length_eq,bB]
 exact⟨hp,hs,by rw[h.1,hl],λr r0 hr=>h.2 r r0 G⟩
theorem xW {s a:AH} (hp:a.Perm (iota s.length)):a.Perm (iota a.length):=by
 have hl:a.length=s.length:=by rw[hp.length_eq,bB]
 rwa[hl]
def bhF (R:AH) (i:Int):Int:=if i+1=R.length then -1 else rd R (i+1)
theorem JY {R:AH} {i:Int} (h0:0<=i) (h:i<R.length):rd (R++[-1]) (i+1)=bhF R i:=by
 unfold bhF;by_cases c:i+1=R.length
 ·rw [df c,gL G,c,Fs];rfl
 ·rw[bz c,jQ G G]
section
variable {s a R:AH}
theorem mD.bh (h:mD s a R) {i:Int} (h0:0<=i) (hi:i<s.length): -1<=bhF R i/\bhF R i<=s.length:=by
 unfold bhF;have hl:=h.len;split
 ·omega
 ·have:=(h.at_ (i:=i+1) G G).1;omega
theorem mD.nofall (h:mD s a R) {r:Int} (r0:1<=r) (hr:r<s.length): ¬(rd s (rd a r)<rd s (rd a (r-1))\/rd s (rd a (r-1))=rd s (rd a r)/\bhF R (rd a r)<bhF R (rd a (r-1))):=by
 have n:=h.next r0 hr;have hl:=h.len;have x:=h.ain (r:=r-1) G G;have y:=h.ain (r:=r) G hr;generalize rd a (r-1)=p at*;generalize rd a r=q at*;have yb:=h.bh y.1 y.2;unfold bhF at*;rintro(g|⟨g,g2⟩)
 ·omega
 ·rcases n with n|⟨_,⟨n1,n2⟩|⟨n1,n2,n3⟩⟩
  ·omega
  ·rw [df (show p+1=R.length by omega)] at g2;omega
  ·rw [bz (show¬p+1=R.length by omega),bz (show¬q+1=R.length by omega)] at g2;omega
structure AhI (a V:AH) (q l:Int):Prop where
 len:V.length=a.length
 last:l=if q=0 then -1 else rd a (q-1)
 val: ∀p:Int,0<=p->p<q->rd V (rd a p)=if p=0 then -1 else rd a (p-1)
def AhF (a V:AH):Prop:=V.length=a.length/\ ∀p:Int,0<=p->p<a.length->rd V (rd a p)=if p=0 then -1 else rd a (p-1)
theorem aZz:AhI a (List.replicate a.length 0) 0 (-1):=⟨bu,by rw[df rfl],λp h1 h2=>G⟩
variable {V:AH} {q l:Int}
theorem AhI.step (h:AhI a V q l) (hp:a.Perm (iota a.length)) (q0:0<=q) (hq:q<a.length):AhI a (upd V (rd a q) l) (q+1) (rd a q):=by
 have cj:=aZ.1 (hp.subset (bJ q0 hq));have hnd:=hp.symm.nodup (eH a.length);have hl:=h.len;refine⟨by rw[aY];exact hl,by rw[bz G,show q+1-1=q by omega],λp p0 p1=> ?_⟩;rcases bn p q with c|c
 ·have ip:=aZ.1 (hp.subset (bJ (L:=a) p0 G));rw[fO cj.1 ip.1 λe=>by have:=jT hnd q0 hq p0 G e;omega];exact h.val p p0 c
 ·rw [show p=q by omega,eT cj.1 G];exact h.last
theorem AhI.done (h:AhI a V a.length l):AhF a V:=⟨h.len,h.val⟩
theorem AhF.at_ (h:AhF a V) (o:mD s a R) {i:Int} (h0:0<=i) (hi:i<s.length):rd V i=if rd R i=0 then -1 else rd a (rd R i-1):=by
 obtain⟨x,y⟩:=o.at_ h0 hi;have:=h.2 (rd R i) x.1 (by rw[o.alen];exact x.2);rwa[y] at this
structure PlI (s a R V:AH) (i n:Int):Prop where
 len:V.length=s.length
 n0:0<=n
 nl:i<s.length->0<rd R i->(n-1).toNat<=com s i (rd a (rd R i-1))
 val: ∀p:Int,0<=p->p<i->rd V p=rd (yQ s a R) p
theorem aUm:PlI s a R (List.replicate s.length 0) 0 0:=⟨bu,G,λ_ _=>qp _,λp h1 h2=>G⟩
variable {i n:Int}
theorem PlI.put (k:PlI s a R V i n) (i0:0<=i) (hi:i<s.length) {m:Int} (hm:m=rd (yQ s a R) i) (h0:0<=m) (hn:i+1<s.length->0<rd R (i+1)->(m-1).toNat<=com s (i+1) (rd a (rd R (i+1)-1))):PlI s a R (upd V i m) (i+1) m:=by
 have hl:=k.len;refine⟨by rw[aY];exact hl,h0,hn,λp p0 p1=> ?_⟩;rcases bn p i with c|c
 ·rw [fO i0 p0 G];exact k.val p p0 c
 ·rw [show p=i by omega,eT i0 G];exact hm
theorem PlI.zero (k:PlI s a R V i n) (i0:0<=i) (hi:i<s.length) (hr:rd R i=0):PlI s a R (upd V i 0) (i+1) 0:=
 k.put i0 hi (by rw[LU i0 hi,df hr]) G λ_ _=>qp _
theorem PlI.more (k:PlI s a R V i n) (h:mD s a R) (i0:0<=i) (hi:i<s.length) (hr:rd R i≠0) {j:Int} (hj:j=rd a (rd R i-1)):
  ((max (n-1) 0).toNat<=com s i j)/\PlI s a R (upd V i (max (n-1) 0+(com s (i+max (n-1) 0) (j+max (n-1) 0):Int))) (i+1) (max (n-1) 0+(com s (i+max (n-1) 0) (j+max (n-1) 0):Int)):=by
 obtain⟨x,y⟩:=h.at_ i0 hi;have Ur:=h.ain (r:=rd R i-1) G G;have hl:=k.nl hi G;rw[<-hj] at Ur hl;have hm:(max (n-1) 0).toNat<=com s i j:=G
 have hs:=bEj i0 Ur.1 hm;rw[show(((max (n-1) 0).toNat:Nat):Int)=max (n-1) 0 by omega] at hs;have e:max (n-1) 0+(com s (i+max (n-1) 0) (j+max (n-1) 0):Int)=com s i j:=by rw[hs];omega
 refine⟨hm,?_⟩;rw[e];refine k.put i0 hi (by rw[LU i0 hi,bz hr,hj]) G λh1 h2=> ?_;have:=NE h i0 h1 G h2;rw[<-hj] at this;omega
theorem PlI.done (k:PlI s a R V s.length n):V=yQ s a R:=
 bM (by rw[k.len,SH]) λj j0 j1=>k.val j j0 (by have:=k.len;omega)
theorem bIw (h:mD s a R) {U:AH} (hl:U.length=a.length) (hU: ∀p:Int,0<=p->p<a.length->rd U p=rd (yQ s a R) (rd a p)):U=zR s a:=
 bM (by rw[hl,CZ]) λj j0 j1=>by
  have e:=h.alen;rw[hU j j0 G,aUl h j0 G]
end
variable {l b V:AH} {k c i:Int}
def mtf (l:AH) (k:Int):AH:=rd l k::(l.take k.toNat++l.drop (k.toNat+1))
def idx (l:AH) (c:Int):Int:=(l.findIdx (λx=>x==c):Nat)
def bG (l:AH):AH->AH
 |[]=>[]
 |c::b=>idx l c::bG (mtf l (idx l c)) b
def uZ (l:AH):AH->AH
 |[]=>l
 |c::b=>uZ (mtf l (idx l c)) b
def kU (l:AH):AH->AH
 |[]=>[]
 |k::b=>rd l k::kU (mtf l k) b
def IR (l:AH):AH->AH
 |[]=>l
 |k::b=>IR (mtf l k) b
theorem MV (c:Int): ∀(b l:AH),bG l (b++[c])=bG l b++[idx (uZ l b) c]
 |[],l=>rfl
 |x::b,l=>by simp only[jh,bG,uZ,MV c b]
theorem RV (c:Int): ∀(b l:AH),uZ l (b++[c])=mtf (uZ l b) (idx (uZ l b) c)
 |[],l=>rfl
 |x::b,l=>by simp only[jh,uZ,RV c b]
theorem RQ (k:Int): ∀(b l:AH),IR l (b++[k])=mtf (IR l b) k
 |[],l=>rfl
 |x::b,l=>by simp only[jh,IR,RQ k b]
theorem fV: ∀(b l:AH),(bG l b).length=b.length
 |[],_=>rfl
 |x::b,l=>by simp only[bG,dh,fV b]
theorem xL: ∀(b l:AH),(kU l b).length=b.length
 |[],_=>rfl
 |x::b,l=>by simp only[kU,dh,xL b]
theorem CX (h0:0<=k) (h:k<l.length):(mtf l k).Perm l:=by
 have e:=gT (s:=l) h0 h;rw[show(k+1).toNat=k.toNat+1 by omega] at e;unfold mtf
 conv=>rhs;rw[<-gu k.toNat l,e]
 exact List.perm_middle.symm
theorem sD (h:c∈l):0<=idx l c/\idx l c<l.length:=by
 unfold idx;have:=List.findIdx_lt_length_of_exists (xs:=l) (p:=λx=>x==c) ⟨c,h,cD⟩;omega
theorem VO (h:c∈l):rd l (idx l c)=c:=by
 have hi:=sD h;have bc:l.findIdx (λx=>x==c)<l.length:=by unfold idx at hi;omega
 have:=Ep (xs:=l) (p:=λx=>x==c) (w:=bc);unfold idx;rw[iP bc];simpa using this
theorem RX: ∀(b l:AH),(∀c∈b,c∈l)->(uZ l b).Perm l
 |[],l,_=> .refl _
 |c::b,l,h=>by
  have hc:=sD (h c cD);have hp:=CX hc.1 hc.2;exact(RX b _ λx hx=>hp.symm.subset (h x (fe _ hx))).trans hp
theorem RS: ∀(b l:AH),(∀k∈b,0<=k/\k<l.length)->(IR l b).Perm l
 |[],l,_=> .refl _
 |k::b,l,h=>by
  have hk:=h k cD;have hp:=CX hk.1 hk.2;exact(RS b _ λx hx=>by rw[hp.length_eq];exact h x (fe _ hx)).trans hp
theorem aAx: ∀(b l:AH),(∀c∈b,c∈l)-> ∀k∈bG l b,0<=k/\k<l.length
 |[],l,_=>λk hk=>by cases hk
 | c::b,l,h=>by
  have hc:=sD (h c cD);have hp:=CX hc.1 hc.2;intro k hk;rcases jm.1 hk with rfl|hk
  ·exact hc
  ·have:=aAx b _ (λx hx=>hp.symm.subset (h x (fe _ hx))) k hk;rwa[hp.length_eq] at this
theorem QS: ∀(b l:AH),(∀c∈b,c∈l)->kU l (bG l b)=b
 |[],_,_=>rfl
 |c::b,l,h=>by
  have hc:=sD (h c cD);have hp:=CX hc.1 hc.2;simp only[bG,kU];rw[VO (h c cD),QS b _ λx hx=>hp.symm.subset (h x (fe _ hx))]
def aV:AH:=iota 256
theorem zM:aV.length=256:=bB _
theorem zL {b:AH} (h:aP b): ∀c∈b,c∈aV:=λc hc=>by
 have:=h c hc;exact aZ.2 G
theorem lW (h:aP b):aP (bG aV b):=λk hk=>by
 have:=aAx b _ (zL h) k hk;rw[zM] at this;omega
theorem qL (h:aP b):kU aV (bG aV b)=b:=QS b _ (zL h)
theorem SN: ∀(x y l:AH),bG l (x++y)=bG l x++bG (uZ l x) y
 |[],_,_=>rfl
 |c::x,y,l=>by simp only[jh,bG,uZ,SN x y]
theorem QT: ∀(x y l:AH),kU l (x++y)=kU l x++kU (IR l x) y
 |[],_,_=>rfl
 |c::x,y,l=>by simp only[jh,kU,IR,QT x y]
theorem aUd (h0:0<=i) (h:i<b.length):rd (bG l b) i=idx (uZ l (b.take i.toNat)) (rd b i):=by
 have e:b=b.take i.toNat++(rd b i::b.drop (i+1).toNat):=by rw[<-gT h0 h,gu]
 have hl:((bG l (b.take i.toNat)).length:Int)=i:=by rw[fV,ax];omega
 conv=>lhs;rw[e,SN]
 rw[gL G,hl,Fs];rfl
theorem aUc (h0:0<=i) (h:i<b.length):rd (kU l b) i=rd (IR l (b.take i.toNat)) (rd b i):=by
 have e:b=b.take i.toNat++(rd b i::b.drop (i+1).toNat):=by rw[<-gT h0 h,gu]
 have hl:((kU l (b.take i.toNat)).length:Int)=i:=by rw[xL,ax];omega
 conv=>lhs;rw[e,QT]
 rw[gL G,hl,Fs];rfl
theorem RU (h0:0<=i) (h:i<b.length):uZ l (b.take (i+1).toNat)=mtf (uZ l (b.take i.toNat)) (idx (uZ l (b.take i.toNat)) (rd b i)):=by
 rw[dH h0 h,RV]
theorem aNf (h0:0<=i) (h:i<b.length):IR l (b.take (i+1).toNat)=mtf (IR l (b.take i.toNat)) (rd b i):=by
 rw[dH h0 h,RQ]
theorem aGa (h0:0<=i) (h:i<b.length):bG l (b.take (i+1).toNat)=bG l (b.take i.toNat)++[idx (uZ l (b.take i.toNat)) (rd b i)]:=by
 rw[dH h0 h,MV]
theorem bIq (h0:0<=k) (h:k<l.length):upd (l.take 1++(l.take k.toNat).take (min k.toNat (l.length-1))++l.drop (1+min k.toNat (l.length-1))) 0 (rd l k)=mtf l k:=by
 have e:min k.toNat (l.length-1)=k.toNat:=G
 rw[e,List.take_take,Nat.min_self,wu 1];unfold mtf upd;cases l with
 |nil=>simp at h;omega
 |cons x l=>simp
theorem ZE (hb:aP b) (k:Nat):(uZ aV (b.take k)).Perm aV:=RX _ _ λc hc=>zL hb c (mg hc)
theorem aTd (hb:aP b) (k:Nat):(IR aV (b.take k)).Perm aV:=RS _ _ λc hc=>by
 have:=hb c (mg hc);rw[zM];omega
theorem FC (h:V.Perm aV):V.length=256/\aP V/\ ∀c:Int,0<=c->c<256->c∈V/\0<=idx V c/\idx V c<256:=by
 have hl:V.length=256:=by rw[h.length_eq,zM]
 refine⟨hl,λx hx=>by have:=aZ.1 (h.subset hx);omega,λc c0 c1=> ?_⟩;have hm:c∈V:=h.symm.subset (aZ.2 ⟨c0,c1⟩);have:=sD hm;exact⟨hm,this.1,G⟩
theorem aBo (hm:c∈V) (h:k<=idx V c) (fd:rd V k≠c):k+1<=idx V c:=by
 rcases bn k (idx V c) with a|a
 ·omega
 ·exact absurd (by rw[show k=idx V c by omega];exact VO hm) fd
theorem aWn (k0:0<=k) (h:k<=idx V c) (hm:c∈V) (he:rd V k=c):k=idx V c:=by
 have hx:=sD hm;rcases bn k (idx V c) with a|a
 ·exfalso;unfold idx at a;have:=Dn (xs:=V) (p:=λx=>x==c) (i:=k.toNat) G;rw[fI k0 G] at he;simp[he] at this
 ·omega
def GU:Nat->Nat->AH
 |0,_=>[]
 |f+1,n=>if n=0 then [] else(((n-1)%2:Nat):Int)::GU f ((n-1)/2)
def eF (n:Nat):AH:=GU n n
theorem YJ: ∀(f g n:Nat),n<=f->n<=g->GU f n=GU g n
 |0,0,n,_,_=>rfl
 |0,g+1,n,h,_=>by
  have:n=0:=G
  simp[GU,this]
 |f+1,0,n,_,h=>by
  have:n=0:=G
  simp[GU,this]
 |f+1,g+1,n,h1,h2=>by
  simp only[GU];by_cases z:n=0
  ·rw[df z,df z]
  ·rw[bz z,bz z,YJ f g _ G G]
theorem QW:eF 0=[]:=rfl
theorem BF {n:Nat} (h:0<n):eF n=(((n-1)%2:Nat):Int)::eF ((n-1)/2):=by
 obtain⟨m,rfl⟩: ∃m,n=m+1:=⟨n-1,G⟩;unfold eF;rw[GU,bz G];congr 1;exact YJ _ _ _ G (di _)
theorem UQ: ∀(m n:Nat),n<=m-> ∀x∈eF n,0<=x/\x<=1
 |0,n,h=>by
  have:n=0:=G
  subst this;intro x hx;cases hx
 | m+1,n,h=>by
  rcases ed n with z|z
  ·subst z;intro x hx;cases hx
  ·rw [BF z];intro x hx;rcases jm.1 hx with rfl|hx
   ·omega
   ·exact UQ m _ G x hx
theorem BG: ∀(m n:Nat),n<=m->(eF n).length<=n
 |0,n,h=>by
  have:n=0:=G
  subst this;exact di _
 | m+1,n,h=>by
  rcases ed n with z|z
  ·subst z;exact di _
  ·rw [BF z,dh];have:=BG m ((n-1)/2) G;omega
def bT:Nat->AH->AH
 |n,[]=>eF n
 |n,c::b=>if c=0 then bT (n+1) b else eF n++((c+1)::bT 0 b)
theorem oW: ∀(b:AH) (n:Nat),(bT n b).length<=n+b.length
 |[],n=>by
  have:=BG n n (di _);simp only[bT,jl];omega
 | c::b,n=>by
  simp only[bT];split
  ·have:=oW b (n+1);simp only[dh];omega
  ·have:=oW b 0;have:=BG n n (di _);rw[ah,dh,dh];omega
theorem JF: ∀(b:AH) (n:Nat),aP b-> ∀x∈bT n b,0<=x/\x<=256
 |[],n,_=>λx hx=>by have:=UQ n n (di _) x hx;omega
 | c::b,n,h=>by
  have hc:=h c cD;have hb:aP b:=λx hx=>h x (fe _ hx);intro x hx;simp only[bT] at hx;split at hx
  ·exact JF b _ hb x hx
  ·rcases gp.1 hx with hx|hx
   ·have:=UQ n n (di _) x hx;omega
   ·rcases jm.1 hx with rfl|hx
    ·omega
    ·exact JF b _ hb x hx
def bkL (fa:Int):AH->AH->Int->Option (AH)
 |[],out,_=>some out
 |x::l,out,p=>if x<0\/257<=x then none else
  if 2<=x then(if fa<out.length+1 then none else bkL fa l (out++[x-1]) 1)
  else if fa<p\/fa-out.length<(x+1)*p then none else bkL fa l (out++List.replicate ((x+1)*p).toNat 0) (p*2)
theorem XA (fa:Int) (t:AH): ∀(m n:Nat),n<=m-> ∀(out:AH) (p:Nat),0<p->(out.length:Int)+n*p<=fa->
  ∃p':Nat,0<p'/\bkL fa (eF n++t) out p=bkL fa t (out++List.replicate (n*p) 0) p'
 |0,n,h=>by
  intro out p hp _;have:n=0:=G
  subst this;exact⟨p,hp,by simp[QW]⟩
 | m+1,n,h=>by
  intro out p hp hm;rcases ed n with z|z
  ·subst z;exact⟨p,hp,by simp[QW]⟩
  ·rw [BF z,jh];have hd:n=((n-1)%2+1)+2*((n-1)/2):=G
   generalize ha:(n-1)%2=a at hd;generalize hb:(n-1)/2=b at hd;have ha1:a<=1:=G
   have km:n*p=(a+1)*p+b*(p*2):=by rw[hd,yf,Ay 2 b,Nat.mul_assoc,Ay 2 p]
   have hnp2:(n:Int)*p=((n*p:Nat):Int):=cD
   have h1:(((a:Nat):Int)+1)*p=(((a+1)*p:Nat):Int):=cD
   have ye:p<=(a+1)*p:=Dp _ G
   obtain⟨p',cm,e⟩:=XA fa t m b G (out++List.replicate ((a+1)*p) 0) (p*2) G (by
    rw[ah,bu];have:(b:Int)*((p*2:Nat):Int)=((b*(p*2):Nat):Int):=cD
    rw[this]
    omega)
   refine⟨p',cm,?_⟩;rw[bkL,bz G,bz G,bz (by rw[h1];omega),h1,cz];have e2:((p:Nat):Int)*2=((p*2:Nat):Int):=cD
   rw[e2,e,gy,Dx,<-km]
theorem XB (fa:Int): ∀(b:AH) (n:Nat) (out:AH),aP b->(out.length:Int)+n+b.length<=fa->bkL fa (bT n b) out 1=some (out++List.replicate n 0++b)
 |[],n,out,_,h=>by
  obtain⟨p',cm,e⟩:=XA fa [] n n (di _) out 1 G (by simp only[jl] at h;omega);rw[jk,qy] at e;simp only[bT];have e1:((1:Nat):Int)=1:=rfl;rw[e1] at e;rw[e];simp[bkL]
 | c::b,n,out,hb,h=>by
  have hc:=hb c cD;have My:aP b:=λx hx=>hb x (fe _ hx);simp only[dh] at h;simp only[bT];split
  ·rename_i z;rw[XB fa b (n+1) out My G,z,List.replicate_succ'];simp
  ·rename_i z;obtain⟨p',cm,e⟩:=XA fa ((c+1)::bT 0 b) n n (di _) out 1 G G;have e1:((1:Nat):Int)=1:=rfl;rw[qy,e1] at e;rw[e,bkL,bz G,df G,bz (by rw[ah,bu];omega),XB fa b 0 _ My (by rw[ah,ah,bu,gq];omega)];rw[show c+1-1=c by omega];simp
theorem bJv {fa:Int} (hb:aP b) (h:b.length<=fa):bkL fa (bT 0 b) [] 1=some b:=by
 have:=XB fa b 0 [] hb (by simpa using h);simpa using this
variable {l V b C U:AH} {i v x x0 s t:Int}
def beL:Nat->Int->AH
 |0,_=>[]
 |k+1,N=>beL k (N/256)++[N%256]
theorem jW: ∀(k:Nat) (N:Int),(beL k N).length=k
 |0,_=>rfl
 |k+1,N=>by rw[beL,ah,jW k,gq]
theorem yJ: ∀(k:Nat) (N:Int),aP (beL k N)
 |0,_=>λx h=>by cases h
 |k+1,N=>λx h=>by
  rw[beL] at h;rcases gp.1 h with h|h
  ·exact yJ k _ x h
  ·rw[ib.1 h];omega
theorem aZq (k:Nat) (M d:Int) (h:0<=d/\d<256):beL (k+1) (M*256+d)=beL k M++[d]:=by
 rw[beL,show(M*256+d)/256=M by omega,show(M*256+d)%256=d by omega]
theorem aRe (k:Nat) (N:Int):beL (k+1) (N*256)=beL k N++[0]:=by
 have:=aZq k N 0 G;rwa[yl] at this
def bAa:AH->Int->AH
 |[],_=>[]
 |d::l,x=>(x+d)%256::bAa l ((x+d)/256)
def EK (l:AH) (x:Int):AH:=(bAa l.reverse x).reverse
theorem UA (l:AH) (d x:Int):EK (l++[d]) x=EK l ((x+d)/256)++[(x+d)%256]:=by
 unfold EK;rw[List.reverse_append,List.reverse_singleton,qc,bAa,List.reverse_cons]
theorem UC: ∀l:AH,aP l->bAa l 0=l
 |[],_=>rfl
 |d::l,h=>by
  have hd:=h d cD;rw[bAa,Int.zero_add,pz hd.1 hd.2,Int.ediv_eq_zero_of_lt hd.1 hd.2,UC l λx hx=>h x (fe _ hx)]
theorem aRk (h:aP l):EK l 0=l:=by
 unfold EK;rw[UC _ λx hx=>h x (Bu.1 hx),List.reverse_reverse]
theorem JZ: ∀(k:Nat) (N x:Int),EK (beL k N) x=beL k (N+x)
 |0,_,_=>rfl
 |k+1,N,x=>by
  rw[beL,UA,JZ k,beL,show N/256+(x+N%256)/256=(N+x)/256 by omega,show(x+N%256)%256=(N+x)%256 by omega]
theorem aMj (i0:0<=i) (hi:i<V.length):upd V i v=V.take i.toNat++v::V.drop (i+1).toNat:=by
 unfold upd;rw[Dc,df G,show(i+1).toNat=i.toNat+1 by omega]
def aEa (b:AH) (x0:Int) (V:AH) (i x:Int):Prop:=V.length=b.length/\aP V/\EK (V.take (i+1).toNat) x++V.drop (i+1).toNat=EK b x0
theorem UB (hb:aP b) (hi:i=b.length-1):aEa b x b i x:=by
 refine⟨rfl,hb,?_⟩;rw[bg G,xw G,jk]
theorem aEa.step {d y:Int} (h:aEa b x0 V i x) (i0:0<=i) (hi:i<b.length) (hd:d=(x+rd V i)%256) (hy:y=(x+rd V i)/256):aEa b x0 (upd V i d) (i-1) y:=by
 obtain⟨hl,hV,ha⟩:=h;have hs:=aMj (V:=V) (v:=d) i0 G
 have h1:(upd V i d).take i.toNat=V.take i.toNat:=by
  unfold upd;rw[List.take_set_of_le (di _)]
 have h2:(upd V i d).drop i.toNat=d::V.drop (i+1).toNat:=by
  rw[hs,List.drop_append_of_le_length (by rw[ax];omega),xw (by rw[ax];omega),je]
 refine⟨by rw[aY];exact hl,λc hc=> ?_,?_⟩
 ·rw [hs] at hc;rcases gp.1 hc with hc|hc
  ·exact hV c (mg hc)
  ·rcases jm.1 hc with rfl|hc
   ·omega
   ·exact hV c (pq hc)
 ·rw [Int.sub_add_cancel,h1,h2,<-ha,dH i0 G,UA,hd,hy,gy];rfl
theorem aEa.stop (h:aEa b x0 V i x) (hx:x=0\/i<0):V=EK b x0:=by
 obtain⟨hl,hV,ha⟩:=h;rw[<-ha];rcases hx with rfl|hx
 ·rw[aRk (λc hc=>hV c (mg hc)),gu]
 ·rw [show(i+1).toNat=0 by omega];rfl
theorem bEu: ∀(k:Nat) (N:Int),beL (k+4) N=beL k (N/4294967296)++[N%4294967296/16777216,N%16777216/65536,N%65536/256,N%256]:=λk N=>by
 rw[beL,beL,beL,beL,gy,gy,gy];rw[show N/256/256/256/256=N/4294967296 by omega,show N/256/256/256%256=N%4294967296/16777216 by omega,show N/256/256%256=N%16777216/65536 by omega,show N/256%256=N%65536/256 by omega];rfl
theorem VJ {k:Int} (h0:0<=i) (h:i<k):rd (l.take k.toNat) i=rd l i:=by
 unfold rd;rw[ak,ak,ow G]
def aW (l:AH):Int:=l.sum
theorem sM (x:Int) (l:AH):aW (x::l)=x+aW l:=ym
theorem GV (x y:AH):aW (x++y)=aW x+aW y:=Cn
theorem aMo (l:AH) (x:Int):aW (l++[x])=aW l+x:=by rw[GV];simp[aW]
theorem nR (h0:0<=i) (h:i<l.length):aW (l.take (i+1).toNat)=aW (l.take i.toNat)+rd l i:=by rw[dH h0 h,aMo]
theorem bAv {l:AH} (h: ∀c∈l,1<=c):(l.length:Int)<=aW l:=by
 induction l with
 |nil=>simp[aW]
 |cons x l ih=>
  have:=ih λc hc=>h c (fe _ hc);have:=h x cD;rw[sM,dh];omega
theorem rJ {l:AH} (h: ∀c∈l,1<=c):0<=aW l:=by have:=bAv h;omega
theorem zI (h0:0<=i) (h:i<l.length):aW l=aW (l.take i.toNat)+rd l i+aW (l.drop (i+1).toNat):=by
 conv=>lhs;rw[<-gu i.toNat l,gT h0 h]
 rw[GV,sM];omega
theorem aSl {l:AH} (h: ∀c∈l,1<=c) (k:Nat): ∀c∈l.take k,1<=c:=λc hc=>h c (mg hc)
theorem aYg {l:AH} (h: ∀c∈l,1<=c) (k:Nat): ∀c∈l.drop k,1<=c:=λc hc=>h c (pq hc)
theorem sK {l:AH} (hp: ∀c∈l,1<=c) (h0:0<=i) (h:i<l.length):0<=aW (l.take i.toNat)/\1<=rd l i/\aW (l.take i.toNat)+rd l i<=aW l:=by
 have h1:=zI h0 h;have h2:=rJ (aYg hp (i+1).toNat);have h3:=rJ (aSl hp i.toNat);have h4:=hp _ (bJ h0 h);omega
theorem YP (h0:0<=i) (h:i<l.length):aW (upd l i v)=aW l-rd l i+v:=by
 have e1:=zI (l:=upd l i v) h0 (by rw[aY];exact h);have e2:=zI h0 h;rw[eT h0 h] at e1
 have e3:(upd l i v).take i.toNat=l.take i.toNat:=by
  unfold upd;rw[List.take_set_of_le (di _)]
 have e4:(upd l i v).drop (i+1).toNat=l.drop (i+1).toNat:=by
  unfold upd;rw[List.drop_set_of_lt G]
 rw[e3,e4] at e1;omega
theorem RG {l:AH} (h: ∀c∈l,1<=c):2*aW (l.map λn=>(n+1)/2)<=aW l+l.length:=by
 induction l with
 |nil=>simp[aW]
 |cons x l ih=>
  have:=ih λc hc=>h c (fe _ hc);rw[lm,sM,sM,dh];omega
def lC (C:AH):Prop:=C.length=258/\(∀c∈C,1<=c)/\aW C<=65504
def uN:AH:=List.replicate 258 1
theorem KW (n:Nat) (x:Int):aW (List.replicate n x)=n*x:=by
 induction n with
 |zero=>simp[aW]
 |succ n ih=>rw[List.replicate_succ,sM,ih];rw[Int.natCast_succ,Jo];omega
theorem VY:lC uN:=⟨bu,λc hc=>by rw[List.eq_of_mem_replicate hc];omega,by unfold uN;rw[KW];omega⟩
def pR (C:AH):AH:=C.map λn=>(n+1)/2
def jX (C:AH) (s:Int):AH:=if 65504<aW (upd C s (rd C s+32)) then pR (upd C s (rd C s+32)) else upd C s (rd C s+32)
theorem aJc {C:AH} {s v:Int} (h: ∀c∈C,1<=c) (hv:1<=v): ∀c∈upd C s v,1<=c:=λc hc=>by
 unfold upd at hc;rcases List.mem_or_eq_of_mem_set hc with h1|h1
 ·exact h c h1
 ·omega
theorem bBf (h:lC C) (h0:0<=s) (hs:s<258):lC (jX C s):=by
 obtain⟨hl,hp,ht⟩:=h;have h1:=hp _ (bJ (L:=C) (k:=s) h0 G);have hu:=YP (l:=C) (i:=s) (v:=rd C s+32) h0 G;have hq:=aJc (C:=C) (s:=s) (v:=rd C s+32) hp G;unfold jX;split
 ·refine ⟨by unfold pR;rw[cu,aY];exact hl,λc hc=> ?_,?_⟩
  ·obtain ⟨x,hx,rfl⟩:=iy.1 hc;have:=hq x hx;omega
  ·have:=RG hq;rw[aY,hl] at this;unfold pR;omega
 ·exact⟨by rw[aY];exact hl,hq,G⟩
theorem aUe (h0:0<=i) (h:i<C.length):rd (pR C) i=(rd C i+1)/2:=by
 unfold pR;rw[fI h0 (by rw[cu];exact h),fI h0 h,Br]
theorem FH {n:Nat} (h0:0<=i) (h:i<n):rd (List.replicate n x) i=x:=by
 rw[fI h0 (by rw[bu];exact h),List.getElem_replicate]
theorem bIr (hl:V.length=258) (h: ∀j:Int,0<=j->j<258->rd V j=1):V=uN:=
 bM (by rw[hl];exact bu.symm) λj j0 j1=>by
  unfold uN;rw[h j j0 G,FH j0 G]
def PM (C:AH):Prop:=C.length=258/\(∀c∈C,1<=c)/\aW C<=65536
theorem lC.le (h:lC C):PM C:=⟨h.1,h.2.1,by have:=h.2.2;omega⟩
theorem PM.part (h:PM C) (h0:0<=i) (hi:i<258):(0<=aW (C.take i.toNat)/\aW (C.take i.toNat)<=65536)/\(1<=rd C i/\rd C i<=65536)/\aW (C.take i.toNat)+rd C i<=65536:=by
 have:=sK (i:=i) h.2.1 h0 (by rw[h.1];omega);have:=h.2.2;omega
theorem lC.up (h:lC C) (h0:0<=s) (hs:s<258):PM (upd C s (rd C s+32))/\aW (upd C s (rd C s+32))=aW C+32:=by
 have hp:=h.le.part h0 hs;have hu:=YP (l:=C) (i:=s) (v:=rd C s+32) h0 (by rw[h.1];omega);have:=h.2.2;exact⟨⟨by rw[aY];exact h.1,aJc h.2.1 G,G⟩,G⟩
theorem PM.half (h:PM C):lC (pR C):=by
 have:=RG h.2.1;rw[h.1] at this;have hl:=h.2.2;refine⟨by unfold pR;rw[cu];exact h.1,λc hc=> ?_,by unfold pR;omega⟩;obtain⟨x,hx,rfl⟩:=iy.1 hc;have:=h.2.1 x hx;omega
structure IP (U V:AH) (i:Int) (t:Int):Prop where
 len:V.length=258
 done: ∀j:Int,0<=j->j<i->rd V j=rd (pR U) j
 left: ∀j:Int,i<=j->j<258->rd V j=rd U j
 sum:t=aW ((pR U).take i.toNat)
theorem NG (h:U.length=258):IP U U 0 0:=⟨h,λj h1 h2=>G,λj _ _=>rfl,rfl⟩
theorem IP.step (h:IP U V i t) (hU:U.length=258) (h0:0<=i) (hi:i<258):IP U (upd V i ((rd V i+1)/2)) (i+1) (t+rd (upd V i ((rd V i+1)/2)) i):=by
 have hl:=h.len;have e:(rd V i+1)/2=rd (pR U) i:=by rw[h.left i G hi,aUe h0 G]
 refine⟨by rw[aY];exact hl,λj j0 j1=> ?_,λj j0 j1=> ?_,?_⟩
 ·rw [gG h0 j0 G];by_cases c:j=i
  ·rw[df c,e,c]
  ·rw[bz c];exact h.done j j0 G
 ·rw[gG h0 G G,bz G];exact h.left j G j1
 ·rw[nR h0 (by unfold pR;rw[cu];omega),<-h.sum,eT h0 G,e]
theorem IP.done_all (h:IP U V 258 t) (hU:U.length=258):V=pR U/\t=aW (pR U):=by
 have hh:(pR U).length=258:=by unfold pR;rw[cu];exact hU
 refine⟨bM (by rw[h.len,hh]) λj j0 j1=>h.done j j0 (by have:=h.len;omega),?_⟩;rw[h.sum,bg (by rw[hh];decide)]
def shN (R:Int):Nat:=if 16777216<=R then 0 else if 65536<=R then 1 else if 256<=R then 2 else 3
theorem EY (R:Int):shN R<=3:=by unfold shN;split<;>(try split)<;>(try split)<;>omega
theorem BN {R:Int} {j:Nat} (h1:1<=R) (hj:j<=shN R) (h:R*256^j<16777216):j+1<=shN R:=by
 have:=EY R;rcases(by omega:j=0\/j=1\/j=2\/j=3) with rfl|rfl|rfl|rfl<;>unfold shN at* <;>(split<;>(try split)<;>(try split)<;>omega)
variable {R low size total o x:Int} {j:Nat} {b:AH}
theorem JK (h1:1<=R) (hj:j<=shN R) (h:16777216<=R*256^j):j=shN R:=by
 have:=EY R;rcases(by omega:j=0\/j=1\/j=2\/j=3) with rfl|rfl|rfl|rfl<;>unfold shN at* <;>(split at hj<;>(try split at hj)<;>(try split at hj)<;>split<;>(try split)<;>(try split)<;>omega)
theorem CE (h:1<=R):1<=R*256^j:=by
 have h1:(0:Int)<256^j:=Eo G;have:=Int.mul_pos (show 0<R by omega) h1;omega
theorem aMx (h:256<=R):shN R<=2:=by unfold shN;split<;>(try split)<;>(try split)<;>omega
theorem aMw (h:256<=R) (hl:R<4294967296):16777216<=R*256^shN R/\R*256^shN R<4294967296:=by
 unfold shN;split
 ·omega
 ·split
  ·omega
  ·omega
structure CdS where
 N:Int
 R:Int
 k:Nat
def cd0:CdS:=⟨0,4294967295,0⟩
def eY (s:CdS) (low size total:Int):CdS:=⟨(s.N+s.R/total*low)*256^shN (s.R/total*size),s.R/total*size*256^shN (s.R/total*size),s.k+shN (s.R/total*size)⟩
def XM (s:CdS):Prop:=16777216<=s.R/\s.R<4294967296/\0<=s.N/\s.N+s.R<=256^(s.k+4)
theorem bJs:XM cd0:=by unfold XM cd0;dsimp only;omega
def sI (low size total:Int):Prop:=0<=low/\1<=size/\low+size<=total/\total<=65536
theorem nS (h:sI low size total) (hR:16777216<=R/\R<4294967296):
  256<=R/total/\R/total<=R/\0<=R/total*low/\R/total<=R/total*size/\R/total*low+R/total*size<=R:=by
 obtain⟨h0,h1,h2,h3⟩:=h;have hq:256<=R/total:=(Av G).2 G;have hm:R/total*total<=R:=Int.ediv_mul_le R G;have a1:0<=R/total*low:=Am G h0;have a2:R/total*1<=R/total*size:=En h1 G;have a3:R/total*(low+size)<=R/total*total:=En h2 G;rw[Jp] at a3;refine⟨hq,?_,a1,G,G⟩;exact Ie _ G
theorem bCc {s:CdS} (h:XM s) (hs:sI low size total):XM (eY s low size total)/\(eY s low size total).k<=s.k+2:=by
 obtain⟨r0,r1,n0,nr⟩:=h;obtain⟨f1,f2,f3,f4,f5⟩:=nS hs ⟨r0,r1⟩;have hw:=aMw (R:=s.R/total*size) G G;have hj:=aMx (R:=s.R/total*size) G;unfold eY;generalize hq:s.R/total*size=R1 at*;generalize hl:s.R/total*low=x at*;generalize shN R1=j at*;refine⟨⟨hw.1,hw.2,Am G (vz G),?_⟩,by dsimp only;omega⟩;show(s.N+x)*256^j+R1*256^j<=256^(s.k+j+4);rw[<-Jo,show s.k+j+4=s.k+4+j by omega,zy];exact nz G (vz G)
theorem aDq (m:Nat) (M:Int):beL (m+1) (M*256/4294967296)=beL m (M/4294967296)++[M%4294967296/16777216%256]:=by
 rw[beL,show M*256/4294967296/256=M/4294967296 by omega,show M*256/4294967296%256=M%4294967296/16777216%256 by omega]
theorem bEv (m:Nat) (M x:Int) (hx:x=M%4294967296):beL m (M/4294967296)++[x/16777216%256]++[x/65536%256]++[x/256%256]++[x/1%256]=beL (m+4) M:=by
 rw[bEu,show x/16777216%256=M%4294967296/16777216 by omega,show x/65536%256=M%16777216/65536 by omega,show x/256%256=M%65536/256 by omega,show x/1%256=M%256 by omega];simp
structure PpS where
 c0:AH
 c1:AH
 c2:AH
 cls:Int
 cd:CdS
def pp0:PpS:=⟨uN,uN,uN,0,cd0⟩
def iJ (s:Int):Int:=if s<2 then 0 else if s<6 then 1 else 2
theorem aZb (s:Int):0<=iJ s/\iJ s<=2:=by unfold iJ;split<;>(try split)<;>omega
def vU (o:Int) (s:PpS):AH:=if s.cls*o=0 then s.c0 else if s.cls*o=1 then s.c1 else s.c2
def aMy (o:Int) (s:PpS) (C:AH) (cls:Int) (cd:CdS):PpS:=if s.cls*o=0 then⟨C,s.c1,s.c2,cls,cd⟩ else if s.cls*o=1 then⟨s.c0,C,s.c2,cls,cd⟩ else⟨s.c0,s.c1,C,cls,cd⟩
def qN (c:CdS) (C:AH) (x:Int):CdS:=eY c (aW (C.take x.toNat)) (rd C x) (aW C)
def kW (o:Int) (s:PpS) (x:Int):PpS:=aMy o s (jX (vU o s) x) (iJ x) (qN s.cd (vU o s) x)
def encP (o:Int) (l:AH):PpS:=l.foldl (kW o) pp0
theorem aPw (o:Int) (l:AH) (x:Int):encP o (l++[x])=kW o (encP o l) x:=by unfold encP;rw[Gy];rfl
def bK (b:AH):AH:=bT 0 (bG aV b)++[257]
def bY (b:AH) (o:Int):AH:=beL ((encP o (bK b)).cd.k+4) (encP o (bK b)).cd.N
def QK (s:PpS):Prop:=(lC s.c0/\lC s.c1/\lC s.c2)/\(0<=s.cls/\s.cls<=2)/\XM s.cd
theorem bIc:QK pp0:=⟨⟨VY,VY,VY⟩,by unfold pp0;dsimp only;omega,bJs⟩
theorem JL {s:PpS} (h:QK s):lC (vU o s):=by
 unfold vU;split
 ·exact h.1.1
 ·split
  ·exact h.1.2.1
  ·exact h.1.2.2
theorem jY {C:AH} (h:lC C) (h0:0<=x) (hx:x<258):sI (aW (C.take x.toNat)) (rd C x) (aW C):=by
 obtain⟨hl,hp,ht⟩:=h;have:=sK (i:=x) hp h0 G;exact⟨G,G,G,G⟩
theorem KX {s:PpS} (h:QK s) (h0:0<=x) (hx:x<258):QK (kW o s x)/\(kW o s x).cd.k<=s.cd.k+2:=by
 have hm:=bBf (JL (o:=o) h) h0 hx;have hc:=bCc h.2.2 (jY (JL (o:=o) h) h0 hx);have hb:=aZb x;unfold kW aMy;split
 ·exact⟨⟨⟨hm,h.1.2.1,h.1.2.2⟩,hb,hc.1⟩,hc.2⟩
 ·split
  ·exact⟨⟨⟨h.1.1,hm,h.1.2.2⟩,hb,hc.1⟩,hc.2⟩
  ·exact⟨⟨⟨h.1.1,h.1.2.1,hm⟩,hb,hc.1⟩,hc.2⟩
def aIq (l:AH):Prop:= ∀x∈l,0<=x/\x<258
theorem qM (h:aP b):aIq (bK b):=λx hx=>by
 unfold bK at hx;rcases gp.1 hx with hx|hx
 ·have:=JF (bG aV b) 0 (lW h) x hx;omega
 ·rw[ib.1 hx];omega
theorem EX (b:AH):(bK b).length<=b.length+1:=by
 unfold bK;have:=oW (bG aV b) 0;rw[fV] at this;rw[ah,gq];omega
theorem aKq {o:Int}: ∀(l:AH) (s:PpS),aIq l->QK s->QK (l.foldl (kW o) s)/\(l.foldl (kW o) s).cd.k<=s.cd.k+2*l.length
 |[],s,_,h=>⟨h,di _⟩
 |x::l,s,hl,h=>by
  have hx:=hl x cD;have h1:=KX (o:=o) h hx.1 hx.2;have h2:=aKq (o:=o) l (kW o s x) (λy hy=>hl y (fe _ hy)) h1.1;rw[List.foldl_cons,dh];exact⟨h2.1,G⟩
theorem DW {l:AH} (h:aIq l):QK (encP o l)/\(encP o l).cd.k<=2*l.length:=by
 have:=aKq (o:=o) l pp0 h bIc;unfold encP;have e:pp0.cd.k=0:=rfl;rw[e] at this;exact⟨this.1,G⟩
theorem nX (h:aP b):(bY b o).length<=2*b.length+6:=by
 unfold bY;rw[jW];have:=(DW (o:=o) (qM h)).2;have:=EX b;omega
theorem iD (b:AH) (o:Int):aP (bY b o):=yJ _ _
variable {v:Int}
def LZ:Nat->Int->AH
 |0,v=>[v]
 |f+1,v=>if v<128 then [v] else(v%128+128)::LZ f (v/128)
def bL (v:Int):AH:=LZ v.toNat v
theorem JN: ∀(f g:Nat) (v:Int),v.toNat<=f->v.toNat<=g->LZ f v=LZ g v
 |0,0,v,_,_=>rfl
 |0,g+1,v,h,_=>by rw[LZ,LZ,df G]
 |f+1,0,v,_,h=>by rw[LZ,LZ,df G]
 |f+1,g+1,v,h1,h2=>by
  simp only[LZ];by_cases z:v<128
  ·rw[df z,df z]
  ·rw[bz z,bz z,JN f g _ G G]
theorem jU (h:v<128):bL v=[v]:=by
 rw[bL,JN v.toNat (v.toNat+1) v G G,LZ,df h]
theorem sO (h:128<=v):bL v=(v%128+128)::bL (v/128):=by
 rw[bL,JN v.toNat (v.toNat+1) v G G,LZ,bz G,bL,JN v.toNat (v/128).toNat _ G G]
theorem SG {v0:Int} {acc:AH} (h:bL v0=acc++bL v) (hv:128<=v) {d q:Int} (hd:d=v%128+128) (hq:q=v/128):bL v0=(acc++[d])++bL q:=by
 rw[h,sO hv,<-hd,<-hq,gy];rfl
theorem dV: ∀(k:Nat) (v:Int),v<128^(k+1)->(bL v).length<=k+1
 |0,v,h=>by rw[jU G];exact di _
 | k+1,v,h=>by
  by_cases z:v<128
  ·rw[jU z];simp
  ·rw [sO G,dh]
   have:v/128<128^(k+1):=by
    rw[wh] at h;exact zq G h
   have:=dV k (v/128) this;omega
theorem LY: ∀(k:Nat) (v:Int),v.toNat<=k->0<=v->aP (bL v)
 |0,v,h,h0=>by
  rw[jU G];intro x hx;rw[ib.1 hx];omega
 | k+1,v,h,h0=>by
  by_cases z:v<128
  ·rw [jU z];intro x hx;rw[ib.1 hx];omega
  ·rw [sO G];intro x hx;rcases jm.1 hx with rfl|hx
   ·omega
   ·exact LY k (v/128) G G x hx
theorem fU (h:0<=v):aP (bL v):=LY _ v (di _) h
def fP (v:Int):AH:=[v/1%256,v/256%256,v/65536%256,v/16777216%256]
theorem jR (v:Int):aP (fP v):=λx hx=>by
 simp only[fP,jm,zi,or_false] at hx;omega
end Go.Pure
namespace Go.Eng
open Go Go.RowKit Go.Pure
section
variable {P:Program} {n:Nd} {B:Nat} {w0:World} {L:Env} {R:List Row} {ty:TypeId}
theorem XH {f:FuncId} {z8:List Operand} {ts:Array TypeId} {vs:AG} {Post:Value->List Row->Prop} (ha:evs L z8=some vs)
  (hx: ∀w,Hp B w0 w R-> ∃v w' R',(callFunc f vs.toArray).run P w= .ok (.value v) w'/\Hp B w0 w' R'/\Post v R'):
  Ac P n B w0 (.call {callee:= .value (.func f),args:=z8.toArray,argTypes:=ts}) ty L R Post:=by
 intro a w o K Q ho _ hs hp hk;have e1:=hs.evs ha;obtain⟨v,w',R',hr,cm,hv⟩:=hx w hp;have hf:a.eval (.func f)= .func (.func f) #[] #[]:=hs.ev rfl;unfold Oper.wp;simp only[execOp,ho,resolve,hf,Deferred.ofValue,invoke,kg,ny,jw,uj,e1,uk,je,jk,hr,Oper.upon];exact hk v w' R' cm hv
theorem aDl (u:AH):(Lib.bytesOf u).length=u.length:=by simp[Lib.bytesOf]
theorem TP: ∀ {u t:AH},aP u->aP t->Lib.compareBytes (Lib.bytesOf u) (Lib.bytesOf t)=cmpL u t
 |[],[],_,_=>rfl
 |[],_::_,_,_=>rfl
 |_::_,[],_,_=>rfl
 | x::u,y::t,hu,ht=>by
  have ih:=TP (u:=u) (t:=t) (λz hz=>hu z (fe _ hz)) λz hz=>ht z (fe _ hz);have hx:=hu x cD;have hy:=ht y cD
  have e: ∀z:Int,0<=z/\z<256->((z.toNat.toUInt8).toNat:Int)=z:=λz hz=>by
   rw[Nat.toUInt8,Ci (by simp[UInt8.size];omega)];omega
  have bc: ∀ {a b:Int},0<=a/\a<256->0<=b/\b<256->(a.toNat.toUInt8<b.toNat.toUInt8↔a<b):=λ{a b} ha hb=>by
   rw[UInt8.lt_iff_toNat_lt];have h1:=e a ha;have h2:=e b hb;omega
  show(if x.toNat.toUInt8<y.toNat.toUInt8 then -1 else if y.toNat.toUInt8<x.toNat.toUInt8 then 1 else Lib.compareBytes (Lib.bytesOf u) (Lib.bytesOf t))=cmpL (x::u) (y::t);rw[cmpL,ih];by_cases c:x<y
  ·rw[df c,df ((bc hx hy).2 c)]
  ·rw [bz c,bz (λh=>c ((bc hx hy).1 h))];by_cases d:y<x
   ·rw[df d,df ((bc hy hx).2 d)]
   ·rw[bz d,bz (λh=>d ((bc hy hx).1 h))]
theorem vV {w:World} {A:AF} {m c:Nat} {u:AH} (h:Rd w A m c 1 (ints .u8 u)):(Extern.Bytes.bytesOf (.slice A m c)).run P w= .ok ⟨(Lib.bytesOf u).toArray⟩ w:=by
 have hl:=h.lenI;rcases A with _|a
 ·have h0:u=[]:=by
   cases u with
   |nil=>rfl
   |cons y l'=>obtain⟨_,g,_⟩:=h.at_ 0 (.int .u8 y) (by simp[ints]);cases g
  subst h0;rfl
 ·have:=Lib.run_loadBytesX (P:=P) w u a .empty λj x hj=>by
   obtain⟨b,e,hc⟩:=h.at_ j (.int .u8 x) (by simp[ints,hj]);obtain rfl:=jc e;exact hc
  rw[<-hl] at this;show(Extern.Bytes.loadBytes a m .empty).run P w=_;rw[this];simp
theorem bBk {w:World} {A A2:AF} {m c m2 c2:Nat} {u t:AH} (h:Rd w A m c 1 (ints .u8 u)) (h2:Rd w A2 m2 c2 1 (ints .u8 t)) (hu:aP u) (ht:aP t):
  (Extern.BytealgCompare.compare #[.slice A m c, .slice A2 m2 c2]).run P w= .ok (.int .i64 (cmpL u t)) w:=by
 change Sem.run P (do pure (goInt (Extern.BytealgCompare.cmp (<-Extern.Bytes.bytesOf (.slice A m c)) (<-Extern.Bytes.bytesOf (.slice A2 m2 c2))))) w=_;simp only[kg,vV h,vV h2,jw,ny];rw[Lib.cmp_eq,TP hu ht];rfl
theorem bPu {f:FuncId} {fn:Func} {x y:Operand} {ts:Array TypeId} {A A2:AF} {m c m2 c2:Nat} {u t:AH} (hf:P.funcs[f]? =some fn) (g6:(fn.name== "runtime.NumGoroutine")=false) (hb:fn.body.isNone=true) (hn:Extern.findNext fn=none) (he:Extern.find fn=some Extern.BytealgCompare.compare)
  (hx:ev L x=some (.slice A m c)) (hy:ev L y=some (.slice A2 m2 c2)) (h:RdC B w0 R A m c 1 (ints .u8 u)) (h2:RdC B w0 R A2 m2 c2 1 (ints .u8 t)) (hu:aP u) (ht:aP t):
  Ac P n B w0 (.call {callee:= .value (.func f),args:=[x,y].toArray,argTypes:=ts}) ty L R (λv R'=>v= .int .i64 (cmpL u t)/\R'=R):=
 XH (vs:=[.slice A m c, .slice A2 m2 c2]) (by simp[evs,hx,hy]) λw hw=>⟨_,w,R,by
  rw[Fq hf g6 hb hn he];rw[show [Value.slice A m c,Value.slice A2 m2 c2].toArray= #[.slice A m c, .slice A2 m2 c2] from rfl,bBk (h w hw) (h2 w hw) hu ht]
  rfl,hw,rfl,rfl⟩
theorem bFh {x:Operand} {t e:TypeId} {A:AF} {m c:Nat} (ht:P.underlying t=some (.slice e)) (hx:ev L x=some (.slice A m c)):Yl P n B w0 (.call {callee:= .builtin .cap,args:= #[x],argTypes:= #[t]}) ty L R (.int .i64 (c:Int)):=by
 intro a w o ho _ hs _;simp[execOp,ho,resolve,invoke,builtin,Builtin.cap_,ni ht,hs.ev hx,goInt]
theorem XO {x z:Operand} {t e:TypeId} {A:AF} {m c sz:Nat} {k2:IntKind} (ht:P.underlying t=some (.slice e)) (hi:(P.info? e).map (·.size)=some sz) (hx:ev L x=some (.slice A m c)) (hz:ev L z=some (.int k2 0)):
  Yl P n B w0 (.slice t x none (some z) none) ty L R (.slice A 0 c):=by
 intro a w o ho _ hs hp;obtain⟨i0,aw,hsz0⟩:=il.1 hi;have ud:P.elem t=e:=by simp[Program.elem,ht]
 have sk:P.underlying t=some (.slice (P.elem t)):=by rw[ud];exact ht
 simp only[execOp,ho,ky,Bb,hs.ev hx,hs.ev hz,kg,Af w t _ _ _ _ sk,run_slice_h w t A m c sk k2 0 (lq 0) G,ud]
 have:(if c=0 then A else Option.map (λx=>x.add 0) A)=A:=by
  split
  ·rfl
  ·exact CJ A
 simp[sizeOf,typeInfo,aw,hsz0,sliced,this]
theorem Row.lies_cut {w:World} {e sz m c:Nat} {A:AF} {xs:AG} (h:Row.lies B w ⟨e,sz,A,m,c,xs,false⟩) {k:Nat} (hk:k<=m) (hA:A≠none):Row.lies B w ⟨e,sz,A,k,c,xs.take (k*sz),false⟩:=by
 have h1:=Row.lies_w h rfl;have pv:k*sz<=m*sz:=ut _ hk;unfold Row.lies;simp only;obtain⟨hl,h2⟩:=h1;simp only at hl h2;refine⟨by rw[ax];omega,?_⟩;rcases h2 with⟨hv,_⟩|⟨g,cap,cur,hv,hb,hg,hnc,tk,lf,ht⟩
 ·simp only[ku] at hv;exact absurd hv.1 hA
 ·simp only[ku] at hv;obtain⟨rfl,_,rfl⟩:=hv;refine .inr ⟨g,c,cur,rfl,hb,hg,G,tk,lf,?_⟩;rw[<-ht,List.take_take];congr 1;omega
theorem Hp.cut {w:World} {e sz m c:Nat} {A:AF} {xs:AG} (h:Hp B w0 w (⟨e,sz,A,m,c,xs,false⟩::R)) {k:Nat} (hk:k<=m) (hA:A≠none):Hp B w0 w (⟨e,sz,A,k,c,xs.take (k*sz),false⟩::R):=
 ⟨h.below,h.base,λr hr=>by
  rcases jm.1 hr with rfl|hr
  ·exact Row.lies_cut (h.own _ (.head _)) hk hA
  ·exact h.own r (.tail _ hr),by
  obtain⟨h1,h2⟩:=jb.1 h.apart
  exact jb.2 ⟨λr hr=>h1 r hr,h2⟩,h.late⟩
theorem Hp.newC {w:World} (h:Hp B w0 w R) (cs:Array Value) (e m:Nat) (hm:m<=cs.size) (hc:cs.size<=maxLen):Hp B w0 (w.alloc (.cells cs e)) (⟨e,1,some ⟨w.heap.size,0,none⟩,m,cs.size,cs.toList.take m,false⟩::R):=by
 have h1:=h.new cs e cs.size 1 hc G;have:=h1.cut (k:=m) hm cD;rwa[qy] at this
theorem bEy {x y:Operand} {t tn e:TypeId} {z:Value} {bytes:Nat} {kn:IntKind} {m:Nat} (ht:P.underlying t=some (.slice e)) (Pu:P.underlying tn=some (.int kn)) (dg:(P.info? e).map (λi=>(i.zero,i.size,i.bytes))=some (some z,1,bytes)) (hz:z.cells= #[z])
  (hx:ev L x=some (.slice none 0 0)) (hy:ev L y=some (.int .i64 (m:Int))) (h0:0<m) (hm:m<=9223372036854775807) (hb:m*bytes<=281474976710656):
  Ac P n B w0 (.call {callee:= .builtin .append,args:= #[x,y],argTypes:= #[t,tn]}) ty L R (λv R'=> ∃g c,v= .slice (some ⟨g,0,none⟩) m c/\R'=⟨e,1,some ⟨g,0,none⟩,m,c,List.replicate m z,false⟩::R):=by
 intro a w o K Q ho _ hs hp hk;obtain⟨i0,hi,a8⟩:=il.1 dg;simp only[yt] at a8;obtain⟨wt,i5,Ix⟩:=a8;have hr:=Lib.run_append_nil_zeros (P:=P) w t tn o.type e i0 z .i64 kn ht Pu hi wt m h0 G G (by rw[Ix];exact hb)
 have Qu: ∀q,(Builtin.zeroCells z.cells q).toList=List.replicate q z:=λq=>by
  rw[hz];refine xg (by simp[Builtin.zeroCells]) λi h1 h2=> ?_;simp[Builtin.zeroCells,Nat.mod_one]
 unfold Oper.wp;simp only[execOp,ho,resolve,invoke,builtin,kg,ny,jw,uj,lm,si,hs.ev hx,hs.ev hy,hr,Oper.upon];have Fl:=grownCap_ge w m 0 e;have pv:=Gt w m 0 e (by unfold maxLen;omega)
 have hsz:(Builtin.zeroCells z.cells m++Builtin.zeroCells z.cells (grownCap w m 0 e-m)).size=grownCap w m 0 e:=by
  rw[<-jr,vg,ah,Qu,Qu,bu,bu];omega
 have ph:=(hp.drawn (w.drawn+1) G).newC (Builtin.zeroCells z.cells m++Builtin.zeroCells z.cells (grownCap w m 0 e-m)) e m (by rw[hsz];exact Fl) (by rw[hsz];exact pv);rw[vg,Qu,Qu,Fb (by rw[bu]),hsz] at ph;exact hk _ _ _ ph ⟨_,_,rfl,rfl⟩
end
end Go.Eng
namespace Go.Eng
open Go Go.RowKit
section
variable {P:Program} {n:Nd} {B:Nat} {w0:World}
theorem uA {σ0 σ1 σ2 σ3 σ4 σ5 σ6 σ7:Type} {c:Code} {Q:fC} {L:Env} {R:List Row} (Lx:σ0->σ1->σ2->σ3->σ4->σ5->σ6->σ7->Env) (Rx:σ0->σ1->σ2->σ3->σ4->σ5->σ6->σ7->List Row) (J:σ0->σ1->σ2->σ3->σ4->σ5->σ6->σ7->Prop) (μ:σ0->σ1->σ2->σ3->σ4->σ5->σ6->σ7->Nat)
  (h0: ∃x0 x1 x2 x3 x4 x5 x6 x7,J x0 x1 x2 x3 x4 x5 x6 x7/\Sub (Lx x0 x1 x2 x3 x4 x5 x6 x7) L/\ ∀w,Hp B w0 w R->Hp B w0 w (Rx x0 x1 x2 x3 x4 x5 x6 x7))
  (round: ∀x0 x1 x2 x3 x4 x5 x6 x7,J x0 x1 x2 x3 x4 x5 x6 x7->W P n B w0 c {Q with nrm:=λL' R'=> ∃y0 y1 y2 y3 y4 y5 y6 y7,J y0 y1 y2 y3 y4 y5 y6 y7/\μ y0 y1 y2 y3 y4 y5 y6 y7<μ x0 x1 x2 x3 x4 x5 x6 x7/\Sub (Lx y0 y1 y2 y3 y4 y5 y6 y7) L'/\ ∀w,Hp B w0 w R'->Hp B w0 w (Rx y0 y1 y2 y3 y4 y5 y6 y7)} (Lx x0 x1 x2 x3 x4 x5 x6 x7) (Rx x0 x1 x2 x3 x4 x5 x6 x7)):W P n B w0 (.loop c) Q L R:=by
 obtain⟨x0,x1,x2,x3,x4,x5,x6,x7,h1,h2,h3⟩:=h0;refine pM (σ:=σ0 × σ1 × σ2 × σ3 × σ4 × σ5 × σ6 × σ7) (λp=>Lx p.1 p.2.1 p.2.2.1 p.2.2.2.1 p.2.2.2.2.1 p.2.2.2.2.2.1 p.2.2.2.2.2.2.1 p.2.2.2.2.2.2.2) (λp=>Rx p.1 p.2.1 p.2.2.1 p.2.2.2.1 p.2.2.2.2.1 p.2.2.2.2.2.1 p.2.2.2.2.2.2.1 p.2.2.2.2.2.2.2) (λp=>J p.1 p.2.1 p.2.2.1 p.2.2.2.1 p.2.2.2.2.1 p.2.2.2.2.2.1 p.2.2.2.2.2.2.1 p.2.2.2.2.2.2.2) (λp=>μ p.1 p.2.1 p.2.2.1 p.2.2.2.1 p.2.2.2.2.1 p.2.2.2.2.2.1 p.2.2.2.2.2.2.1 p.2.2.2.2.2.2.2) ⟨(x0,x1,x2,x3,x4,x5,x6,x7),h1,h2,h3⟩ λp hp=>iG (round p.1 p.2.1 p.2.2.1 p.2.2.2.1 p.2.2.2.2.1 p.2.2.2.2.2.1 p.2.2.2.2.2.2.1 p.2.2.2.2.2.2.2 hp) ?_ (λ_ _ h=>h) (λ_ _ _ h=>h);rintro L' R' ⟨y0,y1,y2,y3,y4,y5,y6,y7,g1,g2,g3,g4⟩;exact⟨(y0,y1,y2,y3,y4,y5,y6,y7),⟨g1,g2⟩,g3,g4⟩
theorem UL {σ0 σ1 σ2 σ3 σ4 σ5 σ6 σ7 σ8:Type} {c:Code} {Q:fC} {L:Env} {R:List Row} (Lx:σ0->σ1->σ2->σ3->σ4->σ5->σ6->σ7->σ8->Env) (Rx:σ0->σ1->σ2->σ3->σ4->σ5->σ6->σ7->σ8->List Row) (J:σ0->σ1->σ2->σ3->σ4->σ5->σ6->σ7->σ8->Prop) (μ:σ0->σ1->σ2->σ3->σ4->σ5->σ6->σ7->σ8->Nat)
  (h0: ∃x0 x1 x2 x3 x4 x5 x6 x7 x8,J x0 x1 x2 x3 x4 x5 x6 x7 x8/\Sub (Lx x0 x1 x2 x3 x4 x5 x6 x7 x8) L/\ ∀w,Hp B w0 w R->Hp B w0 w (Rx x0 x1 x2 x3 x4 x5 x6 x7 x8))
  (round: ∀x0 x1 x2 x3 x4 x5 x6 x7 x8,J x0 x1 x2 x3 x4 x5 x6 x7 x8->W P n B w0 c {Q with nrm:=λL' R'=> ∃y0 y1 y2 y3 y4 y5 y6 y7 y8,J y0 y1 y2 y3 y4 y5 y6 y7 y8/\μ y0 y1 y2 y3 y4 y5 y6 y7 y8<μ x0 x1 x2 x3 x4 x5 x6 x7 x8/\Sub (Lx y0 y1 y2 y3 y4 y5 y6 y7 y8) L'/\ ∀w,Hp B w0 w R'->Hp B w0 w (Rx y0 y1 y2 y3 y4 y5 y6 y7 y8)} (Lx x0 x1 x2 x3 x4 x5 x6 x7 x8) (Rx x0 x1 x2 x3 x4 x5 x6 x7 x8)):W P n B w0 (.loop c) Q L R:=by
 obtain⟨x0,x1,x2,x3,x4,x5,x6,x7,x8,h1,h2,h3⟩:=h0;refine pM (σ:=σ0 × σ1 × σ2 × σ3 × σ4 × σ5 × σ6 × σ7 × σ8) (λp=>Lx p.1 p.2.1 p.2.2.1 p.2.2.2.1 p.2.2.2.2.1 p.2.2.2.2.2.1 p.2.2.2.2.2.2.1 p.2.2.2.2.2.2.2.1 p.2.2.2.2.2.2.2.2) (λp=>Rx p.1 p.2.1 p.2.2.1 p.2.2.2.1 p.2.2.2.2.1 p.2.2.2.2.2.1 p.2.2.2.2.2.2.1 p.2.2.2.2.2.2.2.1 p.2.2.2.2.2.2.2.2) (λp=>J p.1 p.2.1 p.2.2.1 p.2.2.2.1 p.2.2.2.2.1 p.2.2.2.2.2.1 p.2.2.2.2.2.2.1 p.2.2.2.2.2.2.2.1 p.2.2.2.2.2.2.2.2) (λp=>μ p.1 p.2.1 p.2.2.1 p.2.2.2.1 p.2.2.2.2.1 p.2.2.2.2.2.1 p.2.2.2.2.2.2.1 p.2.2.2.2.2.2.2.1 p.2.2.2.2.2.2.2.2) ⟨(x0,x1,x2,x3,x4,x5,x6,x7,x8),h1,h2,h3⟩ λp hp=>iG (round p.1 p.2.1 p.2.2.1 p.2.2.2.1 p.2.2.2.2.1 p.2.2.2.2.2.1 p.2.2.2.2.2.2.1 p.2.2.2.2.2.2.2.1 p.2.2.2.2.2.2.2.2 hp) ?_ (λ_ _ h=>h) (λ_ _ _ h=>h);rintro L' R' ⟨y0,y1,y2,y3,y4,y5,y6,y7,y8,g1,g2,g3,g4⟩;exact⟨(y0,y1,y2,y3,y4,y5,y6,y7,y8),⟨g1,g2⟩,g3,g4⟩
theorem XU {σ0 σ1 σ2 σ3 σ4 σ5 σ6 σ7 σ8 σ9:Type} {c:Code} {Q:fC} {L:Env} {R:List Row} (Lx:σ0->σ1->σ2->σ3->σ4->σ5->σ6->σ7->σ8->σ9->Env) (Rx:σ0->σ1->σ2->σ3->σ4->σ5->σ6->σ7->σ8->σ9->List Row) (J:σ0->σ1->σ2->σ3->σ4->σ5->σ6->σ7->σ8->σ9->Prop) (μ:σ0->σ1->σ2->σ3->σ4->σ5->σ6->σ7->σ8->σ9->Nat)
  (h0: ∃x0 x1 x2 x3 x4 x5 x6 x7 x8 x9,J x0 x1 x2 x3 x4 x5 x6 x7 x8 x9/\Sub (Lx x0 x1 x2 x3 x4 x5 x6 x7 x8 x9) L/\ ∀w,Hp B w0 w R->Hp B w0 w (Rx x0 x1 x2 x3 x4 x5 x6 x7 x8 x9))
  (round: ∀x0 x1 x2 x3 x4 x5 x6 x7 x8 x9,J x0 x1 x2 x3 x4 x5 x6 x7 x8 x9->W P n B w0 c {Q with nrm:=λL' R'=> ∃y0 y1 y2 y3 y4 y5 y6 y7 y8 y9,J y0 y1 y2 y3 y4 y5 y6 y7 y8 y9/\μ y0 y1 y2 y3 y4 y5 y6 y7 y8 y9<μ x0 x1 x2 x3 x4 x5 x6 x7 x8 x9/\Sub (Lx y0 y1 y2 y3 y4 y5 y6 y7 y8 y9) L'/\ ∀w,Hp B w0 w R'->Hp B w0 w (Rx y0 y1 y2 y3 y4 y5 y6 y7 y8 y9)} (Lx x0 x1 x2 x3 x4 x5 x6 x7 x8 x9) (Rx x0 x1 x2 x3 x4 x5 x6 x7 x8 x9)):W P n B w0 (.loop c) Q L R:=by
 obtain⟨x0,x1,x2,x3,x4,x5,x6,x7,x8,x9,h1,h2,h3⟩:=h0;refine pM (σ:=σ0 × σ1 × σ2 × σ3 × σ4 × σ5 × σ6 × σ7 × σ8 × σ9) (λp=>Lx p.1 p.2.1 p.2.2.1 p.2.2.2.1 p.2.2.2.2.1 p.2.2.2.2.2.1 p.2.2.2.2.2.2.1 p.2.2.2.2.2.2.2.1 p.2.2.2.2.2.2.2.2.1 p.2.2.2.2.2.2.2.2.2) (λp=>Rx p.1 p.2.1 p.2.2.1 p.2.2.2.1 p.2.2.2.2.1 p.2.2.2.2.2.1 p.2.2.2.2.2.2.1 p.2.2.2.2.2.2.2.1 p.2.2.2.2.2.2.2.2.1 p.2.2.2.2.2.2.2.2.2) (λp=>J p.1 p.2.1 p.2.2.1 p.2.2.2.1 p.2.2.2.2.1 p.2.2.2.2.2.1 p.2.2.2.2.2.2.1 p.2.2.2.2.2.2.2.1 p.2.2.2.2.2.2.2.2.1 p.2.2.2.2.2.2.2.2.2) (λp=>μ p.1 p.2.1 p.2.2.1 p.2.2.2.1 p.2.2.2.2.1 p.2.2.2.2.2.1 p.2.2.2.2.2.2.1 p.2.2.2.2.2.2.2.1 p.2.2.2.2.2.2.2.2.1 p.2.2.2.2.2.2.2.2.2) ⟨(x0,x1,x2,x3,x4,x5,x6,x7,x8,x9),h1,h2,h3⟩ λp hp=>iG (round p.1 p.2.1 p.2.2.1 p.2.2.2.1 p.2.2.2.2.1 p.2.2.2.2.2.1 p.2.2.2.2.2.2.1 p.2.2.2.2.2.2.2.1 p.2.2.2.2.2.2.2.2.1 p.2.2.2.2.2.2.2.2.2 hp) ?_ (λ_ _ h=>h) (λ_ _ _ h=>h);rintro L' R' ⟨y0,y1,y2,y3,y4,y5,y6,y7,y8,y9,g1,g2,g3,g4⟩;exact⟨(y0,y1,y2,y3,y4,y5,y6,y7,y8,y9),⟨g1,g2⟩,g3,g4⟩
theorem aRy {σ0 σ1 σ2 σ3 σ4 σ5 σ6 σ7 σ8 σ9 σ10 σ11 σ12 σ13:Type} {c:Code} {Q:fC} {L:Env} {R:List Row} (Lx:σ0->σ1->σ2->σ3->σ4->σ5->σ6->σ7->σ8->σ9->σ10->σ11->σ12->σ13->Env) (Rx:σ0->σ1->σ2->σ3->σ4->σ5->σ6->σ7->σ8->σ9->σ10->σ11->σ12->σ13->List Row) (J:σ0->σ1->σ2->σ3->σ4->σ5->σ6->σ7->σ8->σ9->σ10->σ11->σ12->σ13->Prop) (μ:σ0->σ1->σ2->σ3->σ4->σ5->σ6->σ7->σ8->σ9->σ10->σ11->σ12->σ13->Nat)
  (h0: ∃x0 x1 x2 x3 x4 x5 x6 x7 x8 x9 xi xj xl xo,J x0 x1 x2 x3 x4 x5 x6 x7 x8 x9 xi xj xl xo/\Sub (Lx x0 x1 x2 x3 x4 x5 x6 x7 x8 x9 xi xj xl xo) L/\ ∀w,Hp B w0 w R->Hp B w0 w (Rx x0 x1 x2 x3 x4 x5 x6 x7 x8 x9 xi xj xl xo))
  (round: ∀x0 x1 x2 x3 x4 x5 x6 x7 x8 x9 xi xj xl xo,J x0 x1 x2 x3 x4 x5 x6 x7 x8 x9 xi xj xl xo->W P n B w0 c {Q with nrm:=λL' R'=> ∃y0 y1 y2 y3 y4 y5 y6 y7 y8 y9 s9 t6 t7 t8,J y0 y1 y2 y3 y4 y5 y6 y7 y8 y9 s9 t6 t7 t8/\μ y0 y1 y2 y3 y4 y5 y6 y7 y8 y9 s9 t6 t7 t8<μ x0 x1 x2 x3 x4 x5 x6 x7 x8 x9 xi xj xl xo/\Sub (Lx y0 y1 y2 y3 y4 y5 y6 y7 y8 y9 s9 t6 t7 t8) L'/\ ∀w,Hp B w0 w R'->Hp B w0 w (Rx y0 y1 y2 y3 y4 y5 y6 y7 y8 y9 s9 t6 t7 t8)} (Lx x0 x1 x2 x3 x4 x5 x6 x7 x8 x9 xi xj xl xo) (Rx x0 x1 x2 x3 x4 x5 x6 x7 x8 x9 xi xj xl xo)):W P n B w0 (.loop c) Q L R:=by
 obtain⟨x0,x1,x2,x3,x4,x5,x6,x7,x8,x9,xi,xj,xl,xo,h1,h2,h3⟩:=h0;refine pM (σ:=σ0 × σ1 × σ2 × σ3 × σ4 × σ5 × σ6 × σ7 × σ8 × σ9 × σ10 × σ11 × σ12 × σ13) (λp=>Lx p.1 p.2.1 p.2.2.1 p.2.2.2.1 p.2.2.2.2.1 p.2.2.2.2.2.1 p.2.2.2.2.2.2.1 p.2.2.2.2.2.2.2.1 p.2.2.2.2.2.2.2.2.1 p.2.2.2.2.2.2.2.2.2.1 p.2.2.2.2.2.2.2.2.2.2.1 p.2.2.2.2.2.2.2.2.2.2.2.1 p.2.2.2.2.2.2.2.2.2.2.2.2.1 p.2.2.2.2.2.2.2.2.2.2.2.2.2) (λp=>Rx p.1 p.2.1 p.2.2.1 p.2.2.2.1 p.2.2.2.2.1 p.2.2.2.2.2.1 p.2.2.2.2.2.2.1 p.2.2.2.2.2.2.2.1 p.2.2.2.2.2.2.2.2.1 p.2.2.2.2.2.2.2.2.2.1 p.2.2.2.2.2.2.2.2.2.2.1 p.2.2.2.2.2.2.2.2.2.2.2.1 p.2.2.2.2.2.2.2.2.2.2.2.2.1 p.2.2.2.2.2.2.2.2.2.2.2.2.2) (λp=>J p.1 p.2.1 p.2.2.1 p.2.2.2.1 p.2.2.2.2.1 p.2.2.2.2.2.1 p.2.2.2.2.2.2.1 p.2.2.2.2.2.2.2.1 p.2.2.2.2.2.2.2.2.1 p.2.2.2.2.2.2.2.2.2.1 p.2.2.2.2.2.2.2.2.2.2.1 p.2.2.2.2.2.2.2.2.2.2.2.1 p.2.2.2.2.2.2.2.2.2.2.2.2.1 p.2.2.2.2.2.2.2.2.2.2.2.2.2) (λp=>μ p.1 p.2.1 p.2.2.1 p.2.2.2.1 p.2.2.2.2.1 p.2.2.2.2.2.1 p.2.2.2.2.2.2.1 p.2.2.2.2.2.2.2.1 p.2.2.2.2.2.2.2.2.1 p.2.2.2.2.2.2.2.2.2.1 p.2.2.2.2.2.2.2.2.2.2.1 p.2.2.2.2.2.2.2.2.2.2.2.1 p.2.2.2.2.2.2.2.2.2.2.2.2.1 p.2.2.2.2.2.2.2.2.2.2.2.2.2) ⟨(x0,x1,x2,x3,x4,x5,x6,x7,x8,x9,xi,xj,xl,xo),h1,h2,h3⟩ λp hp=>iG (round p.1 p.2.1 p.2.2.1 p.2.2.2.1 p.2.2.2.2.1 p.2.2.2.2.2.1 p.2.2.2.2.2.2.1 p.2.2.2.2.2.2.2.1 p.2.2.2.2.2.2.2.2.1 p.2.2.2.2.2.2.2.2.2.1 p.2.2.2.2.2.2.2.2.2.2.1 p.2.2.2.2.2.2.2.2.2.2.2.1 p.2.2.2.2.2.2.2.2.2.2.2.2.1 p.2.2.2.2.2.2.2.2.2.2.2.2.2 hp) ?_ (λ_ _ h=>h) (λ_ _ _ h=>h);rintro L' R' ⟨y0,y1,y2,y3,y4,y5,y6,y7,y8,y9,s9,t6,t7,t8,g1,g2,g3,g4⟩;exact⟨(y0,y1,y2,y3,y4,y5,y6,y7,y8,y9,s9,t6,t7,t8),⟨g1,g2⟩,g3,g4⟩
end
section
variable {P:Program} {n:Nd} {B:Nat} {w0:World} {L:Env} {R:List Row} {ty:TypeId}
end
end Go.Eng
namespace Go.Eng
open Go Go.RowKit Go.Proofs
theorem SlW.elim {C:Prop} {k:IntKind} {w:World} {vals:AG} {ls:AD} (h:SlW k w vals ls) {i:Int} (h0:0<=i) (h1:i<ls.length) (q: ∀(A:AF) (c:Nat),vals[i.toNat]? =some (Value.slice A (rdl ls i).length c)->Rd w A (rdl ls i).length c 1 (ints k (rdl ls i))->(∀x∈rdl ls i,(Lit.int k x).wf=true)->(rdl ls i).length<=140737488355327->C):C:=by
 obtain⟨A,c,a,b,d,e⟩:=h.at h0 h1;exact q A c a b d e
section
variable {P:Program} {n:Nd} {B:Nat} {w0:World} {L:Env} {R:List Row} {ty:TypeId}
theorem AQ {x ix:Operand} {t e:TypeId} {k:IntKind} {A:AF} {m c q:Nat} {i j:Int} {l:AE} (ht:P.underlying t=some (.array 2 e)) (hi:(P.info? e).map (·.size)=some 1) (hx:ev L x=some (.pointer (pat A (i.toNat*2)))) (sq:ev L ix=some (.int k j))
  (hr:RdC B w0 R A m c 2 (prs l)) (h0:0<=i) (h1:i<l.length) (hj:j.toNat=q) (ue:0<=j) (l7:j<2):Yl P n B w0 (.indexAddr t x ix) ty L R (.pointer (pat A (i.toNat*2+q))):=by
 have:=zB (P:=P) (n:=n) (B:=B) (w0:=w0) (ty:=ty) ht hi hx rfl sq hr (by rw[jB];omega) ue l7;rwa[qy,hj] at this
theorem aJz {l:AE} {i:Int} (h0:0<=i) (h:i<l.length):(prs l)[i.toNat*2+0]? =some (.int .i64 (rdp l i).1):=by
 rw[JO _ _ G];rw[df G,show(i.toNat*2+0)/2=i.toNat by omega];rfl
theorem bCf {l:AE} {i:Int} (h0:0<=i) (h:i<l.length):(prs l)[i.toNat*2+1]? =some (.int .i64 (rdp l i).2):=by
 rw[JO _ _ G];rw[bz G,show(i.toNat*2+1)/2=i.toNat by omega];rfl
theorem zA {x:Operand} {t:TypeId} {d:TypeDesc} {A:AF} {m c:Nat} {l:AE} {i:Int} (hu:P.underlying t=some d) (hd:AA d=false) (hx:ev L x=some (.pointer (pat A (i.toNat*2+0)))) (hr:RdC B w0 R A m c 2 (prs l)) (h0:0<=i:=by omega) (h1:i<l.length:=by omega):
  Yl P n B w0 (.load t x) ty L R (.int .i64 (rdp l i).1):=rF hu hd hx rfl hr (aJz h0 h1)
theorem aRs {x:Operand} {t:TypeId} {d:TypeDesc} {A:AF} {m c:Nat} {l:AE} {i:Int} (hu:P.underlying t=some d) (hd:AA d=false) (hx:ev L x=some (.pointer (pat A (i.toNat*2+1)))) (hr:RdC B w0 R A m c 2 (prs l)) (h0:0<=i) (h1:i<l.length):
  Yl P n B w0 (.load t x) ty L R (.int .i64 (rdp l i).2):=rF hu hd hx rfl hr (bCf h0 h1)
end
section
variable {P:Program} {n:Nd} {B:Nat} {w0:World} {ops:Array Oper} {K:Env->List Row->Prop} {L:Env} {R:List Row} {op:Op} {ty:TypeId} {pos:String} {nc:Array Edge}
def aMa (P:Program) (n:Nd) (B:Nat) (w0:World) (ops:Array Oper) (K:Env->List Row->Prop) (al:Nat) (ab:AI) (L:Env) (R:List Row) (i:Nat):Prop:=
 ∀a w (Q:Exit->Act->World->Prop),Sat n L a->Hp B w0 w R->(∀c a w,¬Q (.panic c) a w)->(∀a' w' L' R',Sat n L' a'->Hp B w0 w' R'->K L' R'->Q .normal a' w')->
  wpOp P ops Q i (λa' w'=> ∃S':World->Prop,S' w'/\(OX ops ab i=true\/ ∀x,S' x->Hp B w0 x R)/\vH P ops Q al S' (ab.setIfInBounds i true) a' w') a w
theorem UJ {al:Nat} {ab:AI} (i j:Nat) (hr:Region.ready .any ops ab=[i,j]) (hi:aMa P n B w0 ops K al ab L R i) (hj:aMa P n B w0 ops K al ab L R j):WD P n B w0 ops K (al+1) ab L R:=by
 intro a w Q hs hp ft hq;refine⟨λh0=>absurd (hr▸h0) cD,λk hk=> ?_⟩;rw[hr] at hk;rcases jm.1 hk with rfl|hk
 ·exact hi a w Q hs hp ft hq
 ·obtain rfl:=ib.1 hk;exact hj a w Q hs hp ft hq
theorem bHm {i:Nat} {o:Oper} {Post:Value->List Row->Prop} {al:Nat} {ab:AI} (hi:ops[i]? =some o) (hg: ∀a,Sat n L a->Region.wanted o (yielded ops a.tmps)=true) (ha:Ac P n B w0 o.op o.type L R Post)
  (hn: ∀v a,Sat n L a->Sat n (match o.dst with|some d=>(d,v)::L|none=>L) (a.put o.dst v))
  (h: ∀v R',Post v R'->(OX ops ab i=true\/ ∀w,Hp B w0 w R'->Hp B w0 w R)/\WD P n B w0 ops K al (ab.setIfInBounds i true) (match o.dst with|some d=>(d,v)::L|none=>L) R'):aMa P n B w0 ops K al ab L R i:=by
 intro a w Q hs hp ft hq;unfold wpOp;simp only[hi,hg a hs,Fz];refine .inl (ha a w o _ Q rfl rfl hs hp λv w' R' cm hv=> ?_);obtain⟨h1,h2⟩:=h v R' hv;exact⟨λw=>Hp B w0 w R',cm,h1,h2 _ w' Q (hn v a hs) cm ft hq⟩
theorem YM {d:Nat} {Post:Value->List Row->Prop} {al:Nat} {ab:AI} (i:Nat) (hi:ops[i]? =some {dst:=some d,op:=op,type:=ty,pos:=pos,after:=nc,guard:=none}) (hn:Nat.blt d n=true) (ha:Ac P n B w0 op ty L R Post)
  (h: ∀v R',Post v R'->(OX ops ab i=true\/ ∀w,Hp B w0 w R'->Hp B w0 w R)/\WD P n B w0 ops K al (ab.setIfInBounds i true) ((d,v)::L) R'):aMa P n B w0 ops K al ab L R i:=
 bHm hi (λ_ _=>rfl) ha (λv _ hs=>hs.put hn v) h
end
end Go.Eng
namespace Go.Eng
open Go Go.RowKit
variable {w:World} {A:AF} {m c l h:Nat} {xs:AH}
theorem Rd.cutI {k:IntKind} (hr:Rd w A m c 1 (ints k xs)) (h1:l<=h) (h2:h<=m):Rd w (jE A l c 1) (h-l) (c-l) 1 (ints k ((xs.drop l).take (h-l))):=
 RdC.cutI (hr.c []) h1 h2 w (Hp.refl _)
theorem Rd.fromI {k:IntKind} (hr:Rd w A m c 1 (ints k xs)) (h1:l<=m):Rd w (jE A l c 1) (m-l) (c-l) 1 (ints k (xs.drop l)):=
 RdC.fromI (hr.c []) h1 w (Hp.refl _)
theorem Rd.toI {k:IntKind} (hr:Rd w A m c 1 (ints k xs)) (h2:h<=m):Rd w A h c 1 (ints k (xs.take h)):=
 RdC.toI (hr.c []) h2 w (Hp.refl _)
theorem fZ {x:Int} (h:0<=x/\x<256):(Lit.int .u8 x).wf=true:=by
 have h1:IntKind.u8.min<=x:=h.1
 have h2:x<=IntKind.u8.max:=by
  have:IntKind.u8.max=255:=cC
  omega
 simp[Lit.wf,h1,h2]
theorem SlW.snoc {k:IntKind} {vals:AG} {ls:AD} {l:AH} (h:SlW k w vals ls) (hr:Rd w A m c 1 (ints k l)) (hwf: ∀x∈l,(Lit.int k x).wf=true) (hm:l.length<=140737488355327):SlW k w (vals++[.slice A m c]) (ls++[l]):=by
 obtain rfl:=hr.lenI;refine⟨by rw[ah,ah,h.1];rfl,λj hj=> ?_⟩;rcases fo j ls.length with a|a
 ·obtain ⟨A',c',h1,h2,h3,h4⟩:=h.2 j a
  have e:(ls++[l]).getD j []=ls.getD j []:=by
   rw[ak,ak,ji a]
  rw[e];exact⟨A',c',by rw[ji (by rw[h.1];exact a)];exact h1,h2,h3,h4⟩
 ·have yd:j=ls.length:=by rw[ah] at hj;simp at hj;omega
  have e:(ls++[l]).getD j []=l:=by
   rw[ak,yd,ig (di _)];simp
  rw[e];refine⟨A,c,?_,hr,hwf,hm⟩;rw[yd,<-h.1,ig (di _)];simp
section
variable {P:Program} {n:Nd} {B:Nat} {w0:World} {L:Env} {R:List Row} {ty:TypeId}
end
section
variable {P:Program} {n:Nd} {B:Nat} {w0:World} {L:Env} {R:List Row} {ty:TypeId}
def WRd (P:Program) (n:Nd) (B:Nat) (w0:World) (c:Code) (Q:fC):Nat->Env->List Row->Prop
 |0,_,_=>False
 |m+1,L,R=>W P n B w0 c {Q with nrm:=WRd P n B w0 c Q m} L R
theorem mR {c:Code} {Q:fC} (m:Nat) (h:WRd P n B w0 c Q m L R):W P n B w0 (.loop c) Q L R:=by
 intro a w hs hp;refine wpIn_loop_rounds m ?_
 have key: ∀(m:Nat) (L:Env) (R:List Row) (a:Act) (w:World),Sat n L a->Hp B w0 w R->WRd P n B w0 c Q m L R->Code.roundsIn (NF n.rd) 0 P c (PQ n B w0 Q) m a w:=by
  intro m
  induction m with
  |zero=>intro L R a w _ _ h;exact h.elim
  |succ m ih=>
   intro L R a w hs hp h;rw[roundsIn_succ];refine Bf (h a w hs hp) ?_;intro e a' w' hq;cases e with
   |normal=>obtain⟨L',R',ee,cm,hw⟩:=hq;exact ih _ _ _ _ ee cm hw
   |exit id=>exact hq
   |goto l=>exact hq
   |ret=>exact hq
   |panic ch=>exact hq
   |outgrown=>exact hq
 exact key m L R a w hs hp h
theorem dY {c:Code} {Q:fC} {m:Nat} (h:W P n B w0 c {Q with nrm:=WRd P n B w0 c Q m} L R):WRd P n B w0 c Q (m+1) L R:=h
theorem bHg {t:TypeId} {x ix:Operand} {u i v:Value} (hx:ev L x=some u) (hi:ev L ix=some i) (h: ∀w,(Instr.index t u i).run P w= .ok v w):Yl P n B w0 (.index t x ix) ty L R v:=by
 intro a w o ho _ hs _;simp[execOp,ho,hs.ev hx,hs.ev hi,h]
theorem bQi {f:FuncId} {fn:Func} {c:Code} {args:AG} {R:List Row} {Post:Value->List Row->Prop} {p r2:Nat} {ty:TypeId} {d:TypeDesc} {sz:Nat} (hf:P.funcs[f]? =some fn) (hb:fn.body=some c) (hr:fn.results= #[.cell p ty, .tmp r2]) (hl:Nat.ble args.length fn.ntmps=true)
  (hu:P.underlying ty=some d) (hd:(match d with| .struct _| .array _ _=>true|_=>false)=true) (hi:(P.info? ty).map (·.size)=some sz)
  (h:W P fn.ntmps B w0 c ⟨λL R'=> ∃(g i:Nat) (r:Row),lk L p=some (.pointer (some ⟨g,0,none⟩))/\R'[i]? =some r/\r.ro=false/\r.A=some ⟨g,0,none⟩/\r.n=1/\r.c=1/\r.sz=sz/\ ∃u,lk L r2=some u/\ ∃R1,(∀w,Hp B w0 w R'->Hp B w0 w R1)/\Post (.tuple #[.agg r.xs.toArray,u]) R1,
   λL R'=> ∃(g i:Nat) (r:Row),lk L p=some (.pointer (some ⟨g,0,none⟩))/\R'[i]? =some r/\r.ro=false/\r.A=some ⟨g,0,none⟩/\r.n=1/\r.c=1/\r.sz=sz/\ ∃u,lk L r2=some u/\ ∃R1,(∀w,Hp B w0 w R'->Hp B w0 w R1)/\Post (.tuple #[.agg r.xs.toArray,u]) R1,λ_ _ _=>False⟩ (ini 0 args) R):Ct P f args.toArray B w0 R Post:=by
 intro w hw;have wj:args.length<=fn.ntmps:=au hl
 have fin: ∀(L':Env) (R':List Row) (a':Act) (w':World),Sat fn.ntmps L' a'->Hp B w0 w' R'->(∃(g i:Nat) (r:Row),lk L' p=some (.pointer (some ⟨g,0,none⟩))/\R'[i]? =some r/\r.ro=false/\r.A=some ⟨g,0,none⟩/\r.n=1/\r.c=1/\r.sz=sz/\ ∃u,lk L' r2=some u/\ ∃R1,(∀w,Hp B w0 w R'->Hp B w0 w R1)/\Post (.tuple #[.agg r.xs.toArray,u]) R1)->
   ∃v R1,(results fn a'.tmps).run P w'= .ok v w'/\Hp B w0 w' R1/\Post v R1:=by
  rintro L' R' a' w' ee cm ⟨g,i,r,h1,h2,h3,h4,h5,h6,h7,u,Ns,R1,h8,h9⟩;have ge:=Row.lies_w (cm.own r (fw h2)) h3;rcases ge.2 with⟨hn,_⟩|⟨g',cap,cur,hv,_,hg,_,_,lf,ht⟩
  ·rw[h4] at hn;cases hn
  ·rw [h4] at hv;simp only[ku,lv,Aj,Au,Ag] at hv;obtain⟨rfl,rfl⟩:=hv;rw[h5,h7,Aa] at ht;rw[h6,h7,Aa] at lf
   have e:cur=r.xs.toArray:=by
    rw[<-ht,bg (by rw[jr];omega)]
   have ph:a'.tmps[p]?.getD undef= .pointer (some ⟨g,0,none⟩):=by have:=ee.getD h1;simpa using this
   have Zw:=ee.val r2 u Ns
   have mw:(results fn a'.tmps).run P w'= .ok (.tuple #[.agg cur,u]) w':=by
    simp[results,hr,ph,Zw,asAddr,Jm w' g r.e ty cur (0,0) d hg hu hd (by rw[hi,lf])]
   refine⟨_,R1,mw,h8 _ cm,?_⟩;rw[e];exact h9
 refine calls_of_wp hf hb (wp_mono (wpIn_wide.1 (h _ w ⟨cH,rfl,λt v ht=> ?_⟩ hw)) ?_)
 ·obtain ⟨_,h2⟩:=WA args 0 t v ht;simp only[yo] at h2;have bc:=(dw.1 h2).1;rw[<-h2];simp[zo,bc]
 ·intro e a' w' hq;cases e with
  |normal=>
   obtain⟨L',R',ee,cm,hx⟩:=hq;obtain⟨v,R1,mw,hh,nh⟩:=fin L' R' _ _ ee cm hx;exact⟨ee.defers,v,mw,v,R1,rfl,hh,nh⟩
  |ret=>
   obtain⟨L',R',ee,cm,hx⟩:=hq;obtain⟨v,R1,mw,hh,nh⟩:=fin L' R' _ _ ee cm hx;exact⟨ee.defers,v,mw,v,R1,rfl,hh,nh⟩
  |exit id=>obtain⟨_,_,_,_,h⟩:=hq;exact h.elim
  |goto l=>exact hq
  |panic ch=>exact hq.elim
  |outgrown=>exact hq.elim
end
end Go.Eng
namespace Go.Eng
open Go Go.RowKit Go.Pure
section
variable {P:Program} {n:Nd} {B:Nat} {w0:World} {L:Env} {R:List Row} {ty:TypeId}
theorem aLn {x y:Int} (hx:0<=x/\x<256) (hy:0<=y/\y<256):(x.toNat.toUInt8==y.toNat.toUInt8)=decide (x=y):=by
 have e: ∀z:Int,0<=z/\z<256->((z.toNat.toUInt8).toNat:Int)=z:=λz hz=>by
  rw[Nat.toUInt8,Ci (by simp[UInt8.size];omega)];omega
 by_cases h:x=y
 ·subst h;simp
 ·rw [mr h];refine beq_eq_false_iff_ne.2 λg=>h ?_;have:=e x hx;have:=e y hy;rw[g] at*;omega
theorem aPp {u:AH} {c:Int} (hu:aP u) (hc:0<=c/\c<256) (hm:c∈u):
  (List.range (⟨(Lib.bytesOf u).toArray⟩:ByteArray).size).find? (λi=>(⟨(Lib.bytesOf u).toArray⟩:ByteArray)[i]! ==c.toNat.toUInt8)=some (idx u c).toNat:=by
 have hi:=sD hm
 have hsz:(⟨(Lib.bytesOf u).toArray⟩:ByteArray).size=u.length:=by
  show(Lib.bytesOf u).toArray.size=_;rw[ql,aDl]
 have rg: ∀(i:Nat) (h:i<u.length),(⟨(Lib.bytesOf u).toArray⟩:ByteArray)[i]! =(u[i]).toNat.toUInt8:=λi h=>by
  rw[uq _ i (by rw[hsz];exact h)];show(Lib.bytesOf u).toArray[i]'_=_;simp[Lib.bytesOf]
 refine List.find?_range_eq_some.2 ⟨?_,?_,?_⟩
 ·rw [rg _ G,aLn (hu _ (mf _)) hc];have:=VO hm;rw[fI hi.1 hi.2] at this;rw[mh this]
 ·rw[jq,hsz];omega
 ·intro j hj;rw[rg _ G,aLn (hu _ (mf _)) hc]
  have:u[j]≠c:=λg=>by
   unfold idx at hj hi;have:=Dn (xs:=u) (p:=λx=>x==c) (i:=j) G;simp[g] at this
  rw[mr this];rfl
theorem aDw {f:FuncId} {fn:Func} {x y:Operand} {ts:Array TypeId} {A:AF} {m c':Nat} {u:AH} {c:Int} (hf:P.funcs[f]? =some fn) (g6:(fn.name== "runtime.NumGoroutine")=false) (hb:fn.body.isNone=true) (hn:Extern.findNext fn=none) (he:Extern.find fn=some Extern.BytealgIndexByte.indexByte)
  (hx:ev L x=some (.slice A m c')) (hy:ev L y=some (.int .u8 c)) (h:RdC B w0 R A m c' 1 (ints .u8 u)) (hu:aP u) (hc:0<=c/\c<256) (hm:c∈u):
  Ac P n B w0 (.call {callee:= .value (.func f),args:=[x,y].toArray,argTypes:=ts}) ty L R (λv R'=>v= .int .i64 (idx u c)/\R'=R):=
 XH (vs:=[.slice A m c', .int .u8 c]) (by simp[evs,hx,hy]) λw hw=>⟨_,w,R,by
  rw[Fq hf g6 hb hn he];rw[show [Value.slice A m c',Value.int .u8 c].toArray= #[.slice A m c', .int .u8 c] from rfl]
  change (Sem.run P (do
   let b<-Extern.Bytes.bytesOf (.slice A m c')
   let c<-Extern.Bytes.asByte (.int .u8 c)
   match (List.range b.size).find? λi=>b[i]! ==c with
   |some i=>pure (goInt i)
   |none=>pure (goInt (-1))) w).andThen _=_
  simp only[kg,vV (h w hw),jw,Extern.Bytes.asByte,ny,aPp hu hc hm];rfl,hw,by
  show Value.int .i64 (((idx u c).toNat:Nat):Int)=_;have:=sD hm
  rw[show(((idx u c).toNat:Nat):Int)=idx u c by omega],rfl⟩
theorem jP {x:Int} (h0:0<=x) (h:x<18446744073709551616):IntKind.u64.wrap x=x:=by
 rw[Ig];omega
theorem nN {x:Int} (h0:0<=x) (h:x<256):IntKind.u8.wrap x=x:=by
 rw[Cm];omega
theorem aSy (x:Int) (h0:0<=x) (h1:x<18446744073709551616) (j:IntKind) (k:Nat) (hk:k<=64) (w:World):(Op.shift .shr .u64 x j (k:Int)).run P w= .ok (.int .u64 (x/2^k)) w:=by
 have hn: ¬((k:Int)<0):=G
 have hm:min (k:Int).toNat (IntKind.bits .u64)=k:=by
  have:IntKind.bits .u64=64:=rfl;omega
 have he:Int.fdiv x (2^k)=x/2^k:=Bn _ (by exact vz G);unfold Op.shift;simp only[hn,hm,he,xk];rfl
theorem bHd {x y:Operand} {t u:TypeId} {a:Int} {j:IntKind} {k:Nat} (hx:ev L x=some (.int .u64 a)) (hy:ev L y=some (.int j (k:Int))) (h0:0<=a) (h1:a<18446744073709551616) (hk:Nat.ble k 64=true):Yl P n B w0 (.binOp .shr t x y u) ty L R (.int .u64 (a/2^k)):=by
 intro a' w o ho _ hs _;simp[execOp,ho,hs.ev hx,hs.ev hy,binOp,eqGuard,aSy a h0 h1 j k (au hk)]
end
end Go.Eng
