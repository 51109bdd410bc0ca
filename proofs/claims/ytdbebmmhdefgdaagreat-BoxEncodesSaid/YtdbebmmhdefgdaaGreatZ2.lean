/- Own work. -/
import Derived.Lib.BytesEntry
import Derived.Lib.AppendZeros
import Derived.Lib.MakeNoZero
import Derived.Laws.Externs
import Derived.Stop.BytesEq
import Derived.LoopNIn
import Derived.Test.YtdbebmmhdefgdaaGreatZ1
set_option linter.unusedVariables false
set_option linter.unusedSimpArgs false
set_option maxHeartbeats 8000000
namespace Go.Pure
open Go Go.Eng
variable {L s:AH} {k:Int} {ws:AD} {l:AE}
def ps (L:AH) (k:Int):Int:=(L.take k.toNat).sum
theorem lY (h0:0<=k) (h:k<L.length):ps L (k+1)=ps L k+rd L k:=by
 unfold ps;rw[dJ h0 h,Ci];simp
theorem aEg (h:L.length<=k):ps L k=L.sum:=by
 unfold ps;rw[bi G]
def iC (s L:AH) (k:Int):AD:=(List.range k.toNat).map λi:Nat=>(s.drop (ps L i).toNat).take (rd L i).toNat
theorem vR (h0:0<=k):iC s L (k+1)=iC s L k++[(s.drop (ps L k).toNat).take (rd L k).toNat]:=by
 unfold iC;rw[show(k+1).toNat=k.toNat+1 by omega,zm,iv];simp only[ko,qx];rw[show((k.toNat:Nat):Int)=k by omega]
theorem uJ (s L:AH) (k:Int):(iC s L k).length=k.toNat:=by simp[iC]
theorem JL: ∀ {L:AH},(∀x∈L,0<x)->(L.length:Int)<=L.sum
 |[],_=>cD
 |x::L,h=>by
  have a:=h x cD;have b:=JL (L:=L) λy hy=>h y (fo _ hy);simp only[dn,uh];omega
theorem XX {L:AH} (h: ∀x∈L,0<x) (k:Nat):(L.take k).sum<=L.sum:=by
 have e:L.sum=(L.take k).sum+(L.drop k).sum:=by rw[<-Ci,gy]
 have:=JL (L:=L.drop k) λy hy=>h y (ny hy);omega
theorem FP {L:AH} (h: ∀x∈L,0<x) (k:Int):0<=ps L k:=by
 have:=JL (L:=L.take k.toNat) λy hy=>h y (lc hy);unfold ps;omega
theorem bI (h0:0<=k) (h:k<L.length):rd L k∈L:=by
 unfold rd;rw[ai,av G];exact mg _
theorem GZ {s L:AH} (hL: ∀x∈L,0<x) (hs:L.sum<=s.length): ∀k:Nat,k<=L.length->(iC s L k).flatten=s.take (ps L k).toNat
 |0,_=>rfl
 |k+1,hk=>by
  have h0:(0:Int)<=(k:Int):=G
  have ov:(k:Int)<L.length:=G
  have hp:=FP hL k;have hr:=hL _ (bI h0 ov);have e:((k+1:Nat):Int)=(k:Int)+1:=G
  rw[e,vR h0,lq,GZ hL hs k G,lY h0 ov,show(ps L k+rd L k).toNat=(ps L k).toNat+(rd L k).toNat by omega,Ht];simp
theorem aAo: ∀(f:Nat) (s:AH),∀x∈PZ f s,0<x
 |0,s,x,h=>by cases h
 | f+1,s,x,h=>by
  unfold PZ at h;cases s with
  |nil=>cases h
  | cons a s=>
   simp only[Db,wu,xx] at h;rcases jc.1 h with rfl|h
   ·have:=rC (s:=a::s) cD (a::s).length cD;omega
   ·exact aAo f _ x h
theorem rF (s:AH): ∀x∈dN s,0<x:=aAo _ _
theorem aAn: ∀(f:Nat) (s:AH),s.length<=f->(PZ f s).sum=s.length
 |0,s,h=>by
  have:s=[]:=Ah.1 G;subst this;rfl
 | f+1,s,h=>by
  unfold PZ;cases s with
  |nil=>rfl
  |cons a s=>
   simp only[Db,wu,xx];have h1:=rC (s:=a::s) cD (a::s).length cD;have h2:=SG (a::s) (a::s).length;rw[uh,aAn f _ (by rw[az];omega),az];omega
theorem DW (s:AH):(dN s).sum=s.length:=aAn _ _ (dx _)
theorem DX (s:AH):(dN s).length<=s.length:=by
 have:=JL (rF s);have:=DW s;omega
theorem bDt (s:AH) (k:Int):ps (dN s) k<=s.length:=by
 have:=XX (rF s) k.toNat;have:=DW s;unfold ps;omega
def bws (s:AH):AD:=iC s (dN s) (dN s).length
theorem nK (s:AH):(bws s).flatten=s:=by
 unfold bws;rw[GZ (rF s) (by rw[DW];omega) _ (dx _),aEg (mf _),DW];simp
theorem aJv (s:AH):(bws s).length=(dN s).length:=by unfold bws;rw[uJ];omega
theorem EM (hp:l.Perm (fG ws ws.length)):l.length=ws.flatten.length:=by
 rw[hp.length_eq,xY ws _ (dx _)];unfold oH;rw[ow]
theorem EJ (hp:l.Perm (fG (bws s) (bws s).length)):l.length=s.length:=by rw[EM hp,nK]
def lastB (ws:AD) (t:Int × Int):Int:=rd (rdl ws t.1) ((t.2+(rdl ws t.1).length-1)%((rdl ws t.1).length:Int))
theorem aMx {t:Int × Int} (h:TV ws t):lastB ws t∈ws.flatten:=by
 obtain⟨a,b,c,d⟩:=h;have hn:(0:Int)<(rdl ws t.1).length:=G
 have h1:=jv (t.2+(rdl ws t.1).length-1) (Int.ne_of_gt hn);have h2:=iy (t.2+(rdl ws t.1).length-1) hn;exact ug.2 ⟨_,aZr a b,bI h1 h2⟩
theorem kW (hp:l.Perm (fG ws ws.length)) (hb:aN ws.flatten):aN (l.map (lastB ws)):=by
 intro x hx;obtain⟨t,ht,rfl⟩:=ii.1 hx;exact hb _ (aMx (sD.1 (hp.subset ht)))
variable {l ks order keys at_:AH} {n:Nat} {i k c x m:Int}
theorem bL {m:AH} (hl:l.length=m.length) (h: ∀j:Int,0<=j->j<l.length->rd l j=rd m j):l=m:=by
 apply vg hl;intro i h1 h2;have:=h i G G;unfold rd at this;rw[cz,ai,ai,av h1,av h2] at this;exact this
theorem iL {f:Nat->Int} (h0:0<=i) (h:i<n):rd ((List.range n).map f) i=f i.toNat:=by
 unfold rd;rw[ai,ol,yw G];rfl
theorem uS:rd (List.replicate n 0) i=0:=by
 unfold rd;rw[ai,Ag];split<;>rfl
def eF (ks:AH) (k:Int):AH:=(List.range k.toNat).map λc:Nat=>((ks.filter λx=>decide (x=(c:Int))).length:Int)
theorem dY (ks:AH) (k:Int):(eF ks k).length=k.toNat:=by simp[eF]
theorem aBp (k:Int):eF [] k=List.replicate k.toNat 0:=by
 unfold eF;simp only[List.filter_nil,jb];apply vg cD;intro i h1 h2;simp
theorem CJ (h0:0<=c) (h:c<k):rd (eF ks k) c=((ks.filter λx=>decide (x=c)).length:Int):=by
 unfold eF;rw[iL h0 G];rw[show((c.toNat:Nat):Int)=c by omega]
theorem TH (h0:0<=x) (h:x<k):upd (eF ks k) x (rd (eF ks k) x+1)=eF (ks++[x]) k:=by
 refine bL (by rw[aX,dY,dY]) λj h1 h2=> ?_;rw[aX,dY] at h2;rw[gH h0 h1 (by rw[dY];omega),CJ (ks:=ks++[x]) h1 G,tq,ah];by_cases e:j=x
 ·subst e;rw[di rfl,CJ h1 G];simp
 ·rw [df e,CJ h1 G]
  have:([x].filter λy=>decide (y=j))=[]:=by
   rw[kz (by simp;exact λh=>e h.symm)];rfl
  rw[this];simp
def dD (cs:AH):AH:=(List.range cs.length).map λi:Nat=>ps cs i
theorem fH (cs:AH):(dD cs).length=cs.length:=by simp[dD]
theorem oD {cs:AH} (h0:0<=i) (h:i<cs.length):rd (dD cs) i=ps cs i:=by
 unfold dD;rw[iL h0 h];rw[show((i.toNat:Nat):Int)=i by omega]
def dX (order keys:AH) (c:Int):AH:=order.filter λi=>decide (rd keys i=c)
def cZ (order keys:AH):Nat->AH
 |0=>[]
 |c+1=>cZ order keys c++dX order keys c
theorem lZ (h:rd keys i=c):dX (order++[i]) keys c=dX order keys c++[i]:=by
 unfold dX;rw[tq,nz (by simpa using h)];rfl
theorem oI (h:rd keys i≠c):dX (order++[i]) keys c=dX order keys c:=by
 unfold dX;rw[tq,kz (by simpa using h)];simp
theorem zD (order keys:AH) (c:Int) (m:Nat):(dX (order.take m) keys c).length<=(dX order keys c).length:=
 ((List.take_sublist m order).filter _).length_le
theorem aOq (order keys:AH) (h0:0<=c) (h:c<k):rd (eF (order.map (rd keys)) k) c=(dX order keys c).length:=by
 rw[CJ h0 h,List.filter_map,bq];rfl
theorem FU (order keys:AH) {k:Int}: ∀c:Nat,(c:Int)<=k->ps (eF (order.map (rd keys)) k) c=(cZ order keys c).length
 |0,_=>rfl
 |c+1,h=>by
  rw[show((c+1:Nat):Int)=(c:Int)+1 by omega,lY G (by rw[dY];omega),FU order keys c G,aOq order keys G G];rw[cZ,ah];omega
theorem zU (order keys:AH) {c d:Nat} (h:c<d):(cZ order keys c).length+(dX order keys c).length<=(cZ order keys d).length:=by
 induction d with
 |zero=>omega
 | succ d ih=>
  rw[cZ,ah];rcases gm c d with a|a
  ·have:=ih a;omega
  ·have:c=d:=G
   subst this;omega
theorem oF {order:AH} {k:Nat} (hk: ∀i∈order,0<=rd keys i/\rd keys i<k):(cZ order keys k).Perm order:=by
 have Xg: ∀c:Nat,(cZ order keys c).Perm (order.filter λi=>decide (0<=rd keys i/\rd keys i<c)):=by
  intro c
  induction c with
  | zero=>
   have:(order.filter λi=>decide (0<=rd keys i/\rd keys i<(0:Nat)))=[]:=by
    rw[List.filter_eq_nil_iff];intro i _;simp only[zz];omega
   rw[this];exact .refl _
  | succ c ih=>
   rw[cZ];refine(ih.append_right _).trans ?_;unfold dX
   have e:order.filter (λi=>decide (rd keys i=(c:Int)))=(order.filter λi=>decide (0<=rd keys i/\rd keys i<(c+1:Nat))).filter (λi=> ! decide (0<=rd keys i/\rd keys i<(c:Int))):=by
    rw[List.filter_filter];refine List.filter_congr λi _=> ?_;by_cases h:rd keys i=(c:Int)
    ·rw [ni h,ni (show 0<=rd keys i/\rd keys i<((c+1:Nat):Int) by omega),qa (show¬(0<=rd keys i/\rd keys i<(c:Int)) by omega)];rfl
    ·rw [qa h];by_cases h2:0<=rd keys i/\rd keys i<(c:Int)
     ·rw[ni h2];simp
     ·rw[qa (show¬(0<=rd keys i/\rd keys i<((c+1:Nat):Int)) by omega)];simp
   have e2:order.filter (λi=>decide (0<=rd keys i/\rd keys i<(c:Nat)))=(order.filter λi=>decide (0<=rd keys i/\rd keys i<(c+1:Nat))).filter (λi=>decide (0<=rd keys i/\rd keys i<(c:Int))):=by
    rw[List.filter_filter];refine List.filter_congr λi _=> ?_;by_cases h2:0<=rd keys i/\rd keys i<(c:Int)
    ·rw[ni h2,ni (show 0<=rd keys i/\rd keys i<((c+1:Nat):Int) by omega)];rfl
    ·rw[qa h2];rfl
   rw[e,e2];exact List.filter_append_perm _ _
 have:=Xg k;rwa[Bu.2 (λi hi=>by rw[il];exact hk i hi)] at this
theorem ZG {order keys l:AH}: ∀k:Nat,(cZ order keys k).length<=l.length->(∀c:Nat,c<k-> ∀t:Nat,t<(dX order keys c).length->rd l ((cZ order keys c).length+t)=rd (dX order keys c) t)->l.take (cZ order keys k).length=cZ order keys k
 |0,_,_=>rfl
 |k+1,hl,h=>by
  have ih:=ZG (order:=order) (keys:=keys) (l:=l) k (by rw[cZ,ah] at hl;omega) λc hc=>h c G;rw[cZ,ah] at hl ⊢;rw[Ht,ih];congr 1;refine bL (by rw[ax,az];omega) λj h1 h2=> ?_;rw[ax,az] at h2;have:=h k G j.toNat G;rw[show((j.toNat:Nat):Int)=j by omega] at this;rw[<-this];unfold rd;rw[ai,ai,ou,di G,qz];congr 2;omega
structure EQ (order keys at_ l:AH) (k:Int) (m:Int):Prop where
 len:l.length=order.length
 alen:at_.length=k.toNat
 at_: ∀c:Int,0<=c->c<k->rd at_ c=(cZ order keys c.toNat).length+(dX (order.take m.toNat) keys c).length
 row: ∀c:Int,0<=c->c<k-> ∀t:Int,0<=t->t<(dX (order.take m.toNat) keys c).length->rd l ((cZ order keys c.toNat).length+t)=rd (dX (order.take m.toNat) keys c) t
theorem aEi:EQ order keys (dD (eF (order.map (rd keys)) k)) (List.replicate order.length 0) k 0:=by
 refine⟨cD,by rw[fH,dY],λc h0 h=> ?_,λc _ _ t _ ht=> ?_⟩
 ·rw [oD h0 (by rw[dY];omega)];have:=FU order keys (k:=k) c.toNat G;rw[show((c.toNat:Nat):Int)=c by omega] at this;rw[this];simp[dX]
 ·simp [dX] at ht;omega
theorem yI {order:AH} (hk: ∀i∈order,0<=rd keys i/\rd keys i<k):(cZ order keys k.toNat).length=order.length:=(oF (k:=k.toNat) λi hi=>by have:=hk i hi;omega).length_eq
theorem EQ.lt {order:AH} (h:EQ order keys at_ l k m) (hk: ∀i∈order,0<=rd keys i/\rd keys i<k) (h0:0<=m) (hm:m<order.length):0<=rd at_ (rd keys (rd order m))/\rd at_ (rd keys (rd order m))<l.length:=by
 have hi:=hk _ (bI h0 hm);rw[h.at_ _ hi.1 hi.2,h.len];have e:order.take (m+1).toNat=order.take m.toNat++[rd order m]:=dJ h0 hm;have h1:=zD order keys (rd keys (rd order m)) (m+1).toNat;rw[e,lZ rfl,ah,ib] at h1;have h2:=zU order keys (c:=(rd keys (rd order m)).toNat) (d:=k.toNat) G;rw[yI hk,show(((rd keys (rd order m)).toNat:Nat):Int)=rd keys (rd order m) by omega] at h2;omega
theorem EQ.step {order:AH} (h:EQ order keys at_ l k m) (hk: ∀i∈order,0<=rd keys i/\rd keys i<k) (h0:0<=m) (hm:m<order.length):EQ order keys (upd at_ (rd keys (rd order m)) (rd at_ (rd keys (rd order m))+1)) (upd l (rd at_ (rd keys (rd order m))) (rd order m)) k (m+1):=by
 have hi:=hk _ (bI h0 hm);have bp:=h.lt hk h0 hm;have e:order.take (m+1).toNat=order.take m.toNat++[rd order m]:=dJ h0 hm;have sr:=h.at_ _ hi.1 hi.2;refine⟨by rw[aX];exact h.len,by rw[aX];exact h.alen,λc c0 c1=> ?_,λc c0 c1 t t0 t1=> ?_⟩
 ·rw [gH hi.1 c0 (by rw[h.alen];omega),e];by_cases hc:c=rd keys (rd order m)
  ·rw [di hc,sr,lZ hc.symm,ah,hc];simp only[ib];omega
  ·rw[df hc,h.at_ c c0 c1,oI λh=>hc h.symm]
 ·rw [e] at t1 ⊢;have Mi: ∀c:Int,(dX (order.take m.toNat++[rd order m]) keys c).length<=(dX order keys c).length:=λc=>by rw[<-e];exact zD _ _ _ _
  rw[gH bp.1 G bp.2,sr];by_cases hc:c=rd keys (rd order m)
  ·subst hc;rw[lZ rfl] at t1 ⊢;rw[ah,ib] at t1;by_cases ht:t=(dX (order.take m.toNat) keys (rd keys (rd order m))).length
   ·rw[di G,PW ht]
   ·rw [df G,MF t0 G];exact h.row _ c0 c1 t t0 G
  ·rw [oI λh=>hc h.symm] at t1 ⊢;rw[df,h.row c c0 c1 t t0 t1];intro r8;have f1:=Mi c;rw[oI λh=>hc h.symm] at f1;have f2:=Mi (rd keys (rd order m));rw[lZ rfl,ah,ib] at f2;rcases Int.lt_or_lt_of_ne hc with a|a
   ·have:=zU order keys (c:=c.toNat) (d:=(rd keys (rd order m)).toNat) G;rw[show((c.toNat:Nat):Int)=c by omega] at this;omega
   ·have:=zU order keys (c:=(rd keys (rd order m)).toNat) (d:=c.toNat) G;rw[show(((rd keys (rd order m)).toNat:Nat):Int)=rd keys (rd order m) by omega] at this;omega
theorem EQ.done {order:AH} (h:EQ order keys at_ l k m) (hk: ∀i∈order,0<=rd keys i/\rd keys i<k) (hm:m=order.length):l=cZ order keys k.toNat:=by
 have ht:order.take m.toNat=order:=bi G
 have:=ZG (order:=order) (keys:=keys) (l:=l) k.toNat (by rw[yI hk,h.len];exact dx _) λc hc t Wg=>by
  have hr:=h.row c G G t G;rw[ht] at hr;exact hr G
 rw[yI hk,<-h.len,ow] at this;exact this
theorem iF {order keys:AH} {r:Int->Int->Prop} (ho:order.Pairwise r): ∀k:Nat,(cZ order keys k).Pairwise λx y=>rd keys x<rd keys y\/rd keys x=rd keys y/\r x y
 |0=> .nil
 | k +1=>by
  rw[cZ];refine kg.2 ⟨iF ho k,?_,λx hx y hy=> ?_⟩
  ·refine ((ho.sublist (uj ..)).imp_of_mem λ{x y} hx hy h=> ?_:(dX order keys k).Pairwise _);have h1:=(nu.1 hx).2;have h2:=(nu.1 hy).2;rw[il] at h1 h2;exact .inr ⟨G,h⟩
  ·have h2:=(nu.1 hy).2;rw[il] at h2
   have: ∀c:Nat,∀z∈cZ order keys c,rd keys z<c:=by
    intro c
    induction c with
    |zero=>intro z hz;cases hz
    | succ c ih=>
     intro z hz;rw[cZ] at hz;rcases dz.1 hz with hz|hz
     ·have:=ih z hz;omega
     ·have h3:=(nu.1 hz).2;rw[il] at h3;omega
   have:=this k x hx;exact .inl G
theorem OB:0<=rd (eF ks k) x/\rd (eF ks k) x<=ks.length:=by
 by_cases h:x.toNat<k.toNat
 ·have e:rd (eF ks k) x=((ks.filter λy=>decide (y=(x.toNat:Int))).length:Int):=by
   unfold rd eF;rw[ai,ol,yw h];rfl
  have:=yc (λy=>decide (y=(x.toNat:Int))) ks;omega
 ·have e:rd (eF ks k) x=0:=by
   unfold rd;rw[ai,lu (by rw[dY];omega)];rfl
  omega
theorem zL: ∀ {L:AH},(∀x∈L,0<=x)->0<=L.sum
 |[],_=>cD
 |x::L,h=>by
  have a:=h x cD;have b:=zL (L:=L) λy hy=>h y (fo _ hy);rw[uh];omega
theorem wM {L:AH} (h: ∀x∈L,0<=x) (k:Int):0<=ps L k/\ps L k<=L.sum:=by
 have e:L.sum=(L.take k.toNat).sum+(L.drop k.toNat).sum:=by rw[<-Ci,gy]
 have a:=zL (L:=L.take k.toNat) λy hy=>h y (lc hy);have b:=zL (L:=L.drop k.toNat) λy hy=>h y (ny hy);unfold ps;omega
theorem mP (ks:AH) (k:Int): ∀x∈eF ks k,0<=x:=by
 intro x hx;obtain⟨c,_,rfl⟩:=ii.1 hx;omega
theorem OA {order:AH} (h0:0<=k) (hk: ∀i∈order,0<=rd keys i/\rd keys i<k):(eF (order.map (rd keys)) k).sum=order.length:=by
 have:=FU order keys (k:=k) k.toNat G;rw[aEg (by rw[dY];omega),yI hk] at this;exact this
theorem fA {V:AH} {f:Int->Int} {v:Int} (h0:0<=i) (hi:i<V.length) (h: ∀j:Int,0<=j->j<i->rd V j=f j) (hv:v=f i): ∀j:Int,0<=j->j<i+1->rd (upd V i v) j=f j:=by
 intro j j0 j1;rw[gH h0 j0 hi];by_cases e:j=i
 ·rw[di e,e,hv]
 ·rw [df e];exact h j j0 G
variable {n k b h:Nat} {x i y j:Int} {s U out:AH}
def iota (n:Nat):AH:=(List.range n).map λi:Nat=>(i:Int)
theorem bD (n:Nat):(iota n).length=n:=by simp[iota]
theorem aZ:x∈iota n↔0<=x/\x<n:=by
 unfold iota;rw[ii];constructor
 ·rintro ⟨i,hi,rfl⟩;have:=jw.1 hi;omega
 ·intro h;exact⟨x.toNat,jw.2 G,G⟩
theorem GC {n:Int} (h:0<=n):iota (n+1).toNat=iota n.toNat++[n]:=by
 unfold iota;rw[show(n+1).toNat=n.toNat+1 by omega,zm,iv];simp only[ko,qx];rw[show((n.toNat:Nat):Int)=n by omega]
theorem aFd (n:Nat):(iota n).map Int.toNat=List.range n:=by
 unfold iota;rw[qo];have:(Int.toNat ∘ λi:Nat=>(i:Int))=id:=by funext i;simp
 rw[this,Jl]
def bY (s:AH) (x y:Int):Prop:=LtH s.length (eu s x.toNat) (eu s y.toNat)
theorem gI (x y:Int) (h:bY s x y): ¬bY s y x:=h.asymm
theorem zV (x y z:Int) (h:bY s x y) (h':bY s y z):bY s x z:=LtH.trans h h'
theorem aFr {i:Nat} (hi:i<s.length) (hk:k<s.length) (h:EqH s.length (eu s i) (eu s k)):i=k:=by
 rcases xw i k with a|a|a
 ·have:=h (s.length-k) G;rw[jO (s:=s) (i:=k) G] at this;have:=sP (s:=s) (i:=i) (d:=s.length-k) G;omega
 ·exact a
 ·have:=h (s.length-i) G;rw[jO (s:=s) (i:=i) G] at this;have:=sP (s:=s) (i:=k) (d:=s.length-i) G;omega
theorem CR (hx:0<=x/\x<s.length) (hy:0<=y/\y<s.length) (h:x≠y):bY s x y\/bY s y x:=by
 rcases tri s.length (eu s x.toNat) (eu s y.toNat) with a|a|a
 ·exact .inl a
 ·have:=aFr G G a;omega
 ·exact .inr a
theorem iE:cmpL (s.drop x.toNat) (s.drop y.toNat)<0↔bY s x y:=by
 unfold bY;rw[<-xL];unfold uA;rw[bi (by rw[az];omega),bi (by rw[az];omega)]
theorem aAb {r:Int->Int->Prop} (tr: ∀x y z,r x y->r y z->r x z) {l:AH} (hs:l.Pairwise r) (sf:0<=j) (hj:j<=l.length) (vn: ∀i:Int,j<=i->i<l.length->r x (rd l i)) (h:0<j->r (rd l (j-1)) x):(l.take j.toNat++[x]++l.drop j.toNat).Pairwise r:=by
 have gr: ∀i:Nat,∀h:i<l.length,rd l i=l[i]:=λi h=>by
  unfold rd;rw[cz,ai,av h];rfl
 have fj:(l.take j.toNat++l.drop j.toNat).Pairwise r:=by rw[gy];exact hs
 obtain⟨a,b,c⟩:=kg.1 fj;refine kg.2 ⟨kg.2 ⟨a,pu _ _,λy hy z hz=> ?_⟩,b,λy hy z hz=> ?_⟩
 ·obtain rfl:=ic.1 hz;obtain⟨i,hi,rfl⟩:=gz.1 hy;rw[ax] at hi;rw[xq];have hl:=h G;rw[show j-1=((j.toNat-1:Nat):Int) by omega,gr _ G] at hl;rcases gm i (j.toNat-1) with d|d
  ·exact tr _ _ _ (ed.1 hs i (j.toNat-1) G G d) hl
  ·have:i=j.toNat-1:=G
   subst this;exact hl
 ·rcases dz.1 hy with hy|hy
  ·exact c y hy z hz
  ·obtain rfl:=ic.1 hy;obtain⟨i,hi,rfl⟩:=gz.1 hz;rw[az] at hi;rw[zx];have:=vn ((j.toNat+i:Nat):Int) G G;rwa[gr _ G] at this
theorem aUw (bb:0<=i) (hi:i<s.length) (hp:U.Perm (iota i.toNat)) (hs:U.Pairwise (bY s)) (sf:0<=j) (hj:j<=U.length) (vn: ∀q:Int,j<=q->q<U.length->bY s i (rd U q))
  (h: ¬(0<j/\cmpL (s.drop i.toNat) (s.drop (rd U (j-1)).toNat)<0)):(U.take j.toNat++[i]++U.drop j.toNat).Perm (iota (i+1).toNat)/\(U.take j.toNat++[i]++U.drop j.toNat).Pairwise (bY s):=by
 refine⟨?_,aAb (λx y z=>zV x y z) hs sf hj vn λh0=> ?_⟩
 ·rw [GC bb];exact aAa.trans (Da _ hp)
 ·have hm:=aZ.1 (hp.subset (bI (L:=U) (k:=j-1) G G));rcases CR (s:=s) (x:=rd U (j-1)) (y:=i) G G G with a|a
  ·exact a
  ·exact absurd ⟨h0,iE.2 a⟩ h
theorem aNe (vn: ∀q:Int,j<=q->q<U.length->bY s i (rd U q)) (h:0<j/\cmpL (s.drop i.toNat) (s.drop (rd U (j-1)).toNat)<0): ∀q:Int,j-1<=q->q<U.length->bY s i (rd U q):=by
 intro q h1 h2;rcases bz q j with a|a
 ·have:q=j-1:=G
  subst this;exact iE.1 h.2
 ·exact vn q a h2
theorem aEm {a b:AH} (ha:a.Perm (iota s.length)) (hb:b.Perm (iota s.length)) (sa:a.Pairwise (bY s)) (sb:b.Pairwise (bY s)):a=b:=
 FW gI (ha.trans hb.symm) sa sb
theorem BU {i:Nat} (hi:i<s.length):rkS s h i<s.length:=by
 have:rkS s h i<(List.range s.length).countP λ_=>true:=sS (λ_ _ _=>rfl) ⟨i,jw.2 hi,by rw[uq,xL];exact λh=>h.asymm h,rfl⟩;simpa using this
theorem aZm {i:Nat} (hi:i<s.length) (hk:k<s.length) (h:rkS s s.length i=rkS s s.length k):i=k:=aFr hi hk ((aHw hi hk).1 h)
theorem aHv {o:AH} (hp:o.Perm (iota s.length)) (hs:o.Pairwise λx y=>rkS s h x.toNat<=rkS s h y.toNat) (h0:0<=i) (hi:i<o.length) (Oq:0<i->rkS s h (rd o (i-1)).toNat≠rkS s h (rd o i).toNat):(rkS s h (rd o i).toNat:Int)=i:=by
 have gr: ∀j:Nat,∀h:j<(o.map Int.toNat).length,(o.map Int.toNat)[j]=(rd o j).toNat:=λj h=>by
  rw[bq] at h;unfold rd;rw[cz,ai,av h];simp
 have hl:i.toNat<(o.map Int.toNat).length:=by rw[bq];omega
 have da:(o.map Int.toNat).Perm (List.range s.length):=by
  have:=hp.map Int.toNat;rwa[aFd] at this
 have:=bFv (s:=s) (h:=h) (o:=o.map Int.toNat) (i:=i.toNat) da (ik.2 hs) hl λhz=>by
  rw[gr _ G,gr _ hl];have:=Oq G;rwa[show((i.toNat-1:Nat):Int)=i-1 by omega,show((i.toNat:Nat):Int)=i by omega]
 rw[gr _ hl,show((i.toNat:Nat):Int)=i by omega] at this;omega
theorem places {b:AH} (hp:b.Perm (iota s.length)) (hs:b.Pairwise (bY s)) (hl:out.length=s.length) (h: ∀i:Nat,i<s.length->rd out (rkS s s.length i)=i):out=b:=by
 have zr:b.length=s.length:=by rw[hp.length_eq,bD]
 refine bL (hl.trans zr.symm) λj h0 h1=> ?_;have hm: ∀q:Int,0<=q->q<b.length->0<=rd b q/\rd b q<s.length:=λq a c=>aZ.1 (hp.subset (bI a c))
 have ox:b.Pairwise λx y=>rkS s s.length x.toNat<=rkS s s.length y.toNat:=hs.imp_of_mem λ{x y} hx hy h=>by
  have:=aZ.1 (hp.subset hx);exact Nat.le_of_lt ((wH G).2 h)
 have bp: ∀q:Int,0<q->q<b.length->bY s (rd b (q-1)) (rd b q):=λq a c=>by
  have:=ed.1 hs (q-1).toNat q.toNat G G G;unfold rd;rw[ai,ai,av G,av G];exact this
 have hr:=aHv (i:=j) hp ox h0 G λhz=>by
  have:=(wH (by have:=hm (j-1) G G;omega)).2 (bp j hz G);omega
 have hj:=hm j h0 G;have:=h (rd b j).toNat G;rw[hr] at this;rw[this];omega
theorem YX {m:Nat} (hm:m<s.length) (hl:out.length=s.length) (h: ∀i:Nat,i<m->rd out (rkS s s.length i)=i): ∀i:Nat,i<m+1->rd (upd out (rkS s s.length m) m) (rkS s s.length i)=i:=by
 intro i hi;have ht:=BU (h:=s.length) hm;rw[gH G G G];by_cases e:i=m
 ·subst e;rw[di rfl]
 ·rw[df λhh=>e (aZm G hm G),h i G]
theorem bFu {i:Nat} (hi:i<s.length):rkS s 1 i=s.countP λx=>decide (x<lt s i):=by
 unfold rkS
 have e: ∀k,k<s.length->uA s k 1=[lt s k]:=λk hk=>by
  unfold uA;rw[ll hk,List.take_succ_cons,zh];unfold lt;rw[ai,av hk];rfl
 have h1:(List.range s.length).countP (λk=>decide (cmpL (uA s k 1) (uA s i 1)<0))=(List.range s.length).countP ((λx=>decide (x<lt s i)) ∘ lt s):=by
  refine Gq λk hk=> ?_;rw[e k (jw.1 hk),e i hi];show decide (cmpL [lt s k] [lt s i]<0)=true↔decide (lt s k<lt s i)=true;rw[il,il];simp only[cmpL];by_cases a:lt s k<lt s i
  ·rw [di a];exact⟨λ_=>a,λ_=>G⟩
  ·rw [df a];by_cases b:lt s i<lt s k
   ·rw [di b];exact⟨λh=>G,λh=>absurd h a⟩
   ·rw [df b];exact⟨λh=>G,λh=>absurd h a⟩
 rw[h1,<-List.countP_map];congr 1;apply vg cD;intro k h1 h2;simp[lt,ai,av h2]
def rkL (s:AH) (h:Nat):AH:=(List.range s.length).map λi=>(rkS s h i:Int)
theorem BX (s:AH) (h:Nat):(rkL s h).length=s.length:=by simp[rkL]
theorem qY (h0:0<=i) (hi:i<s.length):rd (rkL s h) i=rkS s h i.toNat:=iL h0 G
def onL (s:AH) (n b:Nat):AH:=(List.range s.length).map λi=>(tH s n (i+b):Int)
theorem aIk (s:AH) (n b:Nat):(onL s n b).length=s.length:=by simp[onL]
theorem wI (h0:0<=i) (hi:i<s.length):rd (onL s n b) i=tH s n (i.toNat+b):=iL h0 G
theorem aHx {i:Nat}:tH s n i<=s.length:=by
 unfold tH;split
 ·rename_i h;have:=BU (h:=n) h;omega
 ·omega
def dG (s:AH) (n b:Nat):AH:=cZ (cZ (iota s.length) (onL s n b) (s.length+1)) (rkL s n) s.length
theorem uZ (s:AH) (n b:Nat):(cZ (iota s.length) (onL s n b) (s.length+1)).Perm (iota s.length):=
 oF λi hi=>by
  have:=aZ.1 hi;rw[wI this.1 this.2];have:=aHx (s:=s) (n:=n) (i:=i.toNat+b);omega
theorem gJ (s:AH) (n b:Nat):(dG s n b).Perm (iota s.length):=
 (oF λi hi=>by
  have:=aZ.1 ((uZ s n b).subset hi);rw[qY this.1 this.2];have:=BU (s:=s) (h:=n) (i:=i.toNat) G
  omega).trans (uZ s n b)
theorem IL (hn:0<n) (hb:b<=n):(dG s n b).Pairwise λx y=>rkS s (n+b) x.toNat<=rkS s (n+b) y.toNat:=by
 have h1:(cZ (iota s.length) (onL s n b) (s.length+1)).Pairwise λx y=>rd (onL s n b) x<rd (onL s n b) y\/rd (onL s n b) x=rd (onL s n b) y/\True:=
  iF (r:=λ_ _=>True) (List.pairwise_of_forall λ_ _=>trivial) _
 have h2:=iF (keys:=rkL s n) h1 s.length;refine h2.imp_of_mem λ{x y} hx hy h=> ?_;have mx:=aZ.1 ((gJ s n b).subset hx);have my:=aZ.1 ((gJ s n b).subset hy);rw[qY mx.1 mx.2,qY my.1 my.2,wI mx.1 mx.2,wI my.1 my.2] at h;refine Ik.1 λbp=> ?_;rw[aDu hn hb G G] at bp;omega
theorem join_step {v:Int} (hn:0<n) (hb:b<=n) (h0:0<=i) (hi:i<s.length) (hl:out.length=s.length) (h: ∀p:Int,0<=p->p<i->rd out (rd (dG s n b) p)=rkS s (n+b) (rd (dG s n b) p).toNat)
  (hv:(0<i/\rd (rkL s n) (rd (dG s n b) (i-1))=rd (rkL s n) (rd (dG s n b) i)/\rd (onL s n b) (rd (dG s n b) (i-1))=rd (onL s n b) (rd (dG s n b) i)/\v=rkS s (n+b) (rd (dG s n b) (i-1)).toNat)\/
   (¬(0<i/\rd (rkL s n) (rd (dG s n b) (i-1))=rd (rkL s n) (rd (dG s n b) i)/\rd (onL s n b) (rd (dG s n b) (i-1))=rd (onL s n b) (rd (dG s n b) i))/\v=i)):
  ∀p:Int,0<=p->p<i+1->rd (upd out (rd (dG s n b) i) v) (rd (dG s n b) p)=rkS s (n+b) (rd (dG s n b) p).toNat:=by
 have hlen:(dG s n b).length=s.length:=by rw[(gJ s n b).length_eq,bD]
 have hm: ∀q:Int,0<=q->q<s.length->0<=rd (dG s n b) q/\rd (dG s n b) q<s.length:=λq a c=>aZ.1 ((gJ s n b).subset (bI a G))
 have hnd:(dG s n b).Nodup:=(gJ s n b).symm.nodup (by
  unfold iota
  exact ik.2 (xe.imp λ{x y} h hh=>h G))
 have hval:v=rkS s (n+b) (rd (dG s n b) i).toNat:=by
  have mi:=hm i h0 hi;rcases hv with⟨hz,e1,e2,e3⟩|⟨yp,e3⟩
  ·have mp:=hm (i-1) G G;rw[qY mp.1 mp.2,qY mi.1 mi.2] at e1;rw[wI mp.1 mp.2,wI mi.1 mi.2] at e2;rw[e3];have:=(LV (s:=s) (n:=n) (b:=b) (i:=(rd (dG s n b) (i-1)).toNat) (k:=(rd (dG s n b) i).toNat) hn hb G G).2 ⟨G,G⟩;omega
  ·rw [e3];refine(aHv (gJ s n b) (IL hn hb) h0 G λhz he=>yp ⟨hz,?_⟩).symm;have mp:=hm (i-1) G G;have:=(LV (s:=s) (n:=n) (b:=b) (i:=(rd (dG s n b) (i-1)).toNat) (k:=(rd (dG s n b) i).toNat) hn hb G G).1 he;rw[qY mp.1 mp.2,qY mi.1 mi.2,wI mp.1 mp.2,wI mi.1 mi.2];exact⟨G,G⟩
 intro p p0 p1;have mi:=hm i h0 hi;have mp:=hm p p0 G;rw[gH mi.1 mp.1 G];by_cases e:p=i
 ·subst e;rw[di rfl,hval]
 ·rw [df,h p p0 G];intro he;have da:p.toNat<(dG s n b).length:=G
  have Pu:i.toNat<(dG s n b).length:=G
  unfold rd at he;rw[ai,ai,av da,av Pu] at he;simp only[oz] at he;exact(ed.1 hnd p.toNat i.toNat da Pu G) he
theorem aNb (hl:out.length=s.length) (h: ∀p:Int,0<=p->p<s.length->rd out (rd (dG s n b) p)=rkS s (n+b) (rd (dG s n b) p).toNat):out=rkL s (n+b):=by
 refine bL (hl.trans (BX _ _).symm) λj h0 h1=> ?_;have ft:=(gJ s n b).symm.subset (aZ.2 ⟨h0,G⟩:j∈iota s.length);obtain⟨q,hq,e⟩:=gz.1 ft;have hlen:(dG s n b).length=s.length:=by rw[(gJ s n b).length_eq,bD]
 have:=h q G G
 have e2:rd (dG s n b) q=j:=by
  unfold rd;rw[cz,ai,av hq];exact e
 rw[e2] at this;rw[this,qY h0 G]
def onF (l:AH) (i h:Int):Int:=if (l.length:Int)<=i+h then 0 else rd l (i+h)+1
theorem bGk {s:AH} {n b:Nat} {i:Int} (h0:0<=i) (hi:i<s.length):onF (rkL s n) i b=tH s n (i.toNat+b):=by
 unfold onF tH;rw[BX];by_cases h:(s.length:Int)<=i+b
 ·rw [di h,df G];rfl
 ·rw [df h,di G,qY G G,show(i+(b:Int)).toNat=i.toNat+b by omega];rfl
theorem aRr {s:AH} {h:Nat}: ∀x∈rkL s h,0<=x/\x<s.length:=by
 intro x hx;obtain⟨i,hi,rfl⟩:=ii.1 hx;have:=BU (h:=h) (jw.1 hi);omega
theorem bGj {s:AH} {n b:Nat}: ∀x∈onL s n b,0<=x/\x<(s.length:Int)+1:=by
 intro x hx;obtain⟨i,hi,rfl⟩:=ii.1 hx;have:=aHx (s:=s) (n:=n) (i:=i+b);omega
theorem aIt {O:AH} {n:Nat} (hl:O.length=n) (h: ∀j:Int,0<=j->j<n->rd O j=j):O=iota n:=by
 refine bL (by rw[hl,bD]) λj h0 h1=> ?_;rw[h j h0 G];unfold iota;rw[iL h0 G];omega
theorem bGi {s O:AH} {n b:Nat} (hl:O.length=s.length) (h: ∀j:Int,0<=j->j<s.length->rd O j=tH s n (j.toNat+b)):O=onL s n b:=by
 refine bL (by rw[hl,aIk]) λj h0 h1=> ?_;rw[h j h0 G,wI h0 G]
theorem SN (s:AH) (n b:Nat):(dG s n b).length=s.length:=by rw[(gJ s n b).length_eq,bD]
theorem gK {s:AH} {n b:Nat} {p:Int} (h0:0<=p) (h:p<s.length):0<=rd (dG s n b) p/\rd (dG s n b) p<s.length:=
 aZ.1 ((gJ s n b).subset (bI h0 (by rw[SN];exact h)))
theorem aNc {s:AH} {n b:Nat} {p q:Int} (p0:0<=p) (p1:p<s.length) (q0:0<=q) (q1:q<s.length) (h:rd (dG s n b) p=rd (dG s n b) q):p=q:=by
 have hl:=SN s n b
 have hnd:(dG s n b).Nodup:=(gJ s n b).symm.nodup (by
  unfold iota
  exact ik.2 (xe.imp λ{x y} h hh=>h G))
 have hp:p.toNat<(dG s n b).length:=G
 have hq:q.toNat<(dG s n b).length:=G
 unfold rd at h;rw[ai,ai,av hp,av hq] at h;simp only[oz] at h;rcases jk p q with a|a|a
 ·exact absurd h (ed.1 hnd p.toNat q.toNat hp hq G)
 ·exact a
 ·exact absurd h.symm (ed.1 hnd q.toNat p.toNat hq hp G)
theorem aYm {l:AH} {i a b:Int}:upd (upd l i a) i b=upd l i b:=by simp[upd]
section
variable {s V:AH} {n b:Nat} {p:Int}
theorem aFc (hn:0<n) (hb:b<=n) (h0:0<=p) (hp:p<s.length) (hl:V.length=s.length) (h: ∀q:Int,0<=q->q<p->rd V (rd (dG s n b) q)=rkS s (n+b) (rd (dG s n b) q).toNat)
  (hc: ¬((0<p/\rd (rkL s n) (rd (dG s n b) (p-1))=rd (rkL s n) (rd (dG s n b) p))/\rd (onL s n b) (rd (dG s n b) (p-1))=rd (onL s n b) (rd (dG s n b) p))):
  ∀q:Int,0<=q->q<p+1->rd (upd V (rd (dG s n b) p) p) (rd (dG s n b) q)=rkS s (n+b) (rd (dG s n b) q).toNat:=
 join_step hn hb h0 hp hl h (.inr ⟨λ⟨a,c,d⟩=>hc ⟨⟨a,c⟩,d⟩,rfl⟩)
theorem aNa (hn:0<n) (hb:b<=n) (h0:0<=p) (hp:p<s.length) (hl:V.length=s.length) (h: ∀q:Int,0<=q->q<p->rd V (rd (dG s n b) q)=rkS s (n+b) (rd (dG s n b) q).toNat)
  (hc:(0<p/\rd (rkL s n) (rd (dG s n b) (p-1))=rd (rkL s n) (rd (dG s n b) p))/\rd (onL s n b) (rd (dG s n b) (p-1))=rd (onL s n b) (rd (dG s n b) p)):
  ∀q:Int,0<=q->q<p+1->rd (upd (upd V (rd (dG s n b) p) p) (rd (dG s n b) p) (rd (upd V (rd (dG s n b) p) p) (rd (dG s n b) (p-1)))) (rd (dG s n b) q)=rkS s (n+b) (rd (dG s n b) q).toNat:=by
 obtain⟨⟨a,c⟩,d⟩:=hc;have m1:=gK (s:=s) (n:=n) (b:=b) h0 hp;have m2:=gK (s:=s) (n:=n) (b:=b) (p:=p-1) G G;rw[aYm,gH m1.1 m2.1 G,df λe=>by have:=aNc G G h0 hp e;omega];exact join_step hn hb h0 hp hl h (.inl ⟨a,c,d,h (p-1) G G⟩)
end
theorem aZk (s:AH) (i:Nat):rkS s 0 i=0:=by
 unfold rkS;rw[Bt];intro k _;simp[uA,cmpL]
theorem aRp (s:AH):rkL s 0=List.replicate s.length 0:=by
 unfold rkL;apply vg cD;intro i h1 h2;simp[aZk]
theorem bFw {s:AH} {h:Nat} (hh:s.length<=h):rkL s h=rkL s s.length:=by
 have e: ∀k,uA s k h=uA s k s.length:=λk=>by
  unfold uA;rw[bi (by rw[az];omega),bi (by rw[az];omega)]
 unfold rkL rkS;simp only[e]
theorem aRq {s:AH} (h:s.length=0) (a b:Nat):rkL s a=rkL s b:=by
 unfold rkL;rw[h];rfl
theorem eT (n:Nat):(iota n).Nodup:=by
 unfold iota;exact ik.2 (xe.imp λ{x y} h hh=>h G)
theorem qE (s:AH): ∃b:AH,b.Perm (iota s.length)/\b.Pairwise (bY s):=by
 rcases ek s.length with z|z
 ·rw [z];exact⟨[], .refl _, .nil⟩
 ·refine ⟨dG s s.length 0,gJ s _ 0,?_⟩;have h1:=IL (s:=s) (n:=s.length) (b:=0) z (qg _);have h2:(dG s s.length 0).Nodup:=(gJ s _ 0).symm.nodup (eT _);refine(h1.and h2).imp_of_mem λ{x y} hx hy h=> ?_;have mx:=aZ.1 ((gJ s _ 0).subset hx);have my:=aZ.1 ((gJ s _ 0).subset hy);rcases CR mx my h.2 with a|a
  ·exact a
  ·exfalso;have:=(wH (s:=s) (h:=s.length) (i:=y.toNat) (k:=x.toNat) G).2 a;have:=h.1;simp only[qp] at this;omega
end Go.Pure
namespace Go.Eng
open Go Go.RowKit
def bools (l:List Bool):AG:=l.map Value.bool
def rdb (l:List Bool) (i:Int):Bool:=l.getD i.toNat false
def qR (l:List Bool) (i:Int) (v:Bool):List Bool:=l.set i.toNat v
theorem WN (l:List Bool):(bools l).length=l.length:=by simp[bools]
theorem aOw (l:List Bool) (i:Int) (v:Bool):(bools l).set i.toNat (.bool v)=bools (qR l i v):=by simp[bools,qR,List.map_set]
theorem aXm {l:List Bool} {i:Int} (h0:0<=i) (h:i<l.length):(bools l)[i.toNat]? =some (.bool (rdb l i)):=by
 have hl:i.toNat<l.length:=G
 simp[bools,rdb,ai,av hl]
theorem aLy (m:Nat) (x:Bool):List.replicate m (Value.bool x)=bools (List.replicate m x):=by simp[bools]
theorem lU (l:List Bool) (i:Int) (v:Bool):(qR l i v).length=l.length:=by simp[qR]
theorem yE {l:List Bool} {i j:Int} {v:Bool} (h0:0<=i) (h:i<l.length) (j0:0<=j):rdb (qR l i v) j=if j=i then v else rdb l j:=by
 unfold rdb qR;rw[ai,xm,ai];by_cases e:j=i
 ·subst e;rw[di rfl,di G,di rfl];rfl
 ·rw[df G,df e]
theorem JR (m:Nat) (i:Int):rdb (List.replicate m false) i=false:=by
 unfold rdb;rw[ai,Ag];split<;>rfl
theorem aOx {l m:List Bool} (hl:l.length=m.length) (h: ∀i:Int,0<=i->i<l.length->rdb l i=rdb m i):l=m:=by
 apply vg hl;intro i h1 h2;have:=h i G G;simpa [rdb,ai,av h1,av h2] using this
section
variable {P:Program} {n:Nd} {B:Nat} {w0:World} {L:Env} {R:List Row} {ty:TypeId}
theorem Rd.lenB {w:World} {A:AF} {m c:Nat} {l:List Bool} (h:Rd w A m c 1 (bools l)):m=l.length:=by
 have:=h.len;rw[WN] at this;omega
theorem GY {x:Operand} {t:TypeId} {d:TypeDesc} {A:AF} {m c:Nat} {l:List Bool} {i:Int} (hu:P.underlying t=some d) (hd:GX d=false) (hx:ev L x=some (.pointer (pat A i.toNat))) (hr:RdC B w0 R A m c 1 (bools l)) (h0:0<=i:=by omega) (h1:i<m:=by omega):
  Yl P n B w0 (.load t x) ty L R (.bool (decide (rdb l i=true))):=by
 intro a w o ho Hk hs hw;have hl:=(hr w hw).lenB;rw[show decide (rdb l i=true)=rdb l i by cases rdb l i<;>rfl];exact lC hu hd hx rfl hr (aXm h0 G) a w o ho Hk hs hw
theorem xR {x y:Operand} {t e:TypeId} {j:Int} {v:Bool} {A:AF} {m c:Nat} {l:List Bool} (i:Nat) (hi:R[i]? =some ⟨e,1,A,m,c,bools l,false⟩) (ge:(P.info? t).map (·.size)=some 1) (hx:ev L x=some (.pointer (pat A j.toNat))) (hy:ev L y=some (.bool v)) (h0:0<=j:=by omega) (h1:j<m:=by omega):
  Ac P n B w0 (.store t x y) ty L R (λ_ R'=>R'=R.set i ⟨e,1,A,m,c,bools (qR l j v),false⟩):=by
 intro a w o K Q ho Hk hs hp hk;have ij:=Row.lies_w (hp.own _ (gu hi)) rfl;have gr:=Row.rd (hp.own _ (gu hi));have hl:=gr.len
 obtain⟨g,hA⟩: ∃g,A=some ⟨g,0,none⟩:=by
  rcases ij.2 with⟨_,hn⟩|⟨g,cap,cur,hv,_⟩
  ·simp only at hn;omega
  ·simp only[ku] at hv;exact⟨g,hv.1⟩
 have:=WU (P:=P) (n:=n) (B:=B) (w0:=w0) (ty:=ty) i hi rfl hA ge hx rfl hy rfl rfl (by rw[hl];simp only;omega);simp only[aOw] at this;exact this a w o K Q ho Hk hs hp hk
theorem WW {x y:Operand} {t e:TypeId} {bytes:Nat} {m:Int} (ht:P.underlying t=some (.slice e)) (dt:(P.info? e).map (λi=>(i.zero,i.size,i.bytes))=some (some (.bool false),1,bytes))
  (hx:ev L x=some (.int .i64 m)) (hy:ev L y=some (.int .i64 m)) (h0:0<=m) (hm:m*bytes<=281474976710656) (Jf:m<=9223372036854775807):
  Ac P n B w0 (.makeSlice t x y) ty L R (λv R'=> ∃g,v= .slice (some ⟨g,0,none⟩) m.toNat m.toNat/\R'=⟨e,1,some ⟨g,0,none⟩,m.toNat,m.toNat,bools (List.replicate m.toNat false),false⟩::R):=by
 have:=aKc (P:=P) (n:=n) (B:=B) (w0:=w0) (L:=L) (R:=R) (ty:=ty) ht dt rfl hx hy h0 hm Jf;simpa only[aLy] using this
end
end Go.Eng
namespace Go.Pure
open Go Go.Eng
def smB (s:AH) (i:Int):Bool:=decide (cmpL (s.drop i.toNat) (s.drop (i+1).toNat)<0)
theorem zG {a b:Int} {u v:AH}:cmpL (a::u) (b::v)<0↔a<b\/a=b/\cmpL u v<0:=by
 rw[cmpL];rcases jk a b with c|c|c
 ·rw[di c];exact⟨λ_=> .inl c,λ_=>G⟩
 ·subst c;rw[df G,df G];exact⟨λh=> .inr ⟨rfl,h⟩,λh=>h.elim (λh=>G) λh=>h.2⟩
 ·rw [df G,di c];exact⟨λh=>G,λh=>h.elim (λh=>G) λh=>G⟩
theorem iA {s:AH} {i:Int} (h0:0<=i) (h:i<s.length):s.drop i.toNat=rd s i::s.drop (i+1).toNat:=jE h0 h
theorem xK {s:AH} {i:Int} (h:(s.length:Int)<=i):s.drop i.toNat=[]:=qd G
theorem nD {s:AH} {p q:Int} (p0:0<=p) (hp:p<s.length) (q0:0<=q) (hq:q<s.length):bY s p q↔rd s p<rd s q\/rd s p=rd s q/\cmpL (s.drop (p+1).toNat) (s.drop (q+1).toNat)<0:=by
 rw[<-iE,iA p0 hp,iA q0 hq,zG]
theorem qW {s:AH} {i:Int} (h0:0<=i) (h:(s.length:Int)<=i+1):smB s i=false:=by
 unfold smB;rw[xK h,uq];by_cases a:i<s.length
 ·rw[iA h0 a];simp[cmpL]
 ·rw[xK G];simp[cmpL]
theorem vZ {s:AH} {i:Int} (h0:0<=i) (h:i+1<s.length):smB s i=true↔rd s i<rd s (i+1)\/rd s i=rd s (i+1)/\smB s (i+1)=true:=by
 unfold smB;rw[il,il,iA h0 G,iA (s:=s) (i:=i+1) G h,zG]
def isL (s:AH) (p:Int):Prop:=(0<=p/\p<s.length)/\smB s p=false
def isS (s:AH) (p:Int):Prop:=(0<=p/\p<s.length)/\smB s p=true
theorem rD {s:AH} {p:Int} (h:0<=p/\p<s.length):isL s p\/isS s p:=by
 cases e:smB s p with
 |false=>exact .inl ⟨h,e⟩
 |true=>exact .inr ⟨h,e⟩
theorem isL.not_S {s:AH} {p:Int} (h:isL s p): ¬isS s p:=λh'=>by
 have a:=h'.2;rw[h.2] at a;cases a
theorem isL.next {s:AH} {p:Int} (h:isL s p) (hp:p+1<s.length):rd s (p+1)<=rd s p/\(rd s p=rd s (p+1)->isL s (p+1)):=by
 have hn: ¬smB s p=true:=by rw[h.2];simp
 rw[vZ h.1.1 hp] at hn;refine⟨Int.not_lt.1 λbp=>hn (.inl bp),λe=>⟨⟨by have:=h.1.1;omega,hp⟩,?_⟩⟩;cases e2:smB s (p+1) with
 |false=>rfl
 |true=>exact absurd (.inr ⟨e,e2⟩) hn
theorem isS.next {s:AH} {p:Int} (h:isS s p):p+1<s.length/\rd s p<=rd s (p+1)/\(rd s p=rd s (p+1)->isS s (p+1)):=by
 have hp:p+1<s.length:=by
  rcases bz (p+1) s.length with a|a
  ·exact a
  ·have:=qW h.1.1 a;rw[h.2] at this;cases this
 have hs:=(vZ h.1.1 hp).1 h.2;have h0:=h.1.1;refine⟨hp,G,λe=>⟨⟨G,hp⟩,?_⟩⟩;rcases hs with a|a
 ·omega
 ·exact a.2
theorem II {s:AH}: ∀(m:Nat) (p q:Int),s.length-p<=m->isL s p->isS s q->rd s p=rd s q->bY s p q
 |0,p,q,hm,hp,_,_=>by have:=hp.1;omega
 | m+1,p,q,hm,hp,hq,e=>by
  rw[nD hp.1.1 hp.1.2 hq.1.1 hq.1.2];refine .inr ⟨e,?_⟩;obtain⟨xa,Wf,Qm⟩:=hq.next;have q0:=hq.1.1;have p0:=hp.1.1;rcases bz (p+1) s.length with a|a
  ·obtain ⟨pe,wx⟩:=hp.next a;rw[iE (s:=s),nD G a G xa];rcases bz (rd s (p+1)) (rd s (q+1)) with b|b
   ·exact .inl b
   ·have e1:rd s p=rd s (p+1):=G
    have e2:rd s q=rd s (q+1):=G
    have:=II m (p+1) (q+1) G (wx e1) (Qm e2) G;rw[nD G a G xa] at this;exact this
  ·rw [xK a,iA G xa];simp[cmpL]
theorem aEt {s:AH} {p q:Int} (hp:isL s p) (hq:isS s q) (e:rd s p=rd s q):bY s p q:=II (s.length-p).toNat p q G hp hq e
theorem MV {s:AH} {p q:Int} (p0:0<=p) (hp:p+1<s.length) (q0:0<=q) (hq:q+1<s.length) (e:rd s p=rd s q) (h:bY s (p+1) (q+1)):bY s p q:=by
 rw[nD p0 G q0 G];exact .inr ⟨e,iE.2 h⟩
theorem tN {s:AH} {p q:Int} (hp:0<=p/\p<s.length) (hq:0<=q/\q<s.length) (h:rd s p<rd s q):bY s p q:=by
 rw[nD hp.1 hp.2 hq.1 hq.2];exact .inl h
theorem aTc {s:AH} {q:Int} (hn:0<s.length) (q0:0<=q) (hq:q+1<s.length) (e:rd s (s.length-1)=rd s q):bY s (s.length-1) q:=by
 rw[nD G G q0 G];refine .inr ⟨e,?_⟩;rw[xK G,iA G hq];simp[cmpL]
def gL (s:AH) (i:Int):Bool:=decide (0<i) && smB s i && !smB s (i-1)
theorem nG {s:AH} {i:Int}:gL s i=true↔0<i/\smB s i=true/\smB s (i-1)=false:=by
 unfold gL;rw[qi,qi,il];simp only[Bool.not_eq_true',and_assoc]
def bP (s:AH):AH:=(iota s.length).filter λi=>gL s i
theorem tX {s:AH} {i:Int}:i∈bP s↔(0<=i/\i<s.length)/\gL s i=true:=by
 unfold bP;rw[nu,aZ]
theorem zZ (s:AH):(bP s).Nodup:=(eT _).sublist uj
theorem oM {α:Type} [DecidableEq α]: ∀ {l m:List α},l.Nodup->(∀x∈l,x∈m)->l.length<=m.length
 |[],_,_,_=>qg _
 | a::l,m,hd,h=>by
  obtain⟨h1,h2⟩:=wo.1 hd;have ha:=h a cD
  have:=oM (l:=l) (m:=m.erase a) h2 λx hx=>by
   have hxa:x≠a:=λe=>h1 (e▸hx);exact(En hxa).2 (h x (fo _ hx))
  rw[Ca ha] at this;have hp:=Dc ha;simp only[dn];omega
theorem qZ {α:Type} [DecidableEq α]: ∀ {l m:List α},l.Nodup->(∀x∈l,x∈m)->m.length<=l.length->l.Perm m
 |[],m,_,_,h=>by
  have:m=[]:=dw (by simpa using h);rw[this]
 | a::l,m,hd,h,hl=>by
  obtain⟨h1,h2⟩:=wo.1 hd;have ha:=h a cD;have hp:=Dc ha
  have:=qZ (l:=l) (m:=m.erase a) h2 (λx hx=>by
   have hxa:x≠a:=λe=>h1 (e▸hx)
   exact(En hxa).2 (h x (fo _ hx))) (by
   rw[Ca ha];simp only[dn] at hl
   omega)
  exact(this.cons a).trans (List.perm_cons_erase ha).symm
def seg (row:AH) (a b:Int):AH:=(List.range (b-a).toNat).map λt:Nat=>rd row (a+t)
theorem aHs (row:AH) (a b:Int):(seg row a b).length=(b-a).toNat:=by simp[seg]
theorem JW {row:AH} {a b x:Int}:x∈seg row a b↔ ∃q,a<=q/\q<b/\rd row q=x:=by
 unfold seg;rw[ii];constructor
 ·rintro ⟨t,ht,rfl⟩;have:=jw.1 ht;exact⟨a+t,G,G,rfl⟩
 ·rintro ⟨q,h1,h2,rfl⟩;exact⟨(q-a).toNat,jw.2 G,by rw[show a+((q-a).toNat:Int)=q by omega]⟩
def Once (row:AH):Prop:= ∀q r:Int,0<=q->q<row.length->0<=r->r<row.length->0<=rd row q->rd row q=rd row r->q=r
theorem RD {row:AH} (h:Once row) {a b:Int} (ha:0<=a) (hb:b<=row.length) (hp: ∀q,a<=q->q<b->0<=rd row q):(seg row a b).Nodup:=by
 unfold seg;refine ik.2 (lv (λ{x y} hx hy cv he=> ?_) xe);have zc:=jw.1 hx;have hy':=jw.1 hy;have:=h (a+x) (a+y) G G G G (hp _ G G) he;exact cv G
section
variable (s:AH) (k:Int)
def st (c:Int):Int:=ps (eF s k) c
def JB (c:Int):AH:=(iota s.length).filter λp=>decide (rd s p=c) && !smB s p
def JA (c:Int):AH:=(iota s.length).filter λp=>decide (rd s p=c) && smB s p
end
section
variable {s:AH} {k:Int}
theorem NG {c p:Int}:p∈JB s c↔isL s p/\rd s p=c:=by
 unfold JB isL;rw[nu,aZ,qi,il];simp only[Bool.not_eq_true'];exact⟨λ⟨a,b,c⟩=>⟨⟨a,c⟩,b⟩,λ⟨⟨a,c⟩,b⟩=>⟨a,b,c⟩⟩
theorem NE {c p:Int}:p∈JA s c↔isS s p/\rd s p=c:=by
 unfold JA isS;rw[nu,aZ,qi,il];exact⟨λ⟨a,b,c⟩=>⟨⟨a,c⟩,b⟩,λ⟨⟨a,c⟩,b⟩=>⟨a,b,c⟩⟩
theorem aYs:st s k 0=0:=rfl
theorem mO (s:AH):(iota s.length).map (rd s)=s:=by
 refine bL (by rw[bq,bD]) λj h0 h1=> ?_;rw[bq,bD] at h1;have:(iota s.length).map (rd s)=(List.range s.length).map λi:Nat=>rd s i:=by unfold iota;rw[qo];rfl
 rw[this,iL h0 h1,show((j.toNat:Nat):Int)=j by omega]
theorem lD {c:Int} (h0:0<=c) (h:c<k):st s k (c+1)=st s k c+(JB s c).length+(JA s c).length:=by
 unfold st;rw[lY h0 (by rw[dY];omega),CJ h0 h]
 have e:(s.filter λx=>decide (x=c)).length=((iota s.length).filter λp=>decide (rd s p=c)).length:=by
  conv=>lhs;rw[<-mO s]
  rw[List.filter_map,bq];rfl
 have e2:((iota s.length).filter λp=>decide (rd s p=c)).length=(JB s c).length+(JA s c).length:=by
  unfold JB JA;generalize iota s.length=l
  induction l with
  |nil=>rfl
  | cons a l ih=>
   by_cases h:rd s a=c
   ·cases hb:smB s a with
    |true=>rw[nz (by simpa using h),kz (by simp[hb]),nz (by simp[h,hb])];simp only[dn];omega
    |false=>rw[nz (by simpa using h),nz (by simp[h,hb]),kz (by simp[hb])];simp only[dn];omega
   ·rw [kz (by simpa using h),kz (by simp[h]),kz (by simp[h])];exact ih
 rw[e,e2];omega
theorem lF {c d:Int} (h0:0<=c) (o8:c<d) (hd:d<=k):st s k (c+1)<=st s k d:=by
 obtain⟨m,rfl⟩: ∃m:Nat,d=c+1+m:=⟨(d-c-1).toNat,G⟩
 induction m with
 |zero=>simp
 |succ m ih=>
  have:=ih G G;have e:=lD (s:=s) (k:=k) (c:=c+1+m) G G;rw[show c+1+((m+1:Nat):Int)=c+1+m+1 by omega];omega
theorem fU {c:Int}:0<=st s k c:=(wM (mP s k) c).1
theorem aDh (hk:0<=k) (hs: ∀x∈s,0<=x/\x<k):st s k k=s.length:=by
 unfold st;rw[aEg (by rw[dY];omega)]
 have:=OA (order:=iota s.length) (keys:=s) (k:=k) hk λi hi=>by
  have:=aZ.1 hi;exact hs _ (bI this.1 this.2)
 rw[mO,bD] at this;exact this
theorem zB (hk:0<=k) (hs: ∀x∈s,0<=x/\x<k) {c:Int} (h0:0<=c) (h:c<=k):st s k c<=s.length:=by
 rcases bz c k with a|a
 ·have h1:=lD (s:=s) h0 a;have h2:=lF (s:=s) h0 a (mf k);rw[aDh hk hs] at h2;omega
 ·rw [show c=k by omega,aDh hk hs];omega
theorem iB (hk:0<=k) (hs: ∀x∈s,0<=x/\x<k) {q:Int} (q0:0<=q) (hq:q<s.length): ∃c,(0<=c/\c<k)/\st s k c<=q/\q<st s k (c+1):=by
 have Xg: ∀m:Nat,(m:Int)<=k->q<st s k m-> ∃c,(0<=c/\c<k)/\st s k c<=q/\q<st s k (c+1):=by
  intro m
  induction m with
  |zero=>intro _ h;rw[show((0:Nat):Int)=0 from rfl,aYs] at h;omega
  |succ m ih=>
   intro hm h;rcases bz q (st s k m) with a|a
   ·exact ih G a
   ·exact⟨m,G,a,by rw[show((m:Int)+1)=((m+1:Nat):Int) by omega];exact h⟩
 have:=Xg k.toNat G;rw[show((k.toNat:Nat):Int)=k by omega,aDh hk hs] at this;exact this hq
theorem oV {c d q:Int} (c0:0<=c) (ck:c<k) (d0:0<=d) (dk:d<k) (h1:st s k c<=q) (h2:q<st s k (c+1)) (h3:st s k d<=q) (h4:q<st s k (d+1)):c=d:=by
 rcases jk c d with a|a|a
 ·have:=lF (s:=s) c0 a (by omega:d<=k);omega
 ·exact a
 ·have:=lF (s:=s) d0 a (by omega:c<=k);omega
end
end Go.Pure
namespace Go.Pure
open Go Go.Eng
section
variable {s:AH} {k:Int} {R:Int->Int->Prop}
structure aYg (s:AH) (R:Int->Int->Prop):Prop where
 char: ∀ {p q:Int},0<=p/\p<s.length->0<=q/\q<s.length->rd s p<rd s q->R p q
 ls: ∀ {p q:Int},isL s p->isS s q->rd s p=rd s q->R p q
 last: ∀ {q:Int},0<s.length->0<=q->q+1<s.length->rd s (s.length-1)=rd s q->isL s q->R (s.length-1) q
 backL: ∀ {p q:Int},isL s p->isL s q->p+1<s.length->q+1<s.length->rd s p=rd s q->R (p+1) (q+1)->R p q
structure vK (s:AH) (k:Int) (R:Int->Int->Prop) (mF:Int->Int) (row:AH):Prop where
 len:row.length=s.length
 m0: ∀c,0<=c->c<k->0<=mF c/\mF c<=(JA s c).length
 some_: ∀c q,0<=c->c<k->st s k (c+1)-mF c<=q->q<st s k (c+1)->isS s (rd row q)/\rd s (rd row q)=c
 none_: ∀c q,0<=c->c<k->st s k c<=q->q<st s k (c+1)-mF c->rd row q= -1
 once:Once row
 all: ∀p:Int,0<=p->p<s.length->gL s p=true-> ∃q:Int,0<=q/\q<s.length/\rd row q=p
 sorted: ∀a b:Int,0<=a->a<b->b<s.length->0<=rd row a->0<=rd row b->R (rd row a) (rd row b)
structure jV (s:AH) (k:Int) (R:Int->Int->Prop) (mF:Int->Int) (row0 row H:AH) (C:Int->Prop):Prop where
 len:row.length=s.length
 hlen:H.length=k.toNat
 hH: ∀c,0<=c->c<k->st s k c<=rd H c/\rd H c<=st s k c+(JB s c).length
 placed: ∀c q,0<=c->c<k->st s k c<=q->q<rd H c->isL s (rd row q)/\rd s (rd row q)=c
 rest: ∀c q,0<=c->c<k->rd H c<=q->q<st s k (c+1)->rd row q=rd row0 q
 once:Once row
 closed: ∀p,isL s p->((∃q:Int,0<=q/\q<s.length/\rd row q=p)↔C p)
 sorted: ∀a b:Int,0<=a->a<b->b<s.length->0<=rd row a->0<=rd row b->R (rd row a) (rd row b)
variable (hk:0<=k) (hs: ∀x∈s,0<=x/\x<k) (hR:aYg s R)
theorem nJ (hs: ∀x∈s,0<=x/\x<k) {p:Int} (h:0<=p/\p<s.length):0<=rd s p/\rd s p<k:=hs _ (bI h.1 h.2)
variable {mF:Int->Int} {row0 row H:AH} {C:Int->Prop}
theorem jV.at_ (h:jV s k R mF row0 row H C) (b:vK s k R mF row0) {c q:Int} (c0:0<=c) (ck:c<k) (h1:st s k c<=q) (h2:q<st s k (c+1)):
  (q<rd H c/\isL s (rd row q)/\rd s (rd row q)=c)\/(rd H c<=q/\isS s (rd row q)/\rd s (rd row q)=c)\/(rd H c<=q/\rd row q= -1):=by
 rcases bz q (rd H c) with a|a
 ·exact .inl ⟨a,h.placed c q c0 ck h1 a⟩
 ·rw [h.rest c q c0 ck a h2];rcases bz q (st s k (c+1)-mF c) with d|d
  ·exact .inr (.inr ⟨a,b.none_ c q c0 ck h1 d⟩)
  ·exact .inr (.inl ⟨a,b.some_ c q c0 ck d h2⟩)
include hk hs in
theorem jV.entry (h:jV s k R mF row0 row H C) (b:vK s k R mF row0) {q:Int} (q0:0<=q) (hq:q<s.length):rd row q= -1\/(0<=rd row q/\rd row q<s.length):=by
 obtain⟨c,⟨c0,ck⟩,h1,h2⟩:=iB hk hs q0 hq;rcases h.at_ b c0 ck h1 h2 with a|a|a
 ·exact .inr a.2.1.1
 ·exact .inr a.2.1.1
 ·exact .inl a.2
theorem JM {b:vK s k R mF row0} {c:Int} (c0:0<=c) (ck:c<k):st s k c+(JB s c).length<=st s k (c+1)-mF c:=by
 have:=lD (s:=s) c0 ck;have:=b.m0 c c0 ck;omega
include hk hs in
theorem jV.room (h:jV s k R mF row0 row H C) (b:vK s k R mF row0) {p:Int} (hp:isL s p) (hn: ¬ ∃q:Int,0<=q/\q<s.length/\rd row q=p):
  (st s k (rd s p)<=rd H (rd s p)/\rd H (rd s p)<st s k (rd s p)+(JB s (rd s p)).length)/\rd row (rd H (rd s p))= -1/\(0<=rd H (rd s p)/\rd H (rd s p)<s.length)/\rd H (rd s p)<st s k (rd s p+1):=by
 obtain⟨c0,ck⟩:=nJ hs hp.1;have hH:=h.hH _ c0 ck;have px:=JM (b:=b) c0 ck;have ox:=zB hk hs (c:=rd s p+1) G G;have k6:=fU (s:=s) (k:=k) (c:=rd s p);have hm:=b.m0 _ c0 ck
 have bp:rd H (rd s p)<st s k (rd s p)+(JB s (rd s p)).length:=by
  have ft: ∀x∈p::seg row (st s k (rd s p)) (rd H (rd s p)),x∈JB s (rd s p):=by
   intro x hx;rcases jc.1 hx with rfl|hx
   ·exact NG.2 ⟨hp,rfl⟩
   ·obtain ⟨q,q1,q2,rfl⟩:=JW.1 hx;exact NG.2 (h.placed _ q c0 ck q1 q2)
  have hnd:(p::seg row (st s k (rd s p)) (rd H (rd s p))).Nodup:=by
   refine wo.2 ⟨λhx=> ?_,RD h.once k6 (by rw[h.len];omega) λq q1 q2=>(h.placed _ q c0 ck q1 q2).1.1.1⟩;obtain⟨q,q1,q2,e⟩:=JW.1 hx;exact hn ⟨q,G,G,e⟩
  have:=oM hnd ft;rw[dn,aHs] at this;omega
 refine⟨⟨hH.1,bp⟩,?_,⟨G,G⟩,G⟩;rw[h.rest _ _ c0 ck (mf _) G,b.none_ _ _ c0 ck hH.1 G]
include hk hs hR in
theorem jV.lay (h:jV s k R mF row0 row H C) (b:vK s k R mF row0) {p:Int} {C':Int->Prop} (hp:isL s p) (hn: ¬ ∃q:Int,0<=q/\q<s.length/\rd row q=p) (kt: ∀p',isL s p'->(C' p'↔C p'\/p'=p))
  (Ot: ∀p',isL s p'->rd s p'=rd s p->(∃q:Int,0<=q/\q<s.length/\rd row q=p')->R p' p):
  jV s k R mF row0 (upd row (rd H (rd s p)) p) (upd H (rd s p) (rd H (rd s p)+1)) C':=by
 obtain⟨c0,ck⟩:=nJ hs hp.1;obtain⟨⟨r1,r2⟩,r3,⟨r4,r5⟩,r6⟩:=h.room hk hs b hp hn;have im: ∀q,0<=q->rd (upd row (rd H (rd s p)) p) q=if q=rd H (rd s p) then p else rd row q:=λq q0=>gH r4 q0 (by rw[h.len];omega)
 have Xn: ∀c,0<=c->rd (upd H (rd s p) (rd H (rd s p)+1)) c=if c=rd s p then rd H (rd s p)+1 else rd H c:=λc Rk=>gH c0 Rk (by rw[h.hlen];omega)
 have hex: ∀x:Int,0<=x->((∃q:Int,0<=q/\q<s.length/\rd (upd row (rd H (rd s p)) p) q=x)↔((∃q:Int,0<=q/\q<s.length/\rd row q=x)\/x=p)):=by
  intro x hx;constructor
  ·rintro ⟨q,q0,q1,e⟩;rw[im q q0] at e;split at e
   ·exact .inr e.symm
   ·exact .inl ⟨q,q0,q1,e⟩
  ·rintro (⟨q,q0,q1,e⟩|rfl)
   ·refine ⟨q,q0,q1,?_⟩;rw[im q q0,df,e];intro e2;rw[e2,r3] at e;omega
   ·exact⟨_,r4,r5,by rw[im _ r4,di rfl]⟩
 refine⟨by rw[aX];exact h.len,by rw[aX];exact h.hlen,λc d0 dk=> ?_,λc q d0 dk q1 q2=> ?_,λc q d0 dk q1 q2=> ?_,λq r q0 q1 t0 t1 hq e=> ?_,λp' da=> ?_,λx y x0 xy y1 hx hy=> ?_⟩
 ·have:=h.hH c d0 dk;rw[Xn c d0];split
  ·rename_i e;subst e;omega
  ·exact this
 ·have js:0<=q:=by have:=fU (s:=s) (k:=k) (c:=c);omega
  rw[Xn c d0] at q2;rw[im q js];by_cases e:q=rd H (rd s p)
  ·rw [di e]
   have hc:c=rd s p:=by
    by_cases e2:c=rd s p
    ·exact e2
    ·rw [df e2] at q2;have:=h.hH c d0 dk;have hr:=JM (b:=b) d0 dk;have:=b.m0 c d0 dk;exact oV (s:=s) d0 dk c0 ck q1 G G G
   exact⟨hp,hc.symm⟩
  ·rw [df e];refine h.placed c q d0 dk q1 ?_;by_cases e2:c=rd s p
   ·rw[di e2] at q2;subst e2;omega
   ·rw[df e2] at q2;exact q2
 ·rw [Xn c d0] at q1;have hHc:=h.hH c d0 dk
  have js:0<=q:=by
   have:=fU (s:=s) (k:=k) (c:=c);by_cases e2:c=rd s p
   ·rw[di e2] at q1;subst e2;omega
   ·rw[df e2] at q1;omega
  rw[im q js];by_cases e2:c=rd s p
  ·rw [di e2] at q1;rw[df G];subst e2;exact h.rest _ q d0 dk G q2
  ·rw [df e2] at q1;rw[df,h.rest c q d0 dk q1 q2];intro e;exact e2 (oV (s:=s) d0 dk c0 ck G q2 G G)
 ·rw [aX,h.len] at q1 t1;rw[im q q0] at hq e;rw[im r t0] at e;by_cases e1:q=rd H (rd s p)
  ·rw [di e1] at e;by_cases e2:r=rd H (rd s p)
   ·omega
   ·rw [df e2] at e;exact absurd ⟨r,t0,t1,e.symm⟩ hn
  ·rw [df e1] at e hq;by_cases e2:r=rd H (rd s p)
   ·rw [di e2] at e;exact absurd ⟨q,q0,q1,e⟩ hn
   ·rw [df e2] at e;exact h.once q r q0 (by rw[h.len];exact q1) t0 (by rw[h.len];exact t1) hq e
 ·rw[hex p' da.1.1,h.closed p' da,kt p' da]
 ·have key: ∀z:Int,0<=z->z<s.length->0<=rd row z->(z<rd H (rd s p)->R (rd row z) p)/\(rd H (rd s p)<z->R p (rd row z)):=by
   intro z z0 z1 hz;obtain⟨c,⟨d0,dk⟩,h1,h2⟩:=iB hk hs z0 z1;have sr:=h.at_ b d0 dk h1 h2
   have ff:0<=rd row z/\rd row z<s.length:=by
    rcases sr with a|a|a
    ·exact a.2.1.1
    ·exact a.2.1.1
    ·rw[a.2] at hz;omega
   have l4:rd s (rd row z)=c:=by
    rcases sr with a|a|a
    ·exact a.2.2
    ·exact a.2.2
    ·rw[a.2] at hz;omega
   refine⟨λbp=> ?_,λbp=> ?_⟩
   ·rcases jk c (rd s p) with e|e|e
    ·exact hR.char ff hp.1 G
    ·subst e;rcases sr with a|a|a
     ·exact Ot _ a.2.1 a.2.2 ⟨z,z0,z1,rfl⟩
     ·omega
     ·omega
    ·have:=lF (s:=s) c0 e (by omega:c<=k);omega
   ·rcases jk c (rd s p) with e|e|e
    ·have:=lF (s:=s) d0 e (by omega:rd s p<=k);omega
    ·subst e;rcases sr with a|a|a
     ·omega
     ·exact hR.ls hp a.2.1 a.2.2.symm
     ·rw[a.2] at hz;omega
    ·exact hR.char hp.1 ff G
  rw[im x x0] at hx ⊢;rw[im y G] at hy ⊢;by_cases e1:x=rd H (rd s p)
  ·rw [di e1,df G];rw[df G] at hy;exact(key y G y1 hy).2 G
  ·rw [df e1];rw[df e1] at hx;by_cases e2:y=rd H (rd s p)
   ·rw [di e2];exact(key x x0 G hx).1 G
   ·rw [df e2];rw[df e2] at hy;exact h.sorted x y x0 xy y1 hx hy
def CL (s row:AH) (i p:Int):Prop:=p=s.length-1\/ ∃q:Int,0<=q/\q<i/\rd row q=p+1
include hk hs hR in
theorem ZY (b:vK s k R mF row0) (hn:0<s.length) (hH:H.length=k.toNat) (hH2: ∀c,0<=c->c<k->rd H c=st s k c):
  jV s k R mF row0 (upd row0 (rd H (rd s (s.length-1))) (s.length-1)) (upd H (rd s (s.length-1)) (rd H (rd s (s.length-1))+1)) (CL s (upd row0 (rd H (rd s (s.length-1))) (s.length-1)) 0):=by
 have Fk: ∀p,isL s p-> ¬ ∃q:Int,0<=q/\q<s.length/\rd row0 q=p:=by
  rintro p hp ⟨q,q0,q1,e⟩;obtain⟨c,⟨c0,ck⟩,h1,h2⟩:=iB hk hs q0 q1;rcases bz q (st s k (c+1)-mF c) with d|d
  ·have:=b.none_ c q c0 ck h1 d;have:=hp.1.1;omega
  ·have:=(b.some_ c q c0 ck d h2).1;rw[e] at this;exact hp.not_S this
 have h0:jV s k R mF row0 row0 H λ_=>False:=
  ⟨b.len,hH,λc c0 ck=>by rw[hH2 c c0 ck];omega,λc q c0 ck q1 q2=>by rw[hH2 c c0 ck] at q2;omega,λc q _ _ _ _=>rfl,b.once,λp hp=>iff_false_intro (Fk p hp),b.sorted⟩
 have hp:isL s (s.length-1):=⟨G,qW G G⟩;refine h0.lay hk hs hR b hp (Fk _ hp) (λp' da=> ?_) λp' da _ hex=>absurd hex (Fk p' da);unfold CL;constructor
 ·rintro (e|⟨q,q0,q1,_⟩)
  ·exact .inr e
  ·omega
 ·rintro (h|e)
  ·exact h.elim
  ·exact .inl e
theorem aFa {i:Int} (h:jV s k R mF row0 row H (CL s row i)) (hc: ¬(0<rd row i/\smB s (rd row i-1)=false)):jV s k R mF row0 row H (CL s row (i+1)):=by
 refine⟨h.len,h.hlen,h.hH,h.placed,h.rest,h.once,λp hp=> ?_,h.sorted⟩;rw[h.closed p hp];unfold CL;refine or_congr_right ⟨λ⟨q,q0,q1,e⟩=>⟨q,q0,G,e⟩,?_⟩;rintro⟨q,q0,q1,e⟩;rcases bz q i with a|a
 ·exact⟨q,q0,a,e⟩
 ·exfalso;have:q=i:=G
  subst this;rw[e] at hc;have:=hp.1.1;exact hc ⟨G,by rw[show p+1-1=p by omega];exact hp.2⟩
include hk hs in
theorem SI {i:Int} (h:jV s k R mF row0 row H (CL s row i)) (b:vK s k R mF row0) (i0:0<=i) (hi:i<s.length) (hc:0<rd row i/\smB s (rd row i-1)=false):
  isL s (rd row i-1)/\(¬ ∃q:Int,0<=q/\q<s.length/\rd row q=rd row i-1)/\rd row i<s.length/\i<rd H (rd s (rd row i-1)):=by
 have Ky:=h.entry hk hs b i0 hi;have hj:0<=rd row i/\rd row i<s.length:=G
 have hp:isL s (rd row i-1):=⟨G,hc.2⟩
 have hn: ¬ ∃q:Int,0<=q/\q<s.length/\rd row q=rd row i-1:=by
  intro hex;rcases(h.closed _ hp).1 hex with e|⟨q,q0,q1,e⟩
  ·omega
  ·have:=h.once q i q0 (by rw[h.len];omega) i0 (by rw[h.len];exact hi) G G;omega
 refine⟨hp,hn,hj.2,?_⟩;obtain⟨c,⟨c0,ck⟩,h1,h2⟩:=iB hk hs i0 hi;obtain⟨d0,dk⟩:=nJ hs hp.1;have pd:=hp.next G;rw[show rd row i-1+1=rd row i by omega] at pd;have hHp:=h.hH _ d0 dk;rcases h.at_ b c0 ck h1 h2 with a|a|a
 ·rcases bz c (rd s (rd row i-1)) with e|e
  ·have:=lF (s:=s) c0 e (by omega:rd s (rd row i-1)<=k);omega
  ·have:rd s (rd row i-1)=c:=G
   rw[this];exact a.1
 ·rcases bz c (rd s (rd row i-1)) with e|e
  ·have:=lF (s:=s) c0 e (by omega:rd s (rd row i-1)<=k);omega
  ·exact absurd a.2.1 (pd.2 G).not_S
 ·omega
include hk hs hR in
theorem aEz {i:Int} (h:jV s k R mF row0 row H (CL s row i)) (b:vK s k R mF row0) (i0:0<=i) (hi:i<s.length) (hc:0<rd row i/\smB s (rd row i-1)=false):
  jV s k R mF row0 (upd row (rd H (rd s (rd row i-1))) (rd row i-1)) (upd H (rd s (rd row i-1)) (rd H (rd s (rd row i-1))+1)) (CL s (upd row (rd H (rd s (rd row i-1))) (rd row i-1)) (i+1)):=by
 obtain⟨hp,hn,hj,bp⟩:=SI hk hs h b i0 hi hc;have px:=h.room hk hs b hp hn;have im: ∀q,0<=q->rd (upd row (rd H (rd s (rd row i-1))) (rd row i-1)) q=if q=rd H (rd s (rd row i-1)) then rd row i-1 else rd row q:=λq q0=>gH px.2.2.1.1 q0 (by rw[h.len];exact px.2.2.1.2)
 refine h.lay hk hs hR b hp hn (λp' da=> ?_) λp' da he hex=> ?_
 ·unfold CL;constructor
  ·rintro (e|⟨q,q0,q1,e⟩)
   ·exact .inl (.inl e)
   ·rw [im q q0,df G] at e;rcases bz q i with a|a
    ·exact .inl (.inr ⟨q,q0,a,e⟩)
    ·have:q=i:=G
     subst this;exact .inr G
  ·rintro ((e|⟨q,q0,q1,e⟩)|e)
   ·exact .inl e
   ·exact .inr ⟨q,q0,G,by rw[im q q0,df G];exact e⟩
   ·exact .inr ⟨i,i0,G,by rw[im i i0,df G];omega⟩
 ·have Ts:=hp.1;rcases(h.closed _ da).1 hex with e|⟨q,q0,q1,e⟩
  ·subst e;exact hR.last G G G he hp
  ·have h1:=h.entry hk hs b q0 G;have h2:=da.1;have:=h.sorted q i q0 q1 hi G G;rw[e] at this;refine hR.backL da hp G G he ?_;rwa[show rd row i-1+1=rd row i by omega]
include hk hs in
theorem SK (h:jV s k R mF row0 row H (CL s row s.length)) (b:vK s k R mF row0): ∀(m:Nat) (p:Int),s.length-p<=m->isL s p-> ∃q:Int,0<=q/\q<s.length/\rd row q=p
 |0,p,hm,hp=>by have:=hp.1;omega
 | m +1,p,hm,hp=>by
  have hb:=hp.1;rw[h.closed p hp];rcases bz (p+1) s.length with a|a
  ·refine .inr ?_;rcases rD (s:=s) (p:=p+1) G with l|l
   ·exact SK h b m (p+1) G l
   ·obtain ⟨q,q0,q1,e⟩:=b.all (p+1) G a (nG.2 ⟨G,l.2,by rw[show p+1-1=p by omega];exact hp.2⟩);refine⟨q,q0,q1,?_⟩;obtain⟨c,⟨c0,ck⟩,h1,h2⟩:=iB hk hs q0 q1;have hH:=h.hH c c0 ck;have hr:=JM (b:=b) c0 ck;rw[h.rest c q c0 ck ?_ h2,e];rcases bz q (st s k (c+1)-mF c) with d|d
    ·have:=b.none_ c q c0 ck h1 d;omega
    ·omega
  ·exact .inl G
end
end Go.Pure
namespace Go.Pure
open Go Go.Eng
section
variable {s:AH} {k:Int} {R:Int->Int->Prop}
structure bDc (s:AH) (R:Int->Int->Prop):Prop where
 char: ∀ {p q:Int},0<=p/\p<s.length->0<=q/\q<s.length->rd s p<rd s q->R p q
 ls: ∀ {p q:Int},isL s p->isS s q->rd s p=rd s q->R p q
 backS: ∀ {p q:Int},isS s p->isS s q->p+1<s.length->q+1<s.length->rd s p=rd s q->R (p+1) (q+1)->R p q
structure sM (s:AH) (k:Int) (R:Int->Int->Prop) (T:Int->Int) (row:AH):Prop where
 len:row.length=s.length
 t0: ∀c,0<=c->c<k->st s k c<=T c/\T c<=st s k c+(JB s c).length
 some_: ∀c q,0<=c->c<k->st s k c<=q->q<T c->isL s (rd row q)/\rd s (rd row q)=c
 none_: ∀c q,0<=c->c<k->T c<=q->q<st s k (c+1)->rd row q= -1
 once:Once row
 all: ∀p:Int,isL s p-> ∃q:Int,0<=q/\q<s.length/\rd row q=p
 sorted: ∀a b:Int,0<=a->a<b->b<s.length->0<=rd row a->0<=rd row b->R (rd row a) (rd row b)
structure jU (s:AH) (k:Int) (R:Int->Int->Prop) (T:Int->Int) (row3 row E:AH) (C:Int->Prop):Prop where
 len:row.length=s.length
 elen:E.length=k.toNat
 hE: ∀c,0<=c->c<k->st s k (c+1)-(JA s c).length<=rd E c/\rd E c<=st s k (c+1)
 placed: ∀c q,0<=c->c<k->rd E c<=q->q<st s k (c+1)->isS s (rd row q)/\rd s (rd row q)=c
 rest: ∀c q,0<=c->c<k->st s k c<=q->q<rd E c->rd row q=rd row3 q
 once:Once row
 closed: ∀p,isS s p->((∃q:Int,0<=q/\q<s.length/\rd row q=p)↔C p)
 sorted: ∀a b:Int,0<=a->a<b->b<s.length->0<=rd row a->0<=rd row b->R (rd row a) (rd row b)
variable (hk:0<=k) (hs: ∀x∈s,0<=x/\x<k) (hR:bDc s R)
variable {T:Int->Int} {row3 row E:AH} {C:Int->Prop}
theorem jU.at_ (h:jU s k R T row3 row E C) (b:sM s k R T row3) {c q:Int} (c0:0<=c) (ck:c<k) (h1:st s k c<=q) (h2:q<st s k (c+1)):
  (rd E c<=q/\isS s (rd row q)/\rd s (rd row q)=c)\/(q<rd E c/\isL s (rd row q)/\rd s (rd row q)=c)\/(q<rd E c/\rd row q= -1):=by
 rcases bz q (rd E c) with a|a
 ·rw [h.rest c q c0 ck h1 a];rcases bz q (T c) with d|d
  ·exact .inr (.inl ⟨a,b.some_ c q c0 ck h1 d⟩)
  ·exact .inr (.inr ⟨a,b.none_ c q c0 ck d h2⟩)
 ·exact .inl ⟨a,h.placed c q c0 ck a h2⟩
include hk hs in
theorem jU.entry (h:jU s k R T row3 row E C) (b:sM s k R T row3) {q:Int} (q0:0<=q) (hq:q<s.length):rd row q= -1\/(0<=rd row q/\rd row q<s.length):=by
 obtain⟨c,⟨c0,ck⟩,h1,h2⟩:=iB hk hs q0 hq;rcases h.at_ b c0 ck h1 h2 with a|a|a
 ·exact .inr a.2.1.1
 ·exact .inr a.2.1.1
 ·exact .inl a.2
theorem LG {b:sM s k R T row3} {c:Int} (c0:0<=c) (ck:c<k):T c<=st s k (c+1)-(JA s c).length:=by
 have:=lD (s:=s) c0 ck;have:=b.t0 c c0 ck;omega
include hk hs in
theorem jU.room (h:jU s k R T row3 row E C) (b:sM s k R T row3) {p:Int} (hp:isS s p) (hn: ¬ ∃q:Int,0<=q/\q<s.length/\rd row q=p):
  (st s k (rd s p+1)-(JA s (rd s p)).length<=rd E (rd s p)-1/\rd E (rd s p)<=st s k (rd s p+1))/\rd row (rd E (rd s p)-1)= -1/\(0<=rd E (rd s p)-1/\rd E (rd s p)-1<s.length)/\st s k (rd s p)<=rd E (rd s p)-1:=by
 obtain⟨c0,ck⟩:=nJ hs hp.1;have hE:=h.hE _ c0 ck;have px:=LG (b:=b) c0 ck;have ox:=zB hk hs (c:=rd s p+1) G G;have k6:=fU (s:=s) (k:=k) (c:=rd s p);have ht:=b.t0 _ c0 ck;have hsu:=lD (s:=s) c0 ck
 have bp:st s k (rd s p+1)-(JA s (rd s p)).length<=rd E (rd s p)-1:=by
  have ft: ∀x∈p::seg row (rd E (rd s p)) (st s k (rd s p+1)),x∈JA s (rd s p):=by
   intro x hx;rcases jc.1 hx with rfl|hx
   ·exact NE.2 ⟨hp,rfl⟩
   ·obtain ⟨q,q1,q2,rfl⟩:=JW.1 hx;exact NE.2 (h.placed _ q c0 ck q1 q2)
  have hnd:(p::seg row (rd E (rd s p)) (st s k (rd s p+1))).Nodup:=by
   refine wo.2 ⟨λhx=> ?_,RD h.once G (by rw[h.len];omega) λq q1 q2=>(h.placed _ q c0 ck q1 q2).1.1.1⟩;obtain⟨q,q1,q2,e⟩:=JW.1 hx;exact hn ⟨q,G,G,e⟩
  have:=oM hnd ft;rw[dn,aHs] at this;omega
 refine⟨⟨bp,hE.2⟩,?_,⟨G,G⟩,G⟩;rw[h.rest _ _ c0 ck G G,b.none_ _ _ c0 ck G G]
include hk hs hR in
theorem jU.lay (h:jU s k R T row3 row E C) (b:sM s k R T row3) {p:Int} {C':Int->Prop} (hp:isS s p) (hn: ¬ ∃q:Int,0<=q/\q<s.length/\rd row q=p) (kt: ∀p',isS s p'->(C' p'↔C p'\/p'=p))
  (Ot: ∀p',isS s p'->rd s p'=rd s p->(∃q:Int,0<=q/\q<s.length/\rd row q=p')->R p p'):
  jU s k R T row3 (upd row (rd E (rd s p)-1) p) (upd E (rd s p) (rd E (rd s p)-1)) C':=by
 obtain⟨c0,ck⟩:=nJ hs hp.1;obtain⟨⟨r1,r2⟩,r3,⟨r4,r5⟩,r6⟩:=h.room hk hs b hp hn;have im: ∀q,0<=q->rd (upd row (rd E (rd s p)-1) p) q=if q=rd E (rd s p)-1 then p else rd row q:=λq q0=>gH r4 q0 (by rw[h.len];omega)
 have Nm: ∀c,0<=c->rd (upd E (rd s p) (rd E (rd s p)-1)) c=if c=rd s p then rd E (rd s p)-1 else rd E c:=λc Rk=>gH c0 Rk (by rw[h.elen];omega)
 have hex: ∀x:Int,0<=x->((∃q:Int,0<=q/\q<s.length/\rd (upd row (rd E (rd s p)-1) p) q=x)↔((∃q:Int,0<=q/\q<s.length/\rd row q=x)\/x=p)):=by
  intro x hx;constructor
  ·rintro ⟨q,q0,q1,e⟩;rw[im q q0] at e;split at e
   ·exact .inr e.symm
   ·exact .inl ⟨q,q0,q1,e⟩
  ·rintro (⟨q,q0,q1,e⟩|rfl)
   ·refine ⟨q,q0,q1,?_⟩;rw[im q q0,df,e];intro e2;rw[e2,r3] at e;omega
   ·exact⟨_,r4,r5,by rw[im _ r4,di rfl]⟩
 refine⟨by rw[aX];exact h.len,by rw[aX];exact h.elen,λc d0 dk=> ?_,λc q d0 dk q1 q2=> ?_,λc q d0 dk q1 q2=> ?_,λq r q0 q1 t0 t1 hq e=> ?_,λp' da=> ?_,λx y x0 xy y1 hx hy=> ?_⟩
 ·have:=h.hE c d0 dk;rw[Nm c d0];split
  ·rename_i e;subst e;omega
  ·exact this
 ·rw [Nm c d0] at q1;have Kp:=h.hE c d0 dk;have hsc:=lD (s:=s) d0 dk
  have js:0<=q:=by
   have:=fU (s:=s) (k:=k) (c:=c);by_cases e2:c=rd s p
   ·rw[di e2] at q1;omega
   ·rw[df e2] at q1;omega
  rw[im q js];by_cases e:q=rd E (rd s p)-1
  ·rw [di e]
   have hc:c=rd s p:=by
    by_cases e2:c=rd s p
    ·exact e2
    ·rw [df e2] at q1;exact oV (s:=s) d0 dk c0 ck G q2 G G
   exact⟨hp,hc.symm⟩
  ·rw [df e];refine h.placed c q d0 dk ?_ q2;by_cases e2:c=rd s p
   ·rw[di e2] at q1;subst e2;omega
   ·rw[df e2] at q1;exact q1
 ·rw [Nm c d0] at q2;have Kp:=h.hE c d0 dk;have js:0<=q:=by have:=fU (s:=s) (k:=k) (c:=c);omega
  rw[im q js];by_cases e2:c=rd s p
  ·rw [di e2] at q2;rw[df G];subst e2;exact h.rest _ q d0 dk q1 G
  ·rw [df e2] at q2;rw[df,h.rest c q d0 dk q1 q2];intro e;exact e2 (oV (s:=s) d0 dk c0 ck q1 G G G)
 ·rw [aX,h.len] at q1 t1;rw[im q q0] at hq e;rw[im r t0] at e;by_cases e1:q=rd E (rd s p)-1
  ·rw [di e1] at e;by_cases e2:r=rd E (rd s p)-1
   ·omega
   ·rw [df e2] at e;exact absurd ⟨r,t0,t1,e.symm⟩ hn
  ·rw [df e1] at e hq;by_cases e2:r=rd E (rd s p)-1
   ·rw [di e2] at e;exact absurd ⟨q,q0,q1,e⟩ hn
   ·rw [df e2] at e;exact h.once q r q0 (by rw[h.len];exact q1) t0 (by rw[h.len];exact t1) hq e
 ·rw[hex p' da.1.1,h.closed p' da,kt p' da]
 ·have key: ∀z:Int,0<=z->z<s.length->0<=rd row z->(z<rd E (rd s p)-1->R (rd row z) p)/\(rd E (rd s p)-1<z->R p (rd row z)):=by
   intro z z0 z1 hz;obtain⟨c,⟨d0,dk⟩,h1,h2⟩:=iB hk hs z0 z1;have sr:=h.at_ b d0 dk h1 h2
   have ff:0<=rd row z/\rd row z<s.length:=by
    rcases sr with a|a|a
    ·exact a.2.1.1
    ·exact a.2.1.1
    ·rw[a.2] at hz;omega
   have l4:rd s (rd row z)=c:=by
    rcases sr with a|a|a
    ·exact a.2.2
    ·exact a.2.2
    ·rw[a.2] at hz;omega
   refine⟨λbp=> ?_,λbp=> ?_⟩
   ·rcases jk c (rd s p) with e|e|e
    ·exact hR.char ff hp.1 G
    ·subst e;rcases sr with a|a|a
     ·omega
     ·exact hR.ls a.2.1 hp a.2.2
     ·rw[a.2] at hz;omega
    ·have:=lF (s:=s) c0 e (by omega:c<=k);omega
   ·rcases jk c (rd s p) with e|e|e
    ·have:=lF (s:=s) d0 e (by omega:rd s p<=k);omega
    ·subst e;rcases sr with a|a|a
     ·exact Ot _ a.2.1 a.2.2 ⟨z,z0,z1,rfl⟩
     ·omega
     ·omega
    ·exact hR.char hp.1 ff G
  rw[im x x0] at hx ⊢;rw[im y G] at hy ⊢;by_cases e1:x=rd E (rd s p)-1
  ·rw [di e1,df G];rw[df G] at hy;exact(key y G y1 hy).2 G
  ·rw [df e1];rw[df e1] at hx;by_cases e2:y=rd E (rd s p)-1
   ·rw [di e2];exact(key x x0 G hx).1 G
   ·rw [df e2];rw[df e2] at hy;exact h.sorted x y x0 xy y1 hx hy
def CS (s row:AH) (i p:Int):Prop:= ∃q:Int,i<=q/\q<s.length/\rd row q=p+1
theorem YG (b:sM s k R T row3) (hE:E.length=k.toNat) (Rw: ∀c,0<=c->c<k->rd E c=st s k (c+1)) (yp: ∀q:Int,0<=q->q<s.length-> ¬isS s (rd row3 q)):jU s k R T row3 row3 E (CS s row3 s.length):=
 ⟨b.len,hE,λc c0 ck=>by rw[Rw c c0 ck];omega,λc q c0 ck q1 q2=>by rw[Rw c c0 ck] at q1;omega,λc q _ _ _ _=>rfl,b.once,λp hp=>⟨λ⟨q,q0,q1,e⟩=>absurd (by rw[e];exact hp) (yp q q0 q1),λ⟨q,q0,q1,_⟩=>G⟩,b.sorted⟩
theorem aDn {i:Int} (h:jU s k R T row3 row E (CS s row (i+1))) (hc: ¬(0<rd row i/\smB s (rd row i-1)=true)):jU s k R T row3 row E (CS s row i):=by
 refine⟨h.len,h.elen,h.hE,h.placed,h.rest,h.once,λp hp=> ?_,h.sorted⟩;rw[h.closed p hp];unfold CS;refine⟨λ⟨q,q0,q1,e⟩=>⟨q,G,q1,e⟩,?_⟩;rintro⟨q,q0,q1,e⟩;rcases bz i q with a|a
 ·exact⟨q,G,q1,e⟩
 ·exfalso;have:q=i:=G
  subst this;rw[e] at hc;have:=hp.1.1;exact hc ⟨G,by rw[show p+1-1=p by omega];exact hp.2⟩
include hk hs in
theorem RA {i:Int} (h:jU s k R T row3 row E (CS s row (i+1))) (b:sM s k R T row3) (i0:0<=i) (hi:i<s.length) (hc:0<rd row i/\smB s (rd row i-1)=true):
  isS s (rd row i-1)/\(¬ ∃q:Int,0<=q/\q<s.length/\rd row q=rd row i-1)/\rd row i<s.length/\rd E (rd s (rd row i-1))-1<i:=by
 have Ky:=h.entry hk hs b i0 hi;have hj:0<=rd row i/\rd row i<s.length:=G
 have hp:isS s (rd row i-1):=⟨G,hc.2⟩
 have hn: ¬ ∃q:Int,0<=q/\q<s.length/\rd row q=rd row i-1:=by
  intro hex;obtain⟨q,q0,q1,e⟩:=(h.closed _ hp).1 hex;have:=h.once q i G (by rw[h.len];omega) i0 (by rw[h.len];exact hi) G G;omega
 refine⟨hp,hn,hj.2,?_⟩;obtain⟨c,⟨c0,ck⟩,h1,h2⟩:=iB hk hs i0 hi;obtain⟨d0,dk⟩:=nJ hs hp.1;obtain⟨_,pj,Wc⟩:=hp.next;rw[show rd row i-1+1=rd row i by omega] at pj Wc;have hEp:=h.hE _ d0 dk;rcases h.at_ b c0 ck h1 h2 with a|a|a
 ·rcases bz (rd s (rd row i-1)) c with e|e
  ·have:=lF (s:=s) d0 e (by omega:c<=k);omega
  ·have:rd s (rd row i-1)=c:=G
   rw[this];omega
 ·rcases bz (rd s (rd row i-1)) c with e|e
  ·have:=lF (s:=s) d0 e (by omega:c<=k);omega
  ·exact absurd (Wc G) a.2.1.not_S
 ·omega
include hk hs hR in
theorem aDm {i:Int} (h:jU s k R T row3 row E (CS s row (i+1))) (b:sM s k R T row3) (i0:0<=i) (hi:i<s.length) (hc:0<rd row i/\smB s (rd row i-1)=true):
  jU s k R T row3 (upd row (rd E (rd s (rd row i-1))-1) (rd row i-1)) (upd E (rd s (rd row i-1)) (rd E (rd s (rd row i-1))-1)) (CS s (upd row (rd E (rd s (rd row i-1))-1) (rd row i-1)) i):=by
 obtain⟨hp,hn,hj,bp⟩:=RA hk hs h b i0 hi hc;have px:=h.room hk hs b hp hn;have im: ∀q,0<=q->rd (upd row (rd E (rd s (rd row i-1))-1) (rd row i-1)) q=if q=rd E (rd s (rd row i-1))-1 then rd row i-1 else rd row q:=λq q0=>gH px.2.2.1.1 q0 (by rw[h.len];exact px.2.2.1.2)
 refine h.lay hk hs hR b hp hn (λp' da=> ?_) λp' da he hex=> ?_
 ·unfold CS;constructor
  ·rintro ⟨q,q0,q1,e⟩;rw[im q G,df G] at e;rcases bz i q with a|a
   ·exact .inl ⟨q,G,q1,e⟩
   ·have:q=i:=G
    subst this;exact .inr G
  ·rintro (⟨q,q0,q1,e⟩|e)
   ·exact⟨q,G,q1,by rw[im q G,df G];exact e⟩
   ·exact⟨i,G,hi,by rw[im i i0,df G];omega⟩
 ·have Ts:=hp.1;obtain⟨q,q0,q1,e⟩:=(h.closed _ da).1 hex;have h1:=h.entry hk hs b (q:=q) G q1;have h2:=da.1;have:=h.sorted i q i0 G q1 G G;rw[e] at this;refine hR.backS hp da G G he.symm ?_;rwa[show rd row i-1+1=rd row i by omega]
include hk hs in
theorem RB (h:jU s k R T row3 row E (CS s row 0)) (b:sM s k R T row3): ∀(m:Nat) (p:Int),s.length-p<=m->isS s p-> ∃q:Int,0<=q/\q<s.length/\rd row q=p
 |0,p,hm,hp=>by have:=hp.1;omega
 | m+1,p,hm,hp=>by
  have hb:=hp.1;rw[h.closed p hp];obtain⟨a,_,_⟩:=hp.next;rcases rD (s:=s) (p:=p+1) G with l|l
  ·obtain ⟨q,q0,q1,e⟩:=b.all (p+1) l;refine⟨q,q0,q1,?_⟩;obtain⟨c,⟨c0,ck⟩,h1,h2⟩:=iB hk hs q0 q1;have hE:=h.hE c c0 ck;have hr:=LG (b:=b) c0 ck;rw[h.rest c q c0 ck h1 ?_,e];rcases bz q (T c) with d|d
   ·omega
   ·have:=b.none_ c q c0 ck d h2;omega
  ·exact RB h b m (p+1) G l
include hk hs in
theorem ZX (h:jU s k R T row3 row E C) (b:sM s k R T row3) {p:Int} (hp:isL s p): ∃q:Int,0<=q/\q<s.length/\rd row q=p:=by
 obtain⟨q,q0,q1,e⟩:=b.all p hp;refine⟨q,q0,q1,?_⟩;obtain⟨c,⟨c0,ck⟩,h1,h2⟩:=iB hk hs q0 q1;have hE:=h.hE c c0 ck;have hr:=LG (b:=b) c0 ck;have hb:=hp.1;rw[h.rest c q c0 ck h1 ?_,e];rcases bz q (T c) with d|d
 ·omega
 ·have:=b.none_ c q c0 ck d h2;omega
include hk hs in
theorem DN (h:jU s k R T row3 row E (CS s row 0)) (b:sM s k R T row3):row.Perm (iota s.length)/\(∀q:Int,0<=q->q+1<s.length->rd s (rd row q)<=rd s (rd row (q+1)))/\row.Pairwise R:=by
 have ka: ∀p:Int,0<=p/\p<s.length-> ∃q:Int,0<=q/\q<s.length/\rd row q=p:=λp hp=>by
  rcases rD hp with l|l
  ·exact ZX hk hs h b l
  ·exact RB hk hs h b (s.length-p).toNat p G l
 have sg:(iota s.length).Perm row:=qZ (eT _) (λx hx=>by
  obtain⟨q,q0,q1,rfl⟩:=ka x (aZ.1 hx)
  exact bI q0 (by rw[h.len];exact q1)) (by rw[h.len,bD];exact dx _)
 have ff: ∀q:Int,0<=q->q<s.length->0<=rd row q/\rd row q<s.length:=λq q0 q1=>aZ.1 (sg.symm.subset (bI q0 (by rw[h.len];exact q1)))
 have l4: ∀c q:Int,0<=c->c<k->st s k c<=q->q<st s k (c+1)->0<=q->q<s.length->rd s (rd row q)=c:=λc q c0 ck h1 h2 q0 q1=>by
  have hp:=ff q q0 q1;rcases h.at_ b c0 ck h1 h2 with a|a|a
  ·exact a.2.2
  ·exact a.2.2
  ·omega
 refine⟨sg.symm,λq q0 q1=> ?_,?_⟩
 ·obtain ⟨c,⟨c0,ck⟩,h1,h2⟩:=iB hk hs q0 G;obtain⟨d,⟨d0,dk⟩,h3,h4⟩:=iB hk hs (q:=q+1) G q1;rw[l4 c q c0 ck h1 h2 q0 G,l4 d (q+1) d0 dk h3 h4 G q1];rcases bz d c with e|e
  ·have:=lF (s:=s) d0 e (by omega:c<=k);omega
  ·exact e
 ·refine ed.2 λx y hx hy Lu=> ?_
  have e: ∀z (hz:z<row.length),rd row z=row[z]:=λz hz=>by
   unfold rd;rw[cz,ai,av hz];rfl
  rw[h.len] at hx hy;have:=h.sorted x y G G G (ff x G G).1 (ff y G G).1;rwa[e x (by rw[h.len];exact hx),e y (by rw[h.len];exact hy)] at this
end
end Go.Pure
namespace Go.Pure
open Go Go.Eng
section
variable {s:AH} {k:Int}
structure xW (s:AH) (k:Int) (l:AH) (row E:AH):Prop where
 len:row.length=s.length
 elen:E.length=k.toNat
 hE: ∀c,0<=c->c<k->rd E c=st s k (c+1)-(dX l s c).length
 vals: ∀c u:Int,0<=c->c<k->0<=u->u<(dX l s c).length->rd row (rd E c+u)=rd (dX l s c) u
 none_: ∀c q,0<=c->c<k->st s k c<=q->q<rd E c->rd row q= -1
def kR (s l:AH):Prop:=l.Nodup/\ ∀j∈l,(0<=j/\j<s.length)/\gL s j=true
theorem kX {l:AH} (h:l.Perm (bP s)):kR s l:=⟨h.symm.nodup (zZ s),λj hj=>tX.1 (h.subset hj)⟩
theorem kR.tail {l:AH} {j:Int} (h:kR s (j::l)):kR s l:=⟨(wo.1 h.1).2,λx hx=>h.2 x (fo _ hx)⟩
theorem kR.small {l:AH} (h:kR s l) {j:Int} (hj:j∈l):isS s j:=⟨(h.2 j hj).1,(nG.1 (h.2 j hj).2).2.1⟩
theorem wP {l:AH} (h:kR s l) (c:Int):(dX l s c).length<=(JA s c).length:=
 oM (h.1.sublist uj) λx hx=>by
  obtain⟨h1,h2⟩:=nu.1 hx;rw[il] at h2;exact NE.2 ⟨h.small h1,h2⟩
theorem pY {l keys:AH} {j c:Int} (h:rd keys j=c):dX (j::l) keys c=j::dX l keys c:=by
 unfold dX;rw[nz (by simpa using h)]
theorem tQ {l keys:AH} {j c:Int} (h:rd keys j≠c):dX (j::l) keys c=dX l keys c:=by
 unfold dX;rw[kz (by simpa using h)]
theorem aFm (hk:0<=k) (hs: ∀x∈s,0<=x/\x<k) {E:AH} (hE:E.length=k.toNat) (Rw: ∀c,0<=c->c<k->rd E c=st s k (c+1)):xW s k [] (List.replicate s.length (-1)) E:=by
 refine⟨cD,hE,λc c0 ck=>by rw[Rw c c0 ck];simp[dX],λc u _ _ _ hu=>by simp[dX] at hu;omega,λc q c0 ck h1 h2=> ?_⟩;rw[Rw c c0 ck] at h2;have h0:=fU (s:=s) (k:=k) (c:=c);have h3:=zB hk hs (c:=c+1) G G;unfold rd;rw[ai,Ag,di G];rfl
variable {row E:AH} {l:AH} {j:Int}
theorem xW.room (hk:0<=k) (hs: ∀x∈s,0<=x/\x<k) (h:xW s k l row E) (ok:kR s (j::l)):st s k (rd s j)<=rd E (rd s j)-1/\(0<=rd E (rd s j)-1/\rd E (rd s j)-1<s.length)/\(0<=rd s j/\rd s j<k)/\rd E (rd s j)<=st s k (rd s j+1):=by
 have hj:=ok.2 j cD;obtain⟨c0,ck⟩:=nJ hs hj.1;have h1:=wP ok (rd s j);rw[pY rfl,dn] at h1;have h2:=lD (s:=s) c0 ck;have h3:=h.hE _ c0 ck;have h4:=fU (s:=s) (k:=k) (c:=rd s j);have h5:=zB hk hs (c:=rd s j+1) G G;omega
theorem xW.step (hk:0<=k) (hs: ∀x∈s,0<=x/\x<k) (h:xW s k l row E) (ok:kR s (j::l)):xW s k (j::l) (upd row (rd E (rd s j)-1) j) (upd E (rd s j) (rd E (rd s j)-1)):=by
 obtain⟨r1,⟨r2,r3⟩,⟨c0,ck⟩,r4⟩:=h.room hk hs ok;have im: ∀q,0<=q->rd (upd row (rd E (rd s j)-1) j) q=if q=rd E (rd s j)-1 then j else rd row q:=λq q0=>gH r2 q0 (by rw[h.len];omega)
 have Nm: ∀c,0<=c->rd (upd E (rd s j) (rd E (rd s j)-1)) c=if c=rd s j then rd E (rd s j)-1 else rd E c:=λc Rk=>gH c0 Rk (by rw[h.elen];omega)
 refine⟨by rw[aX];exact h.len,by rw[aX];exact h.elen,λc d0 dk=> ?_,λc u d0 dk u0 hu=> ?_,λc q d0 dk q1 q2=> ?_⟩
 ·rw [Nm c d0];by_cases e:c=rd s j
  ·rw[di e,e,pY rfl,h.hE _ c0 ck,dn];omega
  ·rw[df e,tQ λh=>e h.symm];exact h.hE c d0 dk
 ·rw [Nm c d0];have Kp:=h.hE c d0 dk;have hsc:=lD (s:=s) d0 dk;have By:=wP ok c;have k6:=fU (s:=s) (k:=k) (c:=c);by_cases e:c=rd s j
  ·subst e;rw[di rfl];rw[pY rfl] at hu By ⊢;rw[dn] at hu By;rw[im _ G];by_cases e2:u=0
   ·subst e2;rw[di G];rfl
   ·rw [df G];have:=h.vals _ (u-1) c0 ck G G;rw[show rd E (rd s j)-1+u=rd E (rd s j)+(u-1) by omega,this];unfold rd;rw[show u.toNat=(u-1).toNat+1 by omega];rfl
  ·rw [df e];rw[tQ λh=>e h.symm] at hu By ⊢;rw[im _ G,df,h.vals c u d0 dk u0 hu];intro e2;exact e (oV (s:=s) d0 dk c0 ck (q:=rd E c+u) G G G G)
 ·rw [Nm c d0] at q2;have Kp:=h.hE c d0 dk;have k6:=fU (s:=s) (k:=k) (c:=c);rw[im q G];by_cases e:c=rd s j
  ·rw [di e] at q2;rw[df G];subst e;exact h.none_ _ q d0 dk q1 G
  ·rw [df e] at q2;rw[df,h.none_ c q d0 dk q1 q2];intro e2;exact e (oV (s:=s) d0 dk c0 ck (q:=q) q1 G G G)
theorem iW {l:AH} {u:Nat} (h:u<l.length):rd l (u:Int)=l[u]:=by
 unfold rd;rw[cz,ai,av h];rfl
theorem fE {l:AH} {i:Int} (h0:0<=i) (h:i<l.length):rd l i=l[i.toNat]' G:=by
 unfold rd;rw[ai,av G];rfl
theorem eY {l:AH} {r:Int->Int->Prop} (h:l.Pairwise r) {i j:Int} (h0:0<=i) (pn:i<j) (hj:j<l.length):r (rd l i) (rd l j):=by
 rw[fE h0 G,fE G hj];exact ed.1 h i.toNat j.toNat G G G
theorem kK {l:AH} (hd:l.Nodup) {i j:Int} (h0:0<=i) (h:i<l.length) (g0:0<=j) (g:j<l.length) (e:rd l i=rd l j):i=j:=by
 have hi:i.toNat<l.length:=G
 have hj:j.toNat<l.length:=G
 unfold rd at e;rw[ai,ai,av hi,av hj] at e;simp only[oz] at e;rcases jk i j with a|a|a
 ·exact absurd e (ed.1 hd i.toNat j.toNat hi hj G)
 ·exact a
 ·exact absurd e.symm (ed.1 hd j.toNat i.toNat hj hi G)
theorem vB {R:Int->Int->Prop} (hR:aYg s R) (hk:0<=k) (hs: ∀x∈s,0<=x/\x<k) (h:xW s k l row E) (hp:l.Perm (bP s)) (hσ: ∀c,(dX l s c).Pairwise R):vK s k R (λc=>(dX l s c).length) row:=by
 have ok:=kX hp
 have sr: ∀c q,0<=c->c<k->st s k c<=q->q<st s k (c+1)->(q<rd E c/\rd row q= -1)\/(rd E c<=q/\rd row q=rd (dX l s c) (q-rd E c)/\rd row q∈dX l s c):=by
  intro c q c0 ck h1 h2;have Kp:=h.hE c c0 ck;rcases bz q (rd E c) with a|a
  ·exact .inl ⟨a,h.none_ c q c0 ck h1 a⟩
  ·have:=h.vals c (q-rd E c) c0 ck G G;rw[show rd E c+(q-rd E c)=q by omega] at this;refine .inr ⟨a,this,?_⟩;rw[this];exact bI G G
 have ft: ∀ {c x},x∈dX l s c->isS s x/\rd s x=c/\x∈l:=λ{c x} hx=>by
  obtain⟨h1,h2⟩:=nu.1 hx;rw[il] at h2;exact⟨ok.small h1,h2,h1⟩
 have ff: ∀q:Int,0<=q->q<s.length->0<=rd row q-> ∃c,(0<=c/\c<k)/\st s k c<=q/\q<st s k (c+1)/\rd E c<=q/\rd row q=rd (dX l s c) (q-rd E c)/\rd row q∈dX l s c:=by
  intro q q0 q1 hq;obtain⟨c,⟨c0,ck⟩,h1,h2⟩:=iB hk hs q0 q1;rcases sr c q c0 ck h1 h2 with a|a
  ·omega
  ·exact⟨c,⟨c0,ck⟩,h1,h2,a⟩
 refine⟨h.len,λc c0 ck=>⟨G,by have:=wP ok c;omega⟩,λc q c0 ck h1 h2=> ?_,λc q c0 ck h1 h2=> ?_,λq r q0 q1 r0 r1 hq e=> ?_,λp p0 p1 hf=> ?_,λx y x0 xy y1 hx hy=> ?_⟩
 ·have Kp:=h.hE c c0 ck;have ge:=lD (s:=s) c0 ck;have:=wP ok c;rcases sr c q c0 ck G h2 with a|a
  ·omega
  ·have:=ft a.2.2;exact⟨this.1,this.2.1⟩
 ·have Kp:=h.hE c c0 ck;exact h.none_ c q c0 ck h1 G
 ·rw [h.len] at q1 r1;obtain⟨c,⟨c0,ck⟩,h1,h2,h3,h4,h5⟩:=ff q q0 q1 hq;obtain⟨d,⟨d0,dk⟩,g1,g2,g3,g4,g5⟩:=ff r r0 r1 G
  have o8:c=d:=by
   have a:=(ft h5).2.1;have b:=(ft g5).2.1;rw[e] at a;omega
  subst o8;have Kp:=h.hE c c0 ck;rw[h4,g4] at e;have:=kK (ok.1.sublist uj:(dX l s c).Nodup) G G G G e;omega
 ·have sk:=hp.symm.subset (tX.2 ⟨⟨p0,p1⟩,hf⟩);obtain⟨c0,ck⟩:=nJ hs ⟨p0,p1⟩;have Fl:p∈dX l s (rd s p):=nu.2 ⟨sk,cD⟩;obtain⟨u,hu,e⟩:=gz.1 Fl;have Kp:=h.hE _ c0 ck;have ge:=lD (s:=s) c0 ck;have By:=wP ok (rd s p);have k6:=fU (s:=s) (k:=k) (c:=rd s p);have ox:=zB hk hs (c:=rd s p+1) G G;refine⟨rd E (rd s p)+u,G,G,?_⟩;rw[h.vals _ u c0 ck G G,iW hu];exact e
 ·obtain ⟨c,⟨c0,ck⟩,h1,h2,h3,h4,h5⟩:=ff x x0 G hx;obtain⟨d,⟨d0,dk⟩,g1,g2,g3,g4,g5⟩:=ff y G y1 hy;have a:=ft h5;have b:=ft g5;rcases jk c d with o8|o8|o8
  ·exact hR.char a.1.1 b.1.1 G
  ·subst o8;have Kp:=h.hE c c0 ck;rw[h4,g4];exact eY (hσ c) G G G
  ·have:=lF (s:=s) d0 o8 (by omega:c<=k);omega
def noS (s:AH) (x:Int):Int:=if 0<=x/\smB s x=true then -1 else x
theorem cleared (hk:0<=k) (hs: ∀x∈s,0<=x/\x<k) {R R':Int->Int->Prop} (Is: ∀p q,isL s p->isL s q->R p q->R' p q) {mF:Int->Int} {row0 H V:AH} (h:jV s k R mF row0 row H (CL s row s.length)) (b:vK s k R mF row0) (hl:V.length=s.length) (hV: ∀q:Int,0<=q->q<s.length->rd V q=noS s (rd row q)):
  sM s k R' (λc=>rd H c) V/\ ∀q:Int,0<=q->q<s.length-> ¬isS s (rd V q):=by
 have k6: ∀q:Int,0<=q->q<s.length->0<=rd V q->rd V q=rd row q:=λq q0 q1 hq=>by
  rw[hV q q0 q1] at hq ⊢;unfold noS at hq ⊢;split
  ·rename_i e;rw[di e] at hq;omega
  ·rfl
 have hL: ∀q:Int,0<=q->q<s.length->isL s (rd row q)->rd V q=rd row q:=λq q0 q1 hq=>by
  rw[hV q q0 q1];unfold noS;rw[df];rintro⟨_,e⟩;exact hq.not_S ⟨hq.1,e⟩
 refine⟨⟨hl,h.hH,λc q c0 ck h1 h2=> ?_,λc q c0 ck h1 h2=> ?_,λq r q0 q1 r0 r1 hq e=> ?_,λp hp=> ?_,λx y x0 xy y1 hx hy=> ?_⟩,λq q0 q1 hq=> ?_⟩
 ·have h0:=fU (s:=s) (k:=k) (c:=c);have hH:=h.hH c c0 ck;have hr:=JM (b:=b) c0 ck;have hm:=b.m0 c c0 ck;have ox:=zB hk hs (c:=c+1) G G;have:=h.placed c q c0 ck h1 h2;rw[hL q G G this.1];exact this
 ·have h0:=fU (s:=s) (k:=k) (c:=c);have hH:=h.hH c c0 ck;have ox:=zB hk hs (c:=c+1) G G;rw[hV q G G];unfold noS;rcases h.at_ b c0 ck G h2 with a|a|a
  ·omega
  ·rw[di ⟨a.2.1.1.1,a.2.1.2⟩]
  ·rw[a.2,df G]
 ·rw [hl] at q1 r1;have e1:=k6 q q0 q1 hq;have e2:=k6 r r0 r1 G;exact h.once q r q0 (by rw[h.len];exact q1) r0 (by rw[h.len];exact r1) G G
 ·obtain ⟨q,q0,q1,e⟩:=SK hk hs h b (s.length-p).toNat p G hp;exact⟨q,q0,q1,by rw[hL q q0 q1 (by rw[e];exact hp)];exact e⟩
 ·have ex:=k6 x x0 G hx;have ey:=k6 y G y1 hy;rw[ex,ey];rw[ex] at hx;rw[ey] at hy
  have hLV: ∀q:Int,0<=q->q<s.length->0<=rd row q->rd V q=rd row q->isL s (rd row q):=λq q0 q1 hq eV=>by
   obtain⟨c,⟨c0,ck⟩,h1,h2⟩:=iB hk hs q0 q1;rcases h.at_ b c0 ck h1 h2 with a|a|a
   ·exact a.2.1
   ·rw [hV q q0 q1] at eV;unfold noS at eV;rw[di ⟨a.2.1.1.1,a.2.1.2⟩] at eV;omega
   ·omega
  exact Is _ _ (hLV x x0 G hx ex) (hLV y G y1 hy ey) (h.sorted x y x0 xy y1 hx hy)
 ·have e:=k6 q q0 q1 hq.1.1;rw[e] at hq;rw[hV q q0 q1] at e;unfold noS at e;rw[di ⟨hq.1.1,hq.2⟩] at e;have:=hq.1.1;omega
def bGx (s:AH) (j:Int) (z:AH × AH):AH × AH:=(upd z.1 (rd z.2 (rd s j)-1) j,upd z.2 (rd s j) (rd z.2 (rd s j)-1))
def bBi (s:AH) (j:Int) (z:AH × AH):AH × AH:=(upd z.1 (rd z.2 (rd s j)) j,upd z.2 (rd s j) (rd z.2 (rd s j)+1))
def YB (s:AH) (i:Int) (z:AH × AH):AH × AH:=if 0<rd z.1 i/\smB s (rd z.1 i-1)=false then bBi s (rd z.1 i-1) z else z
def XZ (s:AH) (i:Int) (z:AH × AH):AH × AH:=if 0<rd z.1 i/\smB s (rd z.1 i-1)=true then bGx s (rd z.1 i-1) z else z
def rG (cs:AH):AH:=(List.range cs.length).map λi:Nat=>ps cs ((i:Int)+1)
def itF (s:AH) (k:Int) (l:AH):AH × AH:=l.foldr (bGx s) (List.replicate s.length (-1),rG (eF s k))
def itL (s:AH) (k:Int) (l:AH):Nat->AH × AH
 |0=>bBi s (s.length-1) ((itF s k l).1,dD (eF s k))
 |i+1=>YB s i (itL s k l i)
def EF (s row:AH):AH:=row.map (noS s)
def itS (s:AH) (k:Int) (l:AH):Nat->AH × AH
 |0=>(EF s (itL s k l s.length).1,rG (eF s k))
 |m+1=>XZ s (s.length-1-m) (itS s k l m)
def rE (s:AH) (k:Int) (l:AH):AH:=(itS s k l s.length).1
theorem GK (cs:AH):(rG cs).length=cs.length:=by simp[rG]
theorem ME {cs:AH} {i:Int} (h0:0<=i) (h:i<cs.length):rd (rG cs) i=ps cs (i+1):=by
 unfold rG;rw[iL h0 h];rw[show((i.toNat:Nat):Int)=i by omega]
variable (hk:0<=k) (hs: ∀x∈s,0<=x/\x<k)
include hk hs in
theorem zY: ∀ {l:AH},kR s l->xW s k l (itF s k l).1 (itF s k l).2
 |[],_=>aFm hk hs (by show(rG _).length=_;rw[GK,dY]) λc c0 ck=>by
  show rd (rG _) c=_;rw[ME c0 (by rw[dY];omega)];rfl
 |j::l,ok=>(zY (l:=l) ok.tail).step hk hs ok
section
variable {R R':Int->Int->Prop} (hR:aYg s R) (Lz:bDc s R') (Is: ∀p q,isL s p->isL s q->R p q->R' p q) (hσ: ∀c,(dX l s c).Pairwise R)
include hk hs hR hσ in
theorem VU (hp:l.Perm (bP s)) (hn:0<s.length): ∀i:Nat,i<=s.length->jV s k R (λc=>(dX l s c).length) (itF s k l).1 (itL s k l i).1 (itL s k l i).2 (CL s (itL s k l i).1 i)
 |0,_=>ZY hk hs hR (vB hR hk hs (zY hk hs (kX hp)) hp hσ) hn (by rw[fH,dY]) λc c0 ck=>oD c0 (by rw[dY];omega)
 | i+1,hi=>by
  have ih:=VU hp hn i G;have b:=vB hR hk hs (zY hk hs (kX hp)) hp hσ;rw[show((i+1:Nat):Int)=(i:Int)+1 by omega];rw[itL];unfold YB;split
  ·rename_i hc;exact aEz hk hs hR ih b G G hc
  ·rename_i hc;exact aFa ih hc
theorem aZw {row:AH} {q:Int} (h0:0<=q) (h:q<row.length):rd (EF s row) q=noS s (rd row q):=by
 unfold EF rd;rw[ai,ai,ol,av G];rfl
include hk hs hR hσ Is in
theorem sH (hp:l.Perm (bP s)) (hn:0<s.length):sM s k R' (λc=>rd (itL s k l s.length).2 c) (EF s (itL s k l s.length).1)/\ ∀q:Int,0<=q->q<s.length-> ¬isS s (rd (EF s (itL s k l s.length).1) q):=by
 have h:=VU hk hs hR hσ hp hn s.length (dx _);exact cleared hk hs Is h (vB hR hk hs (zY hk hs (kX hp)) hp hσ) (by unfold EF;rw[bq];exact h.len) λq q0 q1=>aZw q0 (by rw[h.len];exact q1)
include hk hs hR Lz hσ Is in
theorem VT (hp:l.Perm (bP s)) (hn:0<s.length): ∀m:Nat,m<=s.length->jU s k R' (λc=>rd (itL s k l s.length).2 c) (EF s (itL s k l s.length).1) (itS s k l m).1 (itS s k l m).2 (CS s (itS s k l m).1 (s.length-m))
 | 0,_=>by
  have b:=sH hk hs hR Is hσ hp hn
  exact YG b.1 (by show(rG _).length=_;rw[GK,dY]) (λc c0 ck=>by
   show rd (rG _) c=_;rw[ME c0 (by rw[dY];omega)]
   rfl) b.2
 | m+1,hm=>by
  have ih:=VT hp hn m G;have b:=(sH hk hs hR Is hσ hp hn).1;rw[show(s.length:Int)-(m:Nat)=(s.length-1-(m:Int))+1 by omega] at ih;rw[show(s.length:Int)-((m+1:Nat):Int)=s.length-1-(m:Int) by omega];rw[itS];unfold XZ;split
  ·rename_i hc;exact aDm hk hs Lz ih b G G hc
  ·rename_i hc;exact aDn ih hc
include hk hs hR Lz hσ Is in
theorem aAc (hp:l.Perm (bP s)) (hn:0<s.length):(rE s k l).Perm (iota s.length)/\(∀q:Int,0<=q->q+1<s.length->rd s (rd (rE s k l) q)<=rd s (rd (rE s k l) (q+1)))/\(rE s k l).Pairwise R':=by
 have h:=VT hk hs hR Lz Is hσ hp hn s.length (dx _);rw[show(s.length:Int)-(s.length:Nat)=0 by omega] at h;exact DN hk hs h (sH hk hs hR Is hσ hp hn).1
end
def RO (s l:AH) (x y:Int):Prop:=l.Pairwise (bY s)->bY s x y
theorem aYh:aYg s (RO s l):=⟨λhp hq h _=>tN hp hq h,λhp hq h _=>aEt hp hq h,λhn q0 hq e _ _=>aTc hn q0 hq e,λhp hq p1 q1 e h hσ=>MV hp.1.1 p1 hq.1.1 q1 e (h hσ)⟩
theorem bNi:bDc s (RO s l):=⟨λhp hq h _=>tN hp hq h,λhp hq h _=>aEt hp hq h,λhp hq p1 q1 e h hσ=>MV hp.1.1 p1 hq.1.1 q1 e (h hσ)⟩
theorem PE (c:Int):(dX l s c).Pairwise (RO s l):=by
 by_cases h:l.Pairwise (bY s)
 ·exact(h.sublist uj:(dX l s c).Pairwise (bY s)).imp λh _=>h
 ·exact List.pairwise_of_forall λ_ _ hσ=>absurd hσ h
include hk hs in
theorem xG (hp:l.Perm (bP s)):vK s k (RO s l) (λc=>(dX l s c).length) (itF s k l).1:=vB aYh hk hs (zY hk hs (kX hp)) hp PE
include hk hs in
theorem VV (hp:l.Perm (bP s)) (hn:0<s.length): ∀i:Nat,i<=s.length->jV s k (RO s l) (λc=>(dX l s c).length) (itF s k l).1 (itL s k l i).1 (itL s k l i).2 (CL s (itL s k l i).1 i):=VU hk hs aYh PE hp hn
include hk hs in
theorem OO (hp:l.Perm (bP s)) (hn:0<s.length):sM s k (RO s l) (λc=>rd (itL s k l s.length).2 c) (EF s (itL s k l s.length).1)/\ ∀q:Int,0<=q->q<s.length-> ¬isS s (rd (EF s (itL s k l s.length).1) q):=sH hk hs aYh (λ_ _ _ _ h=>h) PE hp hn
include hk hs in
theorem aUp (hp:l.Perm (bP s)) (hn:0<s.length): ∀m:Nat,m<=s.length->jU s k (RO s l) (λc=>rd (itL s k l s.length).2 c) (EF s (itL s k l s.length).1) (itS s k l m).1 (itS s k l m).2 (CS s (itS s k l m).1 (s.length-m)):=VT hk hs aYh bNi (λ_ _ _ _ h=>h) PE hp hn
include hk hs in
theorem aIu (hp:l.Perm (bP s)) (hn:0<s.length):(rE s k l).Perm (iota s.length)/\(∀q:Int,0<=q->q+1<s.length->rd s (rd (rE s k l) q)<=rd s (rd (rE s k l) (q+1)))/\(l.Pairwise (bY s)->(rE s k l).Pairwise (bY s)):=by
 have h:=aAc hk hs (l:=l) aYh bNi (λ_ _ _ _ h=>h) PE hp hn;exact⟨h.1,h.2.1,λhσ=>h.2.2.imp λh=>h hσ⟩
end
end Go.Pure
namespace Go.Pure
open Go Go.Eng
section
variable {s:AH} {k:Int} {l row E H V:AH}
theorem aUq {m:Nat} (hm:m<l.length):itF s k (l.drop m)=bGx s (rd l (m:Int)) (itF s k (l.drop (m+1))):=by
 unfold itF;rw[iW hm,ll hm,List.foldr_cons]
theorem DV (h:kR s l) (m:Nat):kR s (l.drop m):=⟨h.1.sublist (zu _ _),λj hj=>h.2 j (ny hj)⟩
variable (hk:0<=k) (hs: ∀x∈s,0<=x/\x<k)
include hk hs in
include hk hs in
theorem fF (hp:l.Perm (bP s)) {m:Nat} (hm:m<l.length) (hr:row=(itF s k (l.drop (m+1))).1) (hE:E=(itF s k (l.drop (m+1))).2):
  (0<=rd l (m:Int)/\rd l (m:Int)<s.length)/\(0<=rd s (rd l (m:Int))/\rd s (rd l (m:Int))<k)/\(0<=rd E (rd s (rd l (m:Int)))-1/\rd E (rd s (rd l (m:Int)))-1<s.length)/\(row.length=s.length/\E.length=k.toNat)/\
  upd row (rd E (rd s (rd l (m:Int)))-1) (rd l (m:Int))=(itF s k (l.drop m)).1/\upd E (rd s (rd l (m:Int))) (rd E (rd s (rd l (m:Int)))-1)=(itF s k (l.drop m)).2:=by
 have ok:=kX hp;have h:=zY hk hs (DV ok (m+1))
 have ok2:kR s (rd l (m:Int)::l.drop (m+1)):=by
  have:=DV ok m;rwa[ll hm,<-iW hm] at this
 have r:=h.room hk hs ok2;rw[aUq hm];subst hr;subst hE;exact⟨(ok2.2 _ cD).1,r.2.2.1,r.2.1,⟨h.len,h.elen⟩,rfl,rfl⟩
include hk hs in
theorem fL0 (hp:l.Perm (bP s)) (hn:0<s.length) (hr:row=(itF s k l).1) (hH:H=dD (eF s k)):
  (0<=rd s ((s.length:Int)-1)/\rd s ((s.length:Int)-1)<k)/\(0<=rd H (rd s ((s.length:Int)-1))/\rd H (rd s ((s.length:Int)-1))<s.length)/\(row.length=s.length/\H.length=k.toNat)/\
  upd row (rd H (rd s ((s.length:Int)-1))) ((s.length:Int)-1)=(itL s k l 0).1/\upd H (rd s ((s.length:Int)-1)) (rd H (rd s ((s.length:Int)-1))+1)=(itL s k l 0).2/\smB s ((s.length:Int)-1)=false:=by
 have h:=zY hk hs (kX hp);have hc:=nJ hs (p:=(s.length:Int)-1) G;have ge:rd H (rd s ((s.length:Int)-1))=st s k (rd s ((s.length:Int)-1)):=by rw[hH,oD hc.1 (by rw[dY];omega)];rfl
 have h1:=fU (s:=s) (k:=k) (c:=rd s ((s.length:Int)-1));have h2:=lD (s:=s) hc.1 hc.2;have h3:=zB hk hs (c:=rd s ((s.length:Int)-1)+1) G G;have hl:isL s ((s.length:Int)-1):=⟨G,qW G G⟩;have h4:0<(JB s (rd s ((s.length:Int)-1))).length:=Dc (NG.2 ⟨hl,rfl⟩);have Jz:=hl.2;subst hr;subst hH;exact⟨hc,G,⟨h.len,by rw[fH,dY]⟩,rfl,rfl,Jz⟩
include hk hs in
theorem fLe (hp:l.Perm (bP s)) (hn:0<s.length) {i:Nat} (hi:i<s.length) (hr:row=(itL s k l i).1) (hH:H=(itL s k l i).2):
  (rd row (i:Int)= -1\/(0<=rd row (i:Int)/\rd row (i:Int)<s.length))/\(row.length=s.length/\H.length=k.toNat):=by
 have h:=VV hk hs hp hn i G;have b:=xG hk hs hp;subst hr;subst hH;exact⟨h.entry hk hs b G G,h.len,h.hlen⟩
include hk hs in
theorem fL (hp:l.Perm (bP s)) (hn:0<s.length) {i:Nat} (hi:i<s.length) (hr:row=(itL s k l i).1) (hH:H=(itL s k l i).2) (hc:0<rd row (i:Int)/\smB s (rd row (i:Int)-1)=false):
  rd row (i:Int)<s.length/\(0<=rd s (rd row (i:Int)-1)/\rd s (rd row (i:Int)-1)<k)/\(0<=rd H (rd s (rd row (i:Int)-1))/\rd H (rd s (rd row (i:Int)-1))<s.length)/\
  upd row (rd H (rd s (rd row (i:Int)-1))) (rd row (i:Int)-1)=(itL s k l (i+1)).1/\upd H (rd s (rd row (i:Int)-1)) (rd H (rd s (rd row (i:Int)-1))+1)=(itL s k l (i+1)).2:=by
 have h:=VV hk hs hp hn i G;have b:=xG hk hs hp;subst hr;subst hH;obtain⟨h1,h2,h3,_⟩:=SI hk hs h b G G hc;have hb:=nJ hs h1.1;have hr:=h.room hk hs b h1 h2;have h4:=(h.hH _ hb.1 hb.2).1;have h5:=fU (s:=s) (k:=k) (c:=rd s (rd (itL s k l i).1 (i:Int)-1));have h6:=zB hk hs (c:=rd s (rd (itL s k l i).1 (i:Int)-1)+1) G G;have h7:=lD (s:=s) hb.1 hb.2;refine⟨h3,hb,⟨G,G⟩,?_,?_⟩
 ·rw[itL,YB,di hc];rfl
 ·rw[itL,YB,di hc];rfl
theorem fLs {i:Nat} (hr:row=(itL s k l i).1) (hH:H=(itL s k l i).2) (hc: ¬(0<rd row (i:Int)/\smB s (rd row (i:Int)-1)=false)):row=(itL s k l (i+1)).1/\H=(itL s k l (i+1)).2:=by
 subst hr;subst hH;rw[itL,YB,df hc];exact⟨rfl,rfl⟩
def rM (s row:AH) (i:Int):AH:=(row.take i.toNat).map (noS s)++row.drop i.toNat
theorem aOt:rM s row 0=row:=by simp[rM]
theorem aBs (i:Int):(rM s row i).length=row.length:=by simp[rM];omega
theorem aXg {i:Int} (h:(row.length:Int)<=i):rM s row i=EF s row:=by
 unfold rM EF;rw[bi G,qd G,jh]
theorem VF {i q:Int} (q0:0<=q) (hq:i<=q) (h0:0<=i) (hl:i<=row.length):rd (rM s row i) q=rd row q:=by
 unfold rM rd;rw[ai,ai,ji cH,qz];simp only[bq,ax];congr 2;omega
theorem TL {i:Int} (h0:0<=i) (hi:i<row.length):rM s row (i+1)=upd (rM s row i) i (noS s (rd row i)):=by
 unfold rM upd;have bp:i.toNat<row.length:=G
 rw[show(i+1).toNat=i.toNat+1 by omega,qm,av bp,Dr _ _ cH,iv];simp only[bq,ax,Am,ko,qx,gq,oh];congr 1;rw[show i.toNat-min i.toNat row.length=0 by omega,ll bp,Fy,fE h0 hi]
theorem bCm {i:Int} (h0:0<=i) (hi:i<row.length) (h:0<=rd (rM s row i) i/\smB s (rd (rM s row i) i)=true):upd (rM s row i) i (-1)=rM s row (i+1):=by
 rw[VF h0 (mf _) h0 G] at h;rw[TL h0 hi,noS,di h]
theorem aQg {l:AH} {i:Int} (h0:0<=i) (hi:i<l.length):upd l i (rd l i)=l:=by
 unfold upd;rw[fE h0 hi,List.set_getElem_self]
theorem bHo {i:Int} (h0:0<=i) (hi:i<row.length) (h: ¬(0<=rd (rM s row i) i/\smB s (rd (rM s row i) i)=true)):rM s row i=rM s row (i+1):=by
 have e:=VF (s:=s) (row:=row) h0 (mf _) h0 (by omega:i<=(row.length:Int));rw[e] at h;rw[TL h0 hi,noS,df h];have:=aQg (l:=rM s row i) h0 (by rw[aBs];exact hi);rw[e] at this;exact this.symm
include hk hs in
theorem bCn (hp:l.Perm (bP s)) (hn:0<s.length) {q:Int} (q0:0<=q) (hq:q<s.length):rd (itL s k l s.length).1 q= -1\/(0<=rd (itL s k l s.length).1 q/\rd (itL s k l s.length).1 q<s.length):=
 (VV hk hs hp hn s.length (dx _)).entry hk hs (xG hk hs hp) q0 hq
include hk hs in
theorem JZ (hp:l.Perm (bP s)) (hn:0<s.length):(itL s k l s.length).1.length=s.length:=(VV hk hs hp hn s.length (dx _)).len
include hk hs in
theorem fSe (hp:l.Perm (bP s)) (hn:0<s.length) {m:Nat} (hm:m<s.length) {i:Int} (hi:i=s.length-1-(m:Int)) (hr:row=(itS s k l m).1) (hE:E=(itS s k l m).2):
  (rd row i= -1\/(0<=rd row i/\rd row i<s.length))/\(row.length=s.length/\E.length=k.toNat):=by
 have h:=aUp hk hs hp hn m G;have b:=(OO hk hs hp hn).1;subst hr;subst hE;exact⟨h.entry hk hs b G G,h.len,h.elen⟩
include hk hs in
theorem fS (hp:l.Perm (bP s)) (hn:0<s.length) {m:Nat} (hm:m<s.length) {i:Int} (hi:i=s.length-1-(m:Int)) (hr:row=(itS s k l m).1) (hE:E=(itS s k l m).2) (hc:0<rd row i/\smB s (rd row i-1)=true):
  rd row i<s.length/\(0<=rd s (rd row i-1)/\rd s (rd row i-1)<k)/\(0<=rd E (rd s (rd row i-1))-1/\rd E (rd s (rd row i-1))-1<s.length)/\
  upd row (rd E (rd s (rd row i-1))-1) (rd row i-1)=(itS s k l (m+1)).1/\upd E (rd s (rd row i-1)) (rd E (rd s (rd row i-1))-1)=(itS s k l (m+1)).2:=by
 have h:=aUp hk hs hp hn m G;have b:=(OO hk hs hp hn).1;subst hr;subst hE;have ke:CS s (itS s k l m).1 (s.length-(m:Int))=CS s (itS s k l m).1 (i+1):=by rw[hi];congr 1;omega
 rw[ke] at h;obtain⟨h1,h2,h3,_⟩:=RA hk hs h b G G hc;have hb:=nJ hs h1.1;have hr:=h.room hk hs b h1 h2;have h4:=h.hE _ hb.1 hb.2;have h5:=fU (s:=s) (k:=k) (c:=rd s (rd (itS s k l m).1 i-1));have h6:=zB hk hs (c:=rd s (rd (itS s k l m).1 i-1)+1) G G;have h7:=lD (s:=s) hb.1 hb.2;refine⟨h3,hb,⟨G,G⟩,?_,?_⟩
 ·rw[itS,XZ,<-hi,di hc];rfl
 ·rw[itS,XZ,<-hi,di hc];rfl
theorem fSs {m:Nat} {i:Int} (hi:i=s.length-1-(m:Int)) (hr:row=(itS s k l m).1) (hE:E=(itS s k l m).2) (hc: ¬(0<rd row i/\smB s (rd row i-1)=true)):row=(itS s k l (m+1)).1/\E=(itS s k l (m+1)).2:=by
 subst hr;subst hE;rw[itS,XZ,<-hi,df hc];exact⟨rfl,rfl⟩
include hk hs in
theorem aUx (hp:l.Perm (bP s)):(rE s k l).length=s.length:=by
 rcases ek s.length with h|h
 ·have e:s=[]:=dw h;subst e;have hl:l=[]:=dw (by rw[hp.length_eq];rfl);subst hl;simp[rE,itS,EF,itL,bBi,itF,upd]
 ·rw[(aIu hk hs hp h).1.length_eq,bD]
theorem aAd (hl:l.Perm (bP [])):rE [] k l=[]:=by
 have hl:l=[]:=dw (by rw[hl.length_eq];rfl);subst hl;simp[rE,itS,EF,itL,bBi,itF,upd]
def smL (s:AH):List Bool:=(List.range s.length).map λi:Nat=>smB s (i:Int)
theorem aYy (s:AH):(smL s).length=s.length:=by simp[smL]
theorem nC {i:Int} (h0:0<=i) (hi:i<s.length):rdb (smL s) i=smB s i:=by
 unfold rdb smL;rw[ai,ol,yw G];simp only[kv,oz];congr 1;omega
theorem bFp {m:List Bool} (hl:m.length=s.length) (h: ∀j:Int,0<=j->j<s.length->rdb m j=smB s j):m=smL s:=
 aOx (by rw[hl,aYy]) λi h0 h1=>by rw[nC h0 G];exact h i h0 G
theorem UR {m:List Bool} {i:Int} {b:Bool} (h0:0<=i) (hi:i+1<s.length) (hl:m.length=s.length) (h: ∀j:Int,i<j->j<s.length->rdb m j=smB s j) (hb:b=true↔rd s i<rd s (i+1)\/rd s i=rd s (i+1)/\rdb m (i+1)=true): ∀j:Int,i-1<j->j<s.length->rdb (qR m i b) j=smB s j:=by
 intro j h1 h2;rw[yE h0 G G];split
 ·rename_i e;subst e;rw[h (j+1) G G,<-vZ h0 hi] at hb;cases b<;>cases hh:smB s j<;>simp_all
 ·exact h j G h2
def NP (s:AH) (i:Int):AH:=(iota i.toNat).filter λi=>gL s i
theorem NN:NP s s.length=bP s:=by unfold NP bP;rw[cz]
theorem GD {i:Int} (h0:0<=i):NP s (i+1)=NP s i++(if gL s i=true then [i] else []):=by
 unfold NP;rw[GC h0,tq];congr 1;by_cases h:gL s i=true
 ·rw[di h,nz h];rfl
 ·rw[df h,kz h];rfl
theorem aAh (i:Int):(NP s i).length<=i.toNat:=by
 unfold NP;refine qy (yc _ _) ?_;rw[bD];exact dx _
theorem NQ:(bP s).length<=s.length:=by rw[<-NN];have:=aAh (s:=s) s.length;omega
end
end Go.Pure
namespace Go.Pure
open Go Go.Eng
section
variable {s:AH} {k:Int}
theorem xC (n:Nat):(iota n).Pairwise (· < ·):=by
 unfold iota;refine ik.2 (List.Pairwise.imp (λh=> ?_) List.pairwise_lt_range);omega
def kk (s:AH) (p:Int):Int:=if p<s.length then 2*rd s p+(if smB s p=true then 1 else 0) else -1
theorem xA {p:Int} (h:(s.length:Int)<=p):kk s p= -1:=df G
theorem DJ {p:Int} (h:p<s.length):kk s p=2*rd s p+(if smB s p=true then 1 else 0):=di h
theorem VQ {p:Int} (h:isL s p):kk s p=2*rd s p:=by rw[DJ h.1.2,h.2];simp
theorem VP {p:Int} (h:isS s p):kk s p=2*rd s p+1:=by rw[DJ h.1.2,h.2];simp
def Nn (s:AH):Prop:= ∀x∈s,0<=x
theorem aUj (hs:Nn s) {p:Int} (h0:0<=p) (h:p<s.length):0<=kk s p:=by
 have:=hs _ (bI h0 h);rw[DJ h];split<;>omega
theorem bJc (hs:Nn s) {p:Int} (h0:0<=p): -1<=kk s p:=by
 rcases bz p s.length with h|h
 ·have:=aUj hs h0 h;omega
 ·rw[xA h];omega
theorem qF (hs:Nn s) {p q:Int} (p0:0<=p) (q0:0<=q) (e:kk s p=kk s q) (h:p<s.length):q<s.length/\rd s p=rd s q/\smB s p=smB s q:=by
 have hq:q<s.length:=by
  rcases bz q s.length with a|a
  ·exact a
  ·have:=aUj hs p0 h;rw[xA a] at e;omega
 rw[DJ h,DJ hq] at e;cases a:smB s p<;>cases b:smB s q<;>simp[a,b] at e<;>exact⟨hq,G,by first|rfl|omega⟩
theorem bBj (hs:Nn s) {p q:Int} (p0:0<=p) (q0:0<=q) (h:kk s p<kk s q) (hp:p<s.length):bY s p q:=by
 have hq:q<s.length:=by
  rcases bz q s.length with a|a
  ·exact a
  ·have:=aUj hs p0 hp;rw[xA a] at h;omega
 rcases rD (s:=s) ⟨p0,hp⟩ with a|a<;>rcases rD (s:=s) ⟨q0,hq⟩ with b|b
 ·rw[VQ a,VQ b] at h;exact tN ⟨p0,hp⟩ ⟨q0,hq⟩ G
 ·rw [VQ a,VP b] at h;by_cases e:rd s p=rd s q
  ·exact aEt a b e
  ·exact tN ⟨p0,hp⟩ ⟨q0,hq⟩ G
 ·rw[VP a,VQ b] at h;exact tN ⟨p0,hp⟩ ⟨q0,hq⟩ G
 ·rw[VP a,VP b] at h;exact tN ⟨p0,hp⟩ ⟨q0,hq⟩ G
theorem CQ {q:Int} (q0:0<=q) (hq:q<s.length) {p:Int} (hp:(s.length:Int)<=p):bY s p q:=by
 rw[<-iE,xK hp,iA q0 hq];simp[cmpL]
theorem aUi (hs:Nn s): ∀(d:Nat) (x y:Int),0<=x->0<=y->(∀i:Nat,i<d->kk s (x+i)=kk s (y+i))->kk s (x+d)<kk s (y+d)->bY s x y
 | 0,x,y,x0,y0,_,h=>by
  simp only[Bl,yj] at h;rcases bz x s.length with a|a
  ·exact bBj hs x0 y0 h a
  ·have hy:y<s.length:=by
    rcases bz y s.length with b|b
    ·exact b
    ·rw[xA a,xA b] at h;omega
   exact CQ y0 hy a
 | d+1,x,y,x0,y0,he,h=>by
  have e0:=he 0 G;simp only[Bl,yj] at e0
  have ih:=aUi hs d (x+1) (y+1) G G (λi hi=>by
   have:=he (i+1) G
   rwa[show x+((i+1:Nat):Int)=x+1+i by omega,show y+((i+1:Nat):Int)=y+1+i by omega] at this) (by rwa[show x+((d+1:Nat):Int)=x+1+d by omega,show y+((d+1:Nat):Int)=y+1+d by omega] at h)
  rcases bz x s.length with a|a
  ·obtain ⟨hy,e,_⟩:=qF hs x0 y0 e0 a;rw[nD x0 a y0 hy];exact .inr ⟨e,iE.2 ih⟩
  ·have b:(s.length:Int)<=y:=by
    rcases bz y s.length with b|b
    ·have:=(qF hs y0 x0 e0.symm b).1;omega
    ·exact b
   rw[xA (by omega:(s.length:Int)<=x+((d+1:Nat):Int)),xA (by omega:(s.length:Int)<=y+((d+1:Nat):Int))] at h;omega
theorem OQ: ∀(d:Nat) (x y:Int),0<=x->0<=y->x+d<s.length->y+d<s.length->(∀i:Nat,i<d->rd s (x+i)=rd s (y+i))->bY s (x+d) (y+d)->bY s x y
 |0,x,y,_,_,_,_,_,h=>by simpa using h
 | d+1,x,y,x0,y0,hx,hy,he,h=>by
  have e0:=he 0 G;simp only[Bl,yj] at e0;refine MV x0 G y0 G e0 (OQ d (x+1) (y+1) G G G G (λi hi=> ?_) ?_)
  ·have:=he (i+1) G;rwa[show x+((i+1:Nat):Int)=x+1+i by omega,show y+((i+1:Nat):Int)=y+1+i by omega] at this
  ·rwa[show x+((d+1:Nat):Int)=x+1+d by omega,show y+((d+1:Nat):Int)=y+1+d by omega] at h
def pcL (s:AH) (x y:Int):Prop:= ∀d:Nat,(∀i:Nat,i<d->kk s (x+i)=kk s (y+i)/\gL s (x+i)=false)->kk s (x+d)<=kk s (y+d)
def pcS (s:AH) (x y:Int):Prop:= ∀d:Nat,(∀i:Nat,i<d->kk s (x+i)=kk s (y+i)/\(0<i->gL s (x+i)=false))->kk s (x+d)<=kk s (y+d)
def pcE (s:AH) (x y:Int):Prop:= ∀d:Nat,(∀i:Nat,0<i->i<d->gL s (x+i)=false)->kk s (x+d)=kk s (y+d)
theorem pcS.toL {x y:Int} (h:pcS s x y):pcL s x y:=λd hd=>h d λi hi=>⟨(hd i hi).1,λ_=>(hd i hi).2⟩
theorem pcL.toS {x y:Int} (h:pcL s x y) (hx:gL s x=false):pcS s x y:=λd hd=>h d λi hi=>⟨(hd i hi).1,by
 rcases ek i with e|e
 ·subst e;simpa using hx
 ·exact(hd i hi).2 e⟩
theorem aSw {x y:Int} (h:kk s x<kk s y):pcS s x y:=λd hd=>by
 rcases ek d with e|e
 ·subst e;simp;omega
 ·have:=(hd 0 e).1;simp at this;omega
theorem MS {x y:Int} (e:kk s x=kk s y) (h:pcL s (x+1) (y+1)):pcS s x y:=λd hd=>by
 match d with
 |0=>simp;omega
 | d+1=>
  have:=h d λi hi=>by
   have:=hd (i+1) G;rw[show x+((i+1:Nat):Int)=x+1+i by omega,show y+((i+1:Nat):Int)=y+1+i by omega] at this;exact⟨this.1,this.2 G⟩
  rwa[show x+((d+1:Nat):Int)=x+1+d by omega,show y+((d+1:Nat):Int)=y+1+d by omega]
theorem isL.not_fst {x:Int} (h:isL s x):gL s x=false:=by
 cases e:gL s x with
 |false=>rfl
 |true=>have:=(nG.1 e).2.1;rw[h.2] at this;cases this
theorem ZF {p q:Int} (hp:0<=p/\p<s.length) (hq:0<=q/\q<s.length) (h:rd s p<rd s q):pcS s p q:=by
 refine aSw ?_;rw[DJ hp.2,DJ hq.2];split<;>split<;>omega
theorem aSx {p q:Int} (hp:isL s p) (hq:isS s q) (e:rd s p=rd s q):pcS s p q:=aSw (by rw[VQ hp,VP hq];omega)
theorem bAf (hs:Nn s):aYg s (pcL s):=⟨λhp hq h=>(ZF hp hq h).toL,λhp hq e=>(aSx hp hq e).toL,λ{q} hn q0 hq e hL=>by
  have hl:isL s (s.length-1):=⟨G,qW G G⟩;refine(MS (by rw[VQ hl,VQ hL,e]) λd hd=> ?_).toL;rw[xA (by omega:(s.length:Int)<=s.length-1+1+d)]
  exact bJc hs G,λhp hq _ _ e h=>(MS (by rw[VQ hp,VQ hq,e]) h).toL⟩
theorem bAe:bDc s (pcS s):=⟨ZF,aSx,λhp hq _ _ e h=>MS (by rw[VP hp,VP hq,e]) h.toL⟩
theorem bGf (l:AH) (ok:kR s l) (c:Int):(dX l s c).Pairwise (pcL s):=by
 refine ed.2 λi j hi hj _=> ?_;have hx:=nu.1 (mg hi);have hy:=nu.1 (mg hj);rw[il] at hx hy;intro d hd
 match d with
 |0=>simp only[Bl,yj];rw[VP (ok.small hx.1),VP (ok.small hy.1)];omega
 |d+1=>
  have:=(hd 0 G).2;simp only[Bl,yj] at this;rw[(ok.2 _ hx.1).2] at this;cases this
theorem aFg (hk:0<=k) (hs: ∀x∈s,0<=x/\x<k) {l:AH} (hp:l.Perm (bP s)) (hn:0<s.length):(rE s k l).Perm (iota s.length)/\(rE s k l).Pairwise (pcS s):=by
 have h:=aAc hk hs (bAf λx hx=>(hs x hx).1) bAe (λp q hp _ h=>h.toS hp.not_fst) (bGf l (kX hp)) hp hn;exact⟨h.1,h.2.2⟩
theorem bHb (hs:Nn s) {x y:Int} (x0:0<=x) (y0:0<=y) (e:kk s x=kk s y) (e1:kk s (x+1)=kk s (y+1)):gL s (x+1)=gL s (y+1):=by
 unfold gL;rw[show x+1-1=x by omega,show y+1-1=y by omega];rw[ni (by omega:0<x+1),ni (by omega:0<y+1)];rcases bz (x+1) s.length with a|a
 ·rw[(qF hs x0 y0 e G).2.2,(qF hs G G e1 a).2.2]
 ·have b:(s.length:Int)<=y+1:=by
   rcases bz (y+1) s.length with b|b
   ·have:=(qF hs G G e1.symm b).1;omega
   ·exact b
  rw[qW (i:=x+1) G G,qW (i:=y+1) G G];simp
theorem DR (hs:Nn s) {x y:Int} (x0:0<=x) (y0:0<=y) {i:Nat} (hi:0<i) (e: ∀j:Nat,j<=i->kk s (x+j)=kk s (y+j)):gL s (x+i)=gL s (y+i):=by
 have h1:=e (i-1) G;have h2:=e i (dx _);have:=bHb hs (x:=x+((i-1:Nat):Int)) (y:=y+((i-1:Nat):Int)) G G h1 (by rwa[show x+((i-1:Nat):Int)+1=x+i by omega,show y+((i-1:Nat):Int)+1=y+i by omega]);rwa[show x+((i-1:Nat):Int)+1=x+i by omega,show y+((i-1:Nat):Int)+1=y+i by omega] at this
theorem BR (hs:Nn s) {x u v y:Int} (x0:0<=x) (u0:0<=u) (v0:0<=v) (h1:pcS s x u) (h2:pcS s u v) (h3:pcS s v y) (he:pcE s x y): ∀d:Nat,(∀i:Nat,0<i->i<d->gL s (u+i)=false)-> ∀i:Nat,i<=d->kk s (x+i)=kk s (u+i)/\kk s (u+i)=kk s (v+i)/\kk s (x+i)=kk s (y+i)
 |0,_,i,hi=>by
  obtain rfl:i=0:=G
  have a:=h1 0 (λi hi=>G);have b:=h2 0 (λi hi=>G);have c:=h3 0 (λi hi=>G);have d:=he 0 (λi _ hi=>G);omega
 | d+1,hd,i,hi=>by
  have ih:=BR hs x0 u0 v0 h1 h2 h3 he d λi h0 hi=>hd i h0 G;rcases gm d i with g|g
  ·obtain rfl:i=d+1:=G
   have fu: ∀i:Nat,i<d+1->0<i->gL s (u+i)=false:=λi hi h0=>hd i h0 hi
   have fx: ∀i:Nat,i<d+1->0<i->gL s (x+i)=false:=λi hi h0=>by
    rw[DR hs x0 u0 h0 λj hj=>(ih j G).1];exact fu i hi h0
   have vy: ∀i:Nat,i<d+1->kk s (v+i)=kk s (y+i):=λi hi=>by have:=ih i G;omega
   have a:=h1 (d+1) λi hi=>⟨(ih i G).1,fx i hi⟩;have b:=h2 (d+1) λi hi=>⟨(ih i G).2.1,fu i hi⟩;have e:=he (d+1) λi h0 hi=>fx i hi h0
   have c:kk s (v+((d+1:Nat):Int))<=kk s (y+((d+1:Nat):Int)):=by
    refine h3 (d+1) λi hi=>⟨vy i hi,λh0=> ?_⟩;rw[<-DR hs u0 v0 h0 λj hj=>(ih j G).2.1];exact fu i hi h0
   omega
  ·exact ih i g
theorem aDp (hs:Nn s) {x u v y:Int} (x0:0<=x) (u0:0<=u) (v0:0<=v) (h1:pcS s x u) (h2:pcS s u v) (h3:pcS s v y) (he:pcE s x y):pcE s x u/\pcE s u v:=by
 refine⟨λd hd=> ?_,λd hd=>(BR hs x0 u0 v0 h1 h2 h3 he d hd d (dx _)).2.1⟩
 suffices h: ∀d:Nat,(∀i:Nat,0<i->i<d->gL s (x+i)=false)-> ∀i:Nat,i<=d->kk s (x+i)=kk s (u+i) from h d hd d (dx _)
 intro d
 induction d with
 |zero=>intro _ i hi;obtain rfl:i=0:=G;exact(BR hs x0 u0 v0 h1 h2 h3 he 0 (λi h0 hi=>G) 0 (dx _)).1
 |succ d ih=>
  intro hd i hi;have Wj:=ih λi h0 hi=>hd i h0 G;refine(BR hs x0 u0 v0 h1 h2 h3 he (d+1) (λj h0 hj=> ?_) i hi).1;rw[<-DR hs x0 u0 h0 λm hm=>Wj m G];exact hd j h0 hj
theorem pcE.symm (hs:Nn s) {x y:Int} (x0:0<=x) (y0:0<=y) (h:pcE s x y):pcE s y x:=by
 intro d hd
 suffices g: ∀d:Nat,(∀i:Nat,0<i->i<d->gL s (y+i)=false)-> ∀i:Nat,i<=d->kk s (y+i)=kk s (x+i) from g d hd d (dx _)
 intro d
 induction d with
 |zero=>intro _ i hi;obtain rfl:i=0:=G;exact(h 0 λi h0 hi=>G).symm
 | succ d ih=>
  intro hd i hi;have Wj:=ih λi h0 hi=>hd i h0 G;rcases gm d i with g|g
  ·obtain rfl:i=d+1:=G
   refine(h (d+1) λj h0 hj=> ?_).symm;rw[<-DR hs y0 x0 h0 λm hm=>Wj m G];exact hd j h0 hj
  ·exact Wj i g
theorem bAg (hs:Nn s) {x y:Int} (x0:0<=x) (y0:0<=y) (h:pcS s x y) (cv: ¬pcE s x y):bY s x y:=by
 have key: ∀D:Nat,(∀i:Nat,0<i->i<D->gL s (x+i)=false)-> ¬kk s (x+D)=kk s (y+D)-> ∃d:Nat,(∀i:Nat,i<d->kk s (x+i)=kk s (y+i))/\kk s (x+d)<kk s (y+d):=by
  intro D
  induction D using Nat.strongRecOn with
  | ind D ih=>
   intro hD cv;by_cases he: ∀i:Nat,i<D->kk s (x+i)=kk s (y+i)
   ·have:=h D λi hi=>⟨he i hi,λh0=>hD i h0 hi⟩;exact⟨D,he,G⟩
   ·obtain ⟨i,hi⟩:=Eg.1 he;obtain⟨gd,Oi⟩:=Classical.not_imp.1 hi;exact ih i gd (λj h0 hj=>hD j h0 G) Oi
 obtain⟨D,hD⟩:=Eg.1 cv;obtain⟨hD1,hD2⟩:=Classical.not_imp.1 hD;obtain⟨d,h1,h2⟩:=key D hD1 hD2;exact aUi hs d x y x0 y0 h1 h2
structure NxI (s:AH) (x z:Int):Prop where
 gt:x<z
 le:z<=s.length
 no: ∀q,x<q->q<z->gL s q=false
 is:z<s.length->gL s z=true
theorem NxI.one {x z w:Int} (h:NxI s x z) (g:NxI s x w):z=w:=by
 rcases jk z w with a|a|a
 ·have h1:=h.is (by have:=g.le;omega);rw[g.no z h.gt a] at h1;cases h1
 ·exact a
 ·have h1:=g.is (by have:=h.le;omega);rw[h.no w g.gt a] at h1;cases h1
def Peq (s nx:AH) (x y:Int):Prop:=rd nx x<s.length/\rd nx y<s.length/\rd nx x-x=rd nx y-y/\ ∀i:Int,0<=i->i<=rd nx x-x->rd s (x+i)=rd s (y+i)
theorem Peq.symm {nx:AH} {x y:Int} (h:Peq s nx x y):Peq s nx y x:=⟨h.2.1,h.1,h.2.2.1.symm,λi h0 h1=>(h.2.2.2 i h0 (by have:=h.2.2.1;omega)).symm⟩
theorem Peq.trans {nx:AH} {x y z:Int} (h:Peq s nx x y) (g:Peq s nx y z):Peq s nx x z:=⟨h.1,g.2.1,h.2.2.1.trans g.2.2.1,λi h0 h1=>(h.2.2.2 i h0 h1).trans (g.2.2.2 i h0 (by have:=h.2.2.1;omega))⟩
theorem Peq.E {nx:AH} {x y:Int} (x0:0<=x) (y0:0<=y) (hx:NxI s x (rd nx x)) (hy:NxI s y (rd nx y)) (h:Peq s nx x y):pcE s x y:=by
 obtain⟨h1,h2,h3,h4⟩:=h;have vn:=hx.gt;have fx:=nG.1 (hx.is h1);have fy:=nG.1 (hy.is h2)
 have kinds: ∀m:Nat,∀i:Int,0<=i->i<=rd nx x-x->rd nx x-x-i<=m->smB s (x+i)=smB s (y+i):=by
  intro m
  induction m with
  |zero=>
   intro i i0 i1 i2;obtain rfl:i=rd nx x-x:=G
   rw[show x+(rd nx x-x)=rd nx x by omega,show y+(rd nx x-x)=rd nx y by omega,fx.2.1,fy.2.1]
  | succ m ih=>
   intro i i0 i1 i2;rcases bz i (rd nx x-x) with g|g
   ·have e:=ih (i+1) G G G;have c0:=h4 i i0 i1;have c1:=h4 (i+1) G G;have a:=vZ (s:=s) (i:=x+i) G G;have b:=vZ (s:=s) (i:=y+i) G G;rw[show x+i+1=x+(i+1) by omega] at a;rw[show y+i+1=y+(i+1) by omega,<-c0,<-c1,<-e] at b;exact Bool.eq_iff_iff.2 (a.trans b.symm)
   ·exact ih i i0 i1 G
 intro d hd
 have hdL:(d:Int)<=rd nx x-x:=by
  rcases bz (rd nx x-x) d with g|g
  ·have:=hd (rd nx x-x).toNat G G;rw[show x+(((rd nx x-x).toNat:Nat):Int)=rd nx x by omega,hx.is h1] at this;cases this
  ·exact g
 rw[DJ G,DJ G,h4 d G hdL,kinds (rd nx x-x).toNat d G hdL G]
theorem Peq.of_E (hs:Nn s) {nx:AH} {x y:Int} (x0:0<=x) (y0:0<=y) (cv:x≠y) (hx:NxI s x (rd nx x)) (hy:NxI s y (rd nx y)) (h:pcE s x y):Peq s nx x y:=by
 have vn:=hx.gt;have hgty:=hy.gt;have ox:=hx.le;have hley:=hy.le
 have he: ∀i:Int,0<=i->i<=rd nx x-x->kk s (x+i)=kk s (y+i):=λi i0 i1=>by
  have:=h i.toNat λj j0 j1=>hx.no _ G G;rwa[show((i.toNat:Nat):Int)=i by omega] at this
 have hL:=he (rd nx x-x) G (mf _);have An:=he (rd nx x-x-1) G G;rw[show x+(rd nx x-x)=rd nx x by omega] at hL;have hb:=(qF hs G G An G).1
 have pd:rd nx x<s.length:=by
  rcases bz (rd nx x) s.length with g|g
  ·exact g
  ·have:(s.length:Int)<=y+(rd nx x-x):=by
    rcases bz (y+(rd nx x-x)) s.length with b|b
    ·have:=(qF hs G G hL.symm b).1;omega
    ·exact b
   omega
 have hyL:=(qF hs G G hL pd).1
 have Ly: ∀i:Int,0<i->i<=rd nx x-x->gL s (x+i)=gL s (y+i):=λi i0 i1=>by
  have:=DR hs x0 y0 (i:=i.toNat) G λj hj=>he j G G;rwa[show((i.toNat:Nat):Int)=i by omega] at this
 have hny:NxI s y (y+(rd nx x-x)):=⟨G,G,λq h1 h2=>by
  have:=Ly (q-y) G G;rw[show y+(q-y)=q by omega] at this;rw[<-this];exact hx.no _ G G,λ_=>by
  rw[<-Ly _ G (mf _),show x+(rd nx x-x)=rd nx x by omega]
  exact hx.is pd⟩
 have e:=hy.one hny;refine⟨pd,G,G,λi i0 i1=>(qF hs G G (he i i0 i1) G).2.1⟩
end
end Go.Pure
namespace Go.Pure
open Go Go.Eng
section
variable {s:AH} {k:Int}
theorem aVf (s:AH):(bP s).Pairwise (· < ·):=(xC _).sublist uj
theorem pF {a:Int} (h0:0<=a) (h:a<(bP s).length):(0<=rd (bP s) a/\rd (bP s) a<s.length)/\gL s (rd (bP s) a)=true:=tX.1 (bI h0 h)
theorem VX {x:Int} (h0:0<=x) (h:x<s.length) (hf:gL s x=true): ∃a:Int,0<=a/\a<(bP s).length/\rd (bP s) a=x:=by
 obtain⟨u,hu,e⟩:=gz.1 (tX.2 ⟨⟨h0,h⟩,hf⟩);exact⟨u,G,G,by rw[iW hu];exact e⟩
theorem DT {a b:Int} (h0:0<=a) (vj:a<b) (h:b<(bP s).length):rd (bP s) a<rd (bP s) b:=eY (aVf s) h0 vj h
theorem aNj (hn:0<s.length):(bP s).length<s.length:=by
 have:(bP s).length<=((iota s.length).erase 0).length:=oM (zZ s) λx hx=>by
  have h:=tX.1 hx;have h0:=(nG.1 h.2).1;exact(En G).2 (aZ.2 h.1)
 rw[Ca (aZ.2 ⟨mf 0,G⟩),bD] at this;omega
structure uE (s nx:AH) (i:Int):Prop where
 len:nx.length=s.length
 at_: ∀a:Int,0<=a->a<i->rd nx (rd (bP s) a)=if a+1<(bP s).length then rd (bP s) (a+1) else s.length
 no: ∀j:Int,0<=j->j<s.length->gL s j=false->rd nx j=0
theorem bAo:uE s (List.replicate s.length 0) 0:=⟨cD,λa h0 h=>G,λj _ _ _=>uS⟩
theorem uE.step {nx nx':AH} {i v:Int} (h:uE s nx i) (h0:0<=i) (hi:i<(bP s).length) (hv:v=if i+1<(bP s).length then rd (bP s) (i+1) else s.length) (hl:nx'.length=s.length)
  (he: ∀j:Int,0<=j->rd nx' j=if j=rd (bP s) i then v else rd nx j):uE s nx' (i+1):=by
 have hf:=pF h0 hi;refine⟨hl,λa a0 a1=> ?_,λj j0 j1 hj=> ?_⟩
 ·have ha:=pF (s:=s) a0 G;rw[he _ ha.1.1];by_cases e:a=i
  ·subst e;rw[di rfl,hv]
  ·rw [df,h.at_ a a0 G];have:=DT (s:=s) a0 (by omega:a<i) hi;omega
 ·rw [he j j0,df,h.no j j0 j1 hj];intro e;rw[e,hf.2] at hj;cases hj
theorem uE.step1 {nx:AH} {i:Int} (h:uE s nx i) (h0:0<=i) (hi:i<(bP s).length) (hc: ¬i+1<(bP s).length):uE s (upd nx (rd (bP s) i) s.length) (i+1):=by
 have hf:=pF h0 hi;exact h.step h0 hi (by rw[df hc]) (by rw[aX];exact h.len) λj j0=>gH hf.1.1 j0 (by rw[h.len];exact hf.1.2)
theorem uE.step2 {nx:AH} {i:Int} {w:Int} (h:uE s nx i) (h0:0<=i) (hi:i<(bP s).length) (hc:i+1<(bP s).length):uE s (upd (upd nx (rd (bP s) i) w) (rd (bP s) i) (rd (bP s) (i+1))) (i+1):=by
 have hf:=pF h0 hi;refine h.step h0 hi (by rw[di hc]) (by rw[aX,aX];exact h.len) λj j0=> ?_;rw[gH hf.1.1 j0 (by rw[aX,h.len];exact hf.1.2)];split
 ·rfl
 ·rename_i e;rw[gH hf.1.1 j0 (by rw[h.len];exact hf.1.2),df e]
theorem uE.nx {nx:AH} (h:uE s nx (bP s).length) {x:Int} (h0:0<=x) (hx:x<s.length) (hf:gL s x=true):NxI s x (rd nx x):=by
 obtain⟨a,a0,a1,rfl⟩:=VX h0 hx hf;rw[h.at_ a a0 a1];split
 ·rename_i e;have g:=pF (s:=s) (a:=a+1) G e;refine⟨DT a0 G e,G,λq h1 h2=> ?_,λ_=>g.2⟩;cases hq:gL s q with
  |false=>rfl
  | true=>
   obtain⟨b,b0,b1,rfl⟩:=VX (s:=s) (x:=q) G G hq;exfalso;rcases jk b a with d|d|d
   ·have:=DT (s:=s) b0 d a1;omega
   ·subst d;omega
   ·rcases bz (a+1) b with d2|d2
    ·have:=DT (s:=s) (a:=a+1) G d2 b1;omega
    ·obtain rfl:b=a+1:=G
     omega
 ·rename_i e;refine⟨hx,mf _,λq h1 h2=> ?_,λh=>G⟩;cases hq:gL s q with
  |false=>rfl
  |true=>
   obtain⟨b,b0,b1,rfl⟩:=VX (s:=s) (x:=q) G G hq;exfalso;rcases jk b a with d|d|d
   ·have:=DT (s:=s) b0 d a1;omega
   ·subst d;omega
   ·omega
theorem uE.zero {nx:AH} (h:uE s nx (bP s).length) {x:Int} (h0:0<=x) (hx:x<s.length):rd nx x=0↔gL s x=false:=by
 cases hf:gL s x with
 |false=>exact⟨λ_=>rfl,λ_=>h.no x h0 hx hf⟩
 |true=>exact⟨λe=>by have:=(h.nx h0 hx hf).gt;omega,λe=>by cases e⟩
structure AU (s ord nx:AH) (t:Int) (nm:AH) (n last:Int):Prop where
 len:nm.length=s.length
 bd:0<=n/\n<=t
 start:last= -1->n=0/\ ∀q:Int,0<=q->q<t->gL s (rd ord q)=false
 last_:last= -1\/ ∃q:Int,0<=q/\q<t/\rd ord q=last/\gL s last=true/\rd nm last=n/\ ∀r:Int,q<r->r<t->gL s (rd ord r)=false
 rng: ∀q:Int,0<=q->q<t->gL s (rd ord q)=true->0<=rd nm (rd ord q)/\rd nm (rd ord q)<=n
 pair: ∀q r:Int,0<=q->q<r->r<t->gL s (rd ord q)=true->gL s (rd ord r)=true->rd nm (rd ord q)<=rd nm (rd ord r)/\(rd nm (rd ord q)=rd nm (rd ord r)->Peq s nx (rd ord q) (rd ord r))/\(rd nm (rd ord q)<rd nm (rd ord r)-> ¬pcE s (rd ord q) (rd ord r))
variable {ord nx nm:AH} {t n last:Int}
theorem aTr:AU s ord nx 0 (List.replicate s.length 0) 0 (-1):=⟨cD,G,λ_=>⟨rfl,λq h0 h=>G⟩, .inl rfl,λq h0 h=>G,λq r h0 h h'=>G⟩
theorem AU.skip (h:AU s ord nx t nm n last) (hf:gL s (rd ord t)=false):AU s ord nx (t+1) nm n last:=by
 have yp: ∀ {q:Int},q<t+1->gL s (rd ord q)=true->q<t:=λ{q} h1 h2=>by
  rcases bz q t with a|a
  ·exact a
  ·obtain rfl:q=t:=G
   rw[hf] at h2;cases h2
 refine⟨h.len,by have:=h.bd;omega,λe=>⟨(h.start e).1,λq h0 h1=> ?_⟩,?_,λq h0 h1 h2=>h.rng q h0 (yp h1 h2) h2,λq r h0 h1 h2 f1 f2=>h.pair q r h0 h1 (yp h2 f2) f1 f2⟩
 ·rcases bz q t with a|a
  ·exact(h.start e).2 q h0 a
  ·obtain rfl:q=t:=G
   exact hf
 ·rcases h.last_ with e|⟨q,h1,h2,h3,h4,h5,h6⟩
  ·exact .inl e
  ·refine .inr ⟨q,h1,G,h3,h4,h5,λr r0 r1=> ?_⟩;rcases bz r t with a|a
   ·exact h6 r r0 a
   ·obtain rfl:r=t:=G
    exact hf
theorem AU.last_in (h:AU s ord nx t nm n last) (hp:ord.Perm (iota s.length)) (ht:t<=s.length):last= -1\/((0<=last/\last<s.length)/\gL s last=true):=by
 rcases h.last_ with e|⟨q,h1,h2,h3,h4,_⟩
 ·exact .inl e
 ·rw [<-h3];have hl:=hp.length_eq;rw[bD] at hl;exact .inr ⟨aZ.1 (hp.subset (bI h1 G)),by rw[h3];exact h4⟩
theorem AU.step (hs:Nn s) (h:AU s ord nx t nm n last) (hp:ord.Perm (iota s.length)) (ho:ord.Pairwise (pcS s)) (hx:uE s nx (bP s).length) (t0:0<=t) (ht:t<s.length) (hf:gL s (rd ord t)=true) {n':Int}
  (hn:(last= -1/\n'=n)\/(0<=last/\Peq s nx last (rd ord t)/\n'=n)\/(0<=last/\ ¬Peq s nx last (rd ord t)/\n'=n+1)):AU s ord nx (t+1) (upd nm (rd ord t) n') n' (rd ord t):=by
 have hl:ord.length=s.length:=by rw[hp.length_eq,bD]
 have hnd:ord.Nodup:=hp.symm.nodup (eT _);have de: ∀q:Int,0<=q->q<s.length->0<=rd ord q/\rd ord q<s.length:=λq q0 q1=>aZ.1 (hp.subset (bI q0 G));have rn:=de t t0 ht
 have gr: ∀q:Int,0<=q->q<t->rd (upd nm (rd ord t) n') (rd ord q)=rd nm (rd ord q):=λq q0 q1=>by
  have hq:=de q q0 G;rw[gH rn.1 hq.1 (by rw[h.len];exact rn.2),df];intro e;have:=kK hnd q0 G t0 G e;omega
 have s6:rd (upd nm (rd ord t) n') (rd ord t)=n':=by rw[gH rn.1 rn.1 (by rw[h.len];exact rn.2),di rfl]
 have By:=h.bd;have k6:n<=n':=by rcases hn with a|a|a<;>omega
 refine⟨by rw[aX];exact h.len,by rcases hn with a|a|a<;>omega,λe=>G, .inr ⟨t,t0,G,rfl,hf,s6,λr r0 r1=>G⟩,λq q0 q1 f=> ?_,λq r q0 qr r1 f1 f2=> ?_⟩
 ·rcases bz q t with a|a
  ·rw [gr q q0 a];have:=h.rng q q0 a f;omega
  ·obtain rfl:q=t:=G
   rw[s6];omega
 ·rcases bz r t with a|a
  ·rw [gr q q0 G,gr r G a];exact h.pair q r q0 qr a f1 f2
  ·obtain rfl:r=t:=G
   rw[gr q q0 qr,s6];have hq:=de q q0 G;have hg:=h.rng q q0 qr f1;rcases h.last_ with e|⟨z,z0,z1,z2,z3,z4,z5⟩
   ·have:=(h.start e).2 q q0 qr;rw[f1] at this;cases this
   ·have Zt:q<=z:=by
     rcases bz z q with b|b
     ·have:=z5 q b qr;rw[f1] at this;cases this
     ·exact b
    have hz:=de z z0 G;have hzr:pcS s (rd ord z) (rd ord r):=eY ho z0 z1 G;have hzx:=hx.nx hz.1 hz.2 (by rw[z2];exact z3);have hrx:=hx.nx rn.1 rn.2 hf;have hqx:=hx.nx hq.1 hq.2 f1;have cv:rd ord z≠rd ord r:=λe=>by have:=kK hnd z0 G t0 G e;omega
    have po:(n'=n->Peq s nx (rd ord z) (rd ord r))/\(n<n'-> ¬Peq s nx (rd ord z) (rd ord r)):=by
     rw[z2];rcases hn with b|b|b
     ·omega
     ·exact⟨λ_=>b.2.1,λ_=>G⟩
     ·exact⟨λ_=>G,λ_=>b.2.1⟩
    have hE:pcE s (rd ord q) (rd ord r)->pcE s (rd ord z) (rd ord r)/\(q<z->pcE s (rd ord q) (rd ord z)):=λhe=>by
     rcases bz q z with b|b
     ·have:=aDp hs (u:=rd ord z) (v:=rd ord r) (y:=rd ord r) hq.1 hz.1 rn.1 (eY ho q0 b G) hzr (λd hd=>mf _) he;exact⟨this.2,λ_=>this.1⟩
     ·obtain rfl:q=z:=G
      exact⟨he,λh=>G⟩
    rcases bz q z with b|b
    ·have l7:=h.pair q z q0 b z1 f1 (by rw[z2];exact z3);have ez:rd nm (rd ord z)=n:=by rw[z2];exact z4
     rw[ez] at l7;refine⟨G,λe=>(l7.2.1 G).trans (po.1 G),λe he=> ?_⟩;rcases bz n n' with g|g
     ·exact po.2 g (Peq.of_E hs hz.1 rn.1 cv hzx hrx (hE he).1)
     ·exact l7.2.2 G ((hE he).2 b)
    ·obtain rfl:q=z:=G
     have ez:rd nm (rd ord q)=n:=by rw[z2];exact z4
     rw[ez];refine⟨k6,λe=>po.1 e.symm,λe he=>po.2 e (Peq.of_E hs hz.1 rn.1 cv hzx hrx he)⟩
theorem RZ (hs:Nn s) (h:AU s ord nx s.length nm n last) (hp:ord.Perm (iota s.length)) (ho:ord.Pairwise (pcS s)) (hx:uE s nx (bP s).length): ∀(m:Nat) (a b:Int),(bP s).length-a<=m->0<=a->a<(bP s).length->0<=b->b<(bP s).length->
  bY ((bP s).map (rd nm)) a b->bY s (rd (bP s) a) (rd (bP s) b)
 |0,a,b,hm,a0,a1,_,_,_=>G
 | m +1,a,b,hm,a0,a1,b0,b1,vj=>by
  have hl:ord.length=s.length:=by rw[hp.length_eq,bD]
  have Vz:((bP s).map (rd nm)).length=(bP s).length:=by rw[bq]
  have hnm: ∀c:Int,0<=c->c<(bP s).length->rd ((bP s).map (rd nm)) c=rd nm (rd (bP s) c):=λc c0 c1=>by
   rw[fE c0 G,yg,<-fE c0 c1]
  have se: ∀c:Int,0<=c->c<(bP s).length-> ∃q:Int,0<=q/\q<s.length/\rd ord q=rd (bP s) c:=λc c0 c1=>by
   have hc:=pF (s:=s) c0 c1;obtain⟨u,hu,e⟩:=gz.1 (hp.symm.subset (aZ.2 hc.1));exact⟨u,G,G,by rw[iW hu];exact e⟩
  have cv:a≠b:=λe=>by rw[e] at vj;exact gI _ _ vj vj
  have ha:=pF (s:=s) a0 a1;have hb:=pF (s:=s) b0 b1;have Lu:rd (bP s) a≠rd (bP s) b:=λe=>cv (kK (zZ s) a0 a1 b0 b1 e);obtain⟨q,q0,q1,eq⟩:=se a a0 a1;obtain⟨r,r0,r1,er⟩:=se b b0 b1;have hqr:q≠r:=λe=>Lu (by rw[<-eq,<-er,e]);rw[nD a0 G b0 G,hnm a a0 a1,hnm b b0 b1] at vj;have Ix:gL s (rd ord q)=true:=by rw[eq];exact ha.2
  have La:gL s (rd ord r)=true:=by rw[er];exact hb.2
  rcases vj with bp|⟨he,Ua⟩
  ·rcases bz q r with c|c
   ·have l7:=h.pair q r q0 c r1 Ix La;rw[eq,er] at l7;have:=eY ho q0 c G;rw[eq,er] at this;exact bAg hs ha.1.1 hb.1.1 this (l7.2.2 bp)
   ·have l7:=h.pair r q r0 G q1 La Ix;rw[eq,er] at l7;omega
  ·have hpe:Peq s nx (rd (bP s) a) (rd (bP s) b):=by
    rcases bz q r with c|c
    ·have l7:=h.pair q r q0 c r1 Ix La;rw[eq,er] at l7;exact l7.2.1 he
    ·have l7:=h.pair r q r0 G q1 La Ix;rw[eq,er] at l7;exact(l7.2.1 he.symm).symm
   obtain⟨p1,p2,p3,p4⟩:=hpe;have gx:=(hx.nx ha.1.1 ha.1.2 ha.2).gt;have ea:=hx.at_ a a0 a1;have eb:=hx.at_ b b0 b1
   have Si:a+1<(bP s).length:=by
    rcases bz (a+1) (bP s).length with c|c
    ·exact c
    ·rw[df G] at ea;omega
   have hbc:b+1<(bP s).length:=by
    rcases bz (b+1) (bP s).length with c|c
    ·exact c
    ·rw[df G] at eb;omega
   rw[di Si] at ea;rw[di hbc] at eb;have ih:=RZ hs h hp ho hx m (a+1) (b+1) G G Si G hbc (iE.1 Ua);rw[<-ea,<-eb] at ih;refine OQ (rd nx (rd (bP s) a)-rd (bP s) a).toNat _ _ ha.1.1 hb.1.1 G G (λi hi=>p4 i G G) ?_;rwa[show rd (bP s) a+(((rd nx (rd (bP s) a)-rd (bP s) a).toNat:Nat):Int)=rd nx (rd (bP s) a) by omega,show rd (bP s) b+(((rd nx (rd (bP s) a)-rd (bP s) a).toNat:Nat):Int)=rd nx (rd (bP s) b) by omega]
theorem aTn (h:AU s ord nx s.length nm n last) (hp:ord.Perm (iota s.length)): ∀x∈(bP s).map (rd nm),0<=x/\x<n+1:=by
 intro x hx;obtain⟨y,hy,rfl⟩:=ii.1 hx;obtain⟨hy1,hy2⟩:=tX.1 hy;have hl:ord.length=s.length:=by rw[hp.length_eq,bD]
 obtain⟨u,hu,e⟩:=gz.1 (hp.symm.subset (aZ.2 hy1));have:=h.rng u G G (by rw[iW hu,e];exact hy2);rw[iW hu,e] at this;omega
theorem aRw (hs:Nn s) (h:AU s ord nx s.length nm n last) (hp:ord.Perm (iota s.length)) (ho:ord.Pairwise (pcS s)) (hx:uE s nx (bP s).length) {o:AH} (op:o.Perm (iota ((bP s).map (rd nm)).length)) (oo:o.Pairwise (bY ((bP s).map (rd nm)))):
  (o.map (rd (bP s))).Perm (bP s)/\(o.map (rd (bP s))).Pairwise (bY s):=by
 rw[bq] at op;refine⟨?_,?_⟩
 ·have:=op.map (rd (bP s));rwa[mO] at this
 ·refine ik.2 (lv (λ{a b} ha hb vj=> ?_) oo);have h1:=aZ.1 (op.subset ha);have h2:=aZ.1 (op.subset hb);exact RZ hs h hp ho hx (bP s).length a b G h1.1 h1.2 h2.1 h2.2 vj
theorem aIc {l:AH} {x i:Int} {m:Nat} (x0:0<=x) (h0:0<=i) (h:i<m):rd ((l.drop x.toNat).take m) i=rd l (x+i):=by
 unfold rd;rw[ai,ai,rf G,qz,show x.toNat+i.toNat=(x+i).toNat by omega]
theorem YY {x y:Int} (x0:0<=x) (y0:0<=y) (hx:x<rd nx x) (Ls:rd nx x<s.length) (hy:y<rd nx y) (Wh:rd nx y<s.length):
  (s.drop x.toNat).take ((min (rd nx x+1) ((s.length:Nat):Int)).toNat-x.toNat)=(s.drop y.toNat).take ((min (rd nx y+1) ((s.length:Nat):Int)).toNat-y.toNat)↔Peq s nx x y:=by
 have lx:((s.drop x.toNat).take ((min (rd nx x+1) ((s.length:Nat):Int)).toNat-x.toNat)).length=(rd nx x-x+1).toNat:=by rw[ax,az];omega
 have ly:((s.drop y.toNat).take ((min (rd nx y+1) ((s.length:Nat):Int)).toNat-y.toNat)).length=(rd nx y-y+1).toNat:=by rw[ax,az];omega
 constructor
 ·intro h;have hl:=bu List.length h;rw[lx,ly] at hl;refine⟨Ls,Wh,G,λi i0 i1=> ?_⟩;have:rd ((s.drop x.toNat).take ((min (rd nx x+1) ((s.length:Nat):Int)).toNat-x.toNat)) i=rd ((s.drop y.toNat).take ((min (rd nx y+1) ((s.length:Nat):Int)).toNat-y.toNat)) i:=by rw[h]
  rwa[aIc x0 i0 G,aIc y0 i0 G] at this
 ·rintro ⟨_,_,h3,h4⟩;refine bL (by rw[lx,ly];omega) λi i0 i1=> ?_;rw[lx] at i1;rw[aIc x0 i0 G,aIc y0 i0 G];exact h4 i i0 G
theorem aSp {r:Int->Int->Prop}: ∀ {l:AH},l.length<2->l.Pairwise r
 |[],_=> .nil
 |[_],_=>pu _ _
 |_::_::_,h=>by simp at h;omega
theorem aTq {x y:Int} (hl:0<=x->x<s.length/\x<rd nx x/\rd nx x<=s.length) (y0:0<=y) (hy:y<rd nx y) (Wh:rd nx y<=s.length)
  (h:0<=x/\((rd nx y=((s.length:Nat):Int)\/rd nx x=((s.length:Nat):Int))\/ ¬(s.drop x.toNat).take ((min (rd nx x+1) ((s.length:Nat):Int)).toNat-x.toNat)=(s.drop y.toNat).take ((min (rd nx y+1) ((s.length:Nat):Int)).toNat-y.toNat))):
  (x= -1/\n+1=n)\/(0<=x/\Peq s nx x y/\n+1=n)\/(0<=x/\ ¬Peq s nx x y/\n+1=n+1):=by
 refine .inr (.inr ⟨h.1,λhp=> ?_,rfl⟩);have a:=hl h.1;rcases h.2 with g|g
 ·have h1:=hp.1;have h2:=hp.2.1;omega
 ·exact g ((YY h.1 y0 a.2.1 hp.1 hy hp.2.1).2 hp)
theorem aTp {x y:Int} (hx: -1<=x) (hl:0<=x->x<s.length/\x<rd nx x/\rd nx x<=s.length) (y0:0<=y) (hy:y<rd nx y) (Wh:rd nx y<=s.length)
  (h: ¬(0<=x/\((rd nx y=((s.length:Nat):Int)\/rd nx x=((s.length:Nat):Int))\/ ¬(s.drop x.toNat).take ((min (rd nx x+1) ((s.length:Nat):Int)).toNat-x.toNat)=(s.drop y.toNat).take ((min (rd nx y+1) ((s.length:Nat):Int)).toNat-y.toNat)))):
  (x= -1/\n=n)\/(0<=x/\Peq s nx x y/\n=n)\/(0<=x/\ ¬Peq s nx x y/\n=n+1):=by
 rcases bz x 0 with g|g
 ·exact .inl ⟨G,rfl⟩
 ·have a:=hl g;have h1: ¬rd nx y=((s.length:Nat):Int):=λe=>h ⟨g, .inl (.inl e)⟩;have h2: ¬rd nx x=((s.length:Nat):Int):=λe=>h ⟨g, .inl (.inr e)⟩;have h3:=xh.1 λe=>h ⟨g, .inr e⟩;exact .inr (.inl ⟨g,(YY g y0 a.2.1 G hy G).1 h3,rfl⟩)
end
end Go.Pure
namespace Go.Pure
open Go Go.Eng
theorem IE {T:Int->Int->Prop} [DecidableRel T] (Lw: ∀x y,T x y-> ¬T y x): ∀ {o:AH} {q:Nat},o.Pairwise T->(h:q<o.length)->o.countP (λx=>decide (T x o[q]))=q
 |[],q,_,h=>by simp at h
 |a::o,0,hs,h=>by
  rw[Bt];intro x hx;simp only[List.getElem_cons_zero,il];rcases jc.1 hx with rfl|hx
  ·exact λh=>Lw _ _ h h
  ·exact Lw _ _ ((ja.1 hs).1 x hx)
 |a::o,q+1,hs,h=>by
  obtain⟨h1,h2⟩:=ja.1 hs;have hq:q<o.length:=by simp only[dn] at h;omega
  simp only[List.getElem_cons_succ];rw[List.countP_cons_of_pos (by simpa using h1 _ (mg hq)),IE Lw h2 hq]
theorem aId {T:Int->Int->Prop} [DecidableRel T] (Lw: ∀x y,T x y-> ¬T y x) {o:AH} {n:Nat} (hp:o.Perm (iota n)) (hs:o.Pairwise T) {q:Int} (q0:0<=q) (hq:q<n):(((iota n).countP λx=>decide (T x (rd o q)):Nat):Int)=q:=by
 have hl:o.length=n:=by rw[hp.length_eq,bD]
 rw[<-hp.countP_eq,fE q0 G,IE Lw hs G];omega
theorem uT {n:Nat} {q:Int} (q0:0<=q) (hq:q<n):rd (iota n) q=q:=by
 unfold iota;rw[iL q0 hq];omega
theorem EK {n:Nat} {f:Int->Int} (hf: ∀x:Int,0<=x->x<n->0<=f x/\f x<n) (hi: ∀x y:Int,0<=x->x<n->0<=y->y<n->f x=f y->x=y):((iota n).map f).Perm (iota n):=by
 refine qZ ?_ (λx hx=> ?_) cD
 ·refine ik.2 (lv (λ{a b} ha hb vj e=> ?_) (eT n));have h1:=aZ.1 ha;have h2:=aZ.1 hb;exact vj (hi a b h1.1 h1.2 h2.1 h2.2 e)
 ·obtain ⟨y,hy,rfl⟩:=ii.1 hx;have h:=aZ.1 hy;exact aZ.2 (hf y h.1 h.2)
def tl (l:AH) (i k:Int):Prop:=rd l i<rd l k\/rd l i=rd l k/\i<k
instance (l:AH):DecidableRel (tl l):=λi k=>by unfold tl;infer_instance
theorem aQi {l:AH} (x y:Int) (h:tl l x y): ¬tl l y x:=by unfold tl at*;omega
def lfC (l:AH) (k:Int):Int:=((iota l.length).countP λj=>decide (tl l j k):Nat)
def Byt (l:AH):Prop:= ∀x∈l,0<=x/\x<256
section
variable {l:AH}
theorem kV (hl:Byt l):(cZ (iota l.length) l 256).Perm (iota l.length)/\(cZ (iota l.length) l 256).Pairwise (tl l):=
 ⟨oF λi hi=>by have h:=aZ.1 hi;exact hl _ (bI h.1 h.2),iF (xC _) 256⟩
theorem bJa (hl:Byt l) {q:Int} (q0:0<=q) (hq:q<l.length):lfC l (rd (cZ (iota l.length) l 256) q)=q:=aId aQi (kV hl).1 (kV hl).2 q0 hq
theorem ZV (hl:Byt l) {i:Int} (i0:0<=i) (hi:i<l.length): ∃q:Int,0<=q/\q<l.length/\rd (cZ (iota l.length) l 256) q=i/\lfC l i=q:=by
 obtain⟨u,hu,e⟩:=gz.1 ((kV hl).1.symm.subset (aZ.2 ⟨i0,hi⟩));have hlen:=(kV hl).1.length_eq;rw[bD] at hlen;have e2:rd (cZ (iota l.length) l 256) (u:Int)=i:=by rw[iW hu];exact e
 refine⟨u,G,G,e2,?_⟩;rw[<-e2];exact bJa hl G G
theorem ZW (hl:Byt l) {i:Int} (i0:0<=i) (hi:i<l.length):0<=lfC l i/\lfC l i<l.length:=by
 obtain⟨q,q0,q1,_,e⟩:=ZV hl i0 hi;omega
theorem bDx (hl:Byt l) {i k:Int} (i0:0<=i) (hi:i<l.length) (k0:0<=k) (hk:k<l.length):lfC l i<lfC l k↔tl l i k:=by
 obtain⟨p,p0,p1,ep,fp⟩:=ZV hl i0 hi;obtain⟨q,q0,q1,eq,fq⟩:=ZV hl k0 hk;have hlen:=(kV hl).1.length_eq;rw[bD] at hlen;have hs:=(kV hl).2;rw[fp,fq];constructor
 ·intro h;have:=eY hs p0 h G;rwa[ep,eq] at this
 ·intro h;rcases jk p q with a|a|a
  ·exact a
  ·subst a;rw[<-ep,<-eq] at h;exact absurd h (aQi _ _ h)
  ·have:=eY hs q0 a G;rw[ep,eq] at this;exact absurd h (aQi _ _ this)
theorem aUb (hl:Byt l) {i k:Int} (i0:0<=i) (hi:i<l.length) (k0:0<=k) (hk:k<l.length) (e:lfC l i=lfC l k):i=k:=by
 have h1:=bDx hl i0 hi k0 hk;have h2:=bDx hl k0 hk i0 hi;unfold tl at h1 h2;rcases jk (rd l i) (rd l k) with a|a|a
 ·have:=h1.2 (.inl a);omega
 ·rcases jk i k with b|b|b
  ·have:=h1.2 (.inr ⟨a,b⟩);omega
  ·exact b
  ·have:=h2.2 (.inr ⟨a.symm,b⟩);omega
 ·have:=h2.2 (.inl a);omega
def zat (a:AH):Int:=if (0:Int)∈a then(a.idxOf 0:Int)+1 else 0
def ofT (s a:AH):AH:=(a.filter λx=>decide (x≠0)).map λx=>rd s (x-1)
def ofL (s a:AH):AH:=(if 0<s.length then [rd s (s.length-1)] else [])++ofT s a
theorem XF {a:AH} (hd:a.Nodup) {i:Int} (i0:0<=i) (hi:i<a.length):zat (a.take (i+1).toNat)=if rd a i=0 then i+1 else zat (a.take i.toNat):=by
 rw[dJ i0 hi];split
 ·rename_i e
  have yp:(0:Int)∉a.take i.toNat:=by
   intro h;obtain⟨q,hq,e2⟩:=gz.1 h;rw[ax] at hq;have:=kK hd (i:=(q:Int)) (j:=i) G G i0 hi (by rw[xq] at e2;rw[e,fE G G];simp only[cz];exact e2);omega
  unfold zat;rw[di (by simp[e]),Gs,df yp,e];simp only[ax,List.idxOf_cons_self];omega
 ·rename_i e;have yp:(0:Int)∉[rd a i]:=by simp;exact λh=>e h.symm
  unfold zat;by_cases h:(0:Int)∈a.take i.toNat
  ·rw[di h,di (Em _ h),Gs,di h]
  ·rw[df h,df (by rw[dz];exact λg=>g.elim h yp)]
theorem ZJ {s a:AH} {i:Int} (i0:0<=i) (hi:i<a.length):ofT s (a.take (i+1).toNat)=ofT s (a.take i.toNat)++if rd a i=0 then [] else [rd s (rd a i-1)]:=by
 unfold ofT;rw[dJ i0 hi,tq,iv];congr 1;by_cases h:rd a i=0
 ·rw[di h,kz (by simpa using h)];rfl
 ·rw[df h,nz (by simpa using h)];rfl
variable {s a:AH}
theorem kU {u v:AH} {j:Int} (h0:0<=j) (h:j<u.length):rd (u++v) j=rd u j:=by
 unfold rd;rw[ai,ai,jl G]
theorem iH {u v:AH} {j:Int} (h:(u.length:Int)<=j):rd (u++v) j=rd v (j-u.length):=by
 unfold rd;rw[ai,ai,ji G,show j.toNat-u.length=(j-u.length).toNat by omega]
theorem wJ {u:AH} {f:Int->Int} {j:Int} (h0:0<=j) (h:j<u.length):rd (u.map f) j=f (rd u j):=by
 rw[fE h0 (by rw[bq];exact h),yg,<-fE h0 h]
theorem tO (hp:a.Perm (iota s.length)):(ofL s a).length=s.length/\(0<s.length->1<=zat a/\zat a<=s.length/\rd a (zat a-1)=0)/\(s.length=0->zat a=0)/\
  ∀j:Int,0<=j->j<s.length->rd (ofL s a) j=if j=0 then rd s (s.length-1) else if j<zat a then rd s (rd a (j-1)-1) else rd s (rd a j-1):=by
 have hl:a.length=s.length:=by rw[hp.length_eq,bD]
 rcases ek s.length with hz|hn
 ·have e:a=[]:=dw G;subst e;refine⟨by unfold ofL ofT;rw[df G];simp;omega,λh=>G,λ_=>rfl,λj h0 h=>G⟩
 have hnd:a.Nodup:=hp.symm.nodup (eT _);have ft:(0:Int)∈a:=hp.symm.subset (aZ.2 ⟨mf 0,G⟩);obtain⟨a1,a2,e⟩:=List.append_of_mem ft
 have Dd:(0:Int)∉a1:=λh=>by
  rw[e] at hnd;exact(xu.1 hnd).2.2 0 h 0 cD rfl
 have Ob:(0:Int)∉a2:=λh=>by
  rw[e] at hnd;exact(wo.1 (xu.1 hnd).2.1).1 h
 have hzat:zat a=(a1.length:Int)+1:=by
  unfold zat;rw[di ft,e,Gs,df Dd];simp
 have hT:ofT s a=(a1.map λx=>rd s (x-1))++a2.map λx=>rd s (x-1):=by
  unfold ofT;have f1:a1.filter (λx=>decide (x≠0))=a1:=Bu.2 λx hx=>ni λh=>Dd (by rw[<-h];exact hx);have f2:a2.filter (λx=>decide (x≠0))=a2:=Bu.2 λx hx=>ni λh=>Ob (by rw[<-h];exact hx);rw[e,tq,kz cD,f1,f2,iv]
 have hlen:a1.length+a2.length+1=s.length:=by rw[<-hl,e];simp;omega
 have hL:ofL s a=rd s (s.length-1)::((a1.map λx=>rd s (x-1))++a2.map λx=>rd s (x-1)):=by
  unfold ofL;rw[di hn,hT];rfl
 refine⟨by rw[hL];simp;omega,λ_=>⟨G,G,?_⟩,λh=>G,λj j0 j1=> ?_⟩
 ·rw [hzat,e,iH G,show(a1.length:Int)+1-1-a1.length=0 by omega];rfl
 ·rw [hL];by_cases hj:j=0
  ·subst hj;rw[di rfl];rfl
  ·rw [df hj]
   have ec:rd (rd s (s.length-1)::((a1.map λx=>rd s (x-1))++a2.map λx=>rd s (x-1))) j=rd ((a1.map λx=>rd s (x-1))++a2.map λx=>rd s (x-1)) (j-1):=by
    unfold rd;rw[show j.toNat=(j-1).toNat+1 by omega];rfl
   rw[ec];split
   ·rename_i h;rw[kU G (by rw[bq];omega),wJ G G,e,kU G G]
   ·rename_i h;rw[iH (by rw[bq];omega),wJ (by rw[bq];omega) (by rw[bq];omega),e,iH G];rw[bq]
    have:rd ((0:Int)::a2) (j-a1.length)=rd a2 (j-1-a1.length):=by
     unfold rd;rw[show(j-a1.length).toNat=(j-1-a1.length).toNat+1 by omega];rfl
    rw[this]
def ixr (m r:Int):Int:=if m<r then r-1 else r
def jX (l:AH) (m:Int):Nat->Int
 |0=>0
 |t+1=>lfC l (ixr m (jX l m t))+1
def rP (l:AH) (m:Int):AH:=(List.range l.length).map λi:Nat=>rd l (ixr m (jX l m (l.length-1-i)))
def aYi (l:AH) (m:Int):Prop:=min (l.length:Int) 1<=m/\m<=l.length
def bOt (l:AH) (m:Int):Prop:= ∀t:Nat,t<l.length->jX l m t≠m
def bIg (l:AH) (m:Int):Prop:=aYi l m/\bOt l m/\jX l m l.length=m
theorem yV (l:AH) (m:Int):(rP l m).length=l.length:=by simp[rP]
theorem YU {m i:Int} (i0:0<=i) (hi:i<l.length):rd (rP l m) i=rd l (ixr m (jX l m (l.length-1-i).toNat)):=by
 unfold rP;rw[iL i0 hi,show l.length-1-i.toNat=((l.length:Int)-1-i).toNat by omega]
theorem VS {m r:Int} {n:Nat} (h0:0<=r) (h1:r<=n) (cv:r≠m) (rv:0<=m) (hm:m<=n) (hn:0<n):0<=ixr m r/\ixr m r<n:=by
 unfold ixr;split<;>omega
theorem bGy {m r q:Int} (hr:r≠m) (hq:q≠m):ixr m r<ixr m q↔r<q:=by
 unfold ixr;split<;>split<;>omega
theorem aIq {m r q:Int} (hr:r≠m) (hq:q≠m) (h:ixr m r=ixr m q):r=q:=by
 unfold ixr at h;split at h<;>split at h<;>omega
theorem aCa (hl:Byt l) {m:Int} (hm:aYi l m): ∀t:Nat,(∀u:Nat,u<t->jX l m u≠m)->t<=l.length->0<=jX l m t/\jX l m t<=l.length
 |0,_,_=>by unfold jX;omega
 |t+1,h,ht=>by
  have ih:=aCa hl hm t (λu hu=>h u G) G;have hb:=VS (n:=l.length) ih.1 ih.2 (h t G) (by have:=hm.1;omega) hm.2 G;have:=ZW hl hb.1 hb.2;rw[jX];omega
theorem ZH {x:Int} (x0:0<=x) (hx:x<s.length) {y:Int} (hy:(s.length:Int)<=y): ¬bY s x y:=gI _ _ (CQ x0 hx hy)
theorem aTa {j k:Int} (j0:0<=j) (hj:j<s.length) (k0:0<=k) (hk:k<s.length):bY s j k↔rd s j<rd s k\/rd s j=rd s k/\bY s (j+1) (k+1):=by
 rw[nD j0 hj k0 hk,iE]
end
end Go.Pure
namespace Go.Pure
open Go Go.Eng
section
variable {l s a:AH}
def cT (s:AH) (x y:Int):Prop:=cmpL (s.drop x.toNat) (s.drop y.toNat)<0
instance (s:AH):DecidableRel (cT s):=λx y=>by unfold cT;infer_instance
theorem WM {x y:Int}:cT s x y↔bY s x y:=iE
theorem bNf (x y:Int) (h:cT s x y): ¬cT s y x:=λh'=>gI _ _ (WM.1 h) (WM.1 h')
def CO (s:AH) (k:Int):Int:=((iota s.length).countP λj=>decide (cT s j k):Nat)
def lV (s:AH) (k:Int):Int:=if k<s.length then CO s k+1 else 0
theorem aSt (hp:a.Perm (iota s.length)) (ho:a.Pairwise (bY s)) {q:Int} (q0:0<=q) (hq:q<s.length):CO s (rd a q)=q:=aId bNf hp (ho.imp λh=>WM.2 h) q0 hq
theorem MM (hp:a.Perm (iota s.length)) (ho:a.Pairwise (bY s)) {k:Int} (k0:0<=k) (hk:k<s.length):(0<=CO s k/\CO s k<s.length)/\rd a (CO s k)=k:=by
 obtain⟨u,hu,e⟩:=gz.1 (hp.symm.subset (aZ.2 ⟨k0,hk⟩));have hlen:=hp.length_eq;rw[bD] at hlen;have e2:rd a (u:Int)=k:=by rw[iW hu];exact e
 have e3:=aSt hp ho (q:=(u:Int)) G G;rw[e2] at e3;rw[e3];exact⟨G,e2⟩
theorem aDs {j k:Int} (j0:0<=j) (hj:j<=s.length) (k0:0<=k) (hk:k<=s.length):lV s j<lV s k↔bY s j k:=by
 obtain⟨a,hp,ho⟩:=qE s;have hlen:=hp.length_eq;rw[bD] at hlen;unfold lV;rcases bz j s.length with a1|a1
 ·rw [di a1];have xi:=MM hp ho j0 a1;rcases bz k s.length with b1|b1
  ·rw [di b1];have ov:=MM hp ho k0 b1;constructor
   ·intro h;have:=eY ho xi.1.1 (by omega:CO s j<CO s k) G;rwa[xi.2,ov.2] at this
   ·intro h;rcases jk (CO s j) (CO s k) with c|c|c
    ·omega
    ·rw [c,ov.2] at xi;rw[<-xi.2] at h;exact absurd h (gI _ _ h)
    ·have:=eY ho ov.1.1 c G;rw[xi.2,ov.2] at this;exact absurd h (gI _ _ this)
  ·rw [df G];exact⟨λh=>G,λh=>absurd h (ZH j0 a1 b1)⟩
 ·rw [df G];rcases bz k s.length with b1|b1
  ·rw [di b1];have ov:=MM hp ho k0 b1;exact⟨λ_=>CQ k0 b1 a1,λ_=>G⟩
  ·rw [df G];obtain rfl:j=k:=G
   exact⟨λh=>G,λh=>absurd h (gI _ _ h)⟩
theorem zO {k:Int} (k0:0<=k):0<=lV s k/\lV s k<=s.length/\(k<s.length->1<=lV s k):=by
 obtain⟨a,hp,ho⟩:=qE s;unfold lV;split
 ·rename_i h;have:=MM hp ho k0 h;omega
 ·omega
theorem yC {j k:Int} (j0:0<=j) (hj:j<=s.length) (k0:0<=k) (hk:k<=s.length) (e:lV s j=lV s k):j=k:=by
 have h1:=aDs j0 hj k0 hk;have h2:=aDs k0 hk j0 hj;rcases bz j s.length with a1|a1
 ·rcases bz k s.length with b1|b1
  ·by_cases h:j=k
   ·exact h
   ·rcases CR ⟨j0,a1⟩ ⟨k0,b1⟩ h with c|c
    ·have:=h1.2 c;omega
    ·have:=h2.2 c;omega
  ·have:=h2.2 (CQ j0 a1 b1);omega
 ·rcases bz k s.length with b1|b1
  ·have:=h1.2 (CQ k0 b1 a1);omega
  ·omega
theorem mR (hp:a.Perm (iota s.length)) (ho:a.Pairwise (bY s)):zat a=lV s 0:=by
 obtain⟨_,h1,h2,_⟩:=tO hp;unfold lV;rcases ek s.length with hz|hn
 ·rw[df G,h2 hz]
 ·have h:=h1 hn;rw[di G];have:=aSt hp ho (q:=zat a-1) G G;rw[h.2.2] at this;omega
theorem letter (hp:a.Perm (iota s.length)) (ho:a.Pairwise (bY s)) {k:Int} (k0:0<=k) (hk:k<s.length):(0<=ixr (zat a) (lV s (k+1))/\ixr (zat a) (lV s (k+1))<s.length)/\rd (ofL s a) (ixr (zat a) (lV s (k+1)))=rd s k:=by
 obtain⟨_,h1,_,h3⟩:=tO hp;have hz:=h1 G;have hb:=zO (s:=s) (k:=k+1) G
 have cv:lV s (k+1)≠zat a:=by
  rw[mR hp ho];intro e;have:=yC (s:=s) G G (mf 0) G e;omega
 have se:=VS hb.1 hb.2.1 cv G hz.2.1 G;refine⟨se,?_⟩;rw[h3 _ se.1 se.2];rcases bz (k+1) s.length with c|c
 ·have Fl:=MM hp ho (k:=k+1) G c;have er:lV s (k+1)=CO s (k+1)+1:=by unfold lV;rw[di c]
  unfold ixr at se ⊢;by_cases d:zat a<lV s (k+1)
  ·rw [di d];rw[df G,df G,show lV s (k+1)-1=CO s (k+1) by omega,Fl.2];congr 1;omega
  ·rw [df d];rw[df G,di G,show lV s (k+1)-1=CO s (k+1) by omega,Fl.2];congr 1;omega
 ·have er:lV s (k+1)=0:=by unfold lV;rw[df G]
  have e0:ixr (zat a) 0=0:=by unfold ixr;rw[df G]
  rw[er,e0,di rfl];congr 1;omega
theorem yJ (hs:Byt s) (hp:a.Perm (iota s.length)):Byt (ofL s a):=by
 intro x hx;obtain⟨h0,_,_,h3⟩:=tO hp;obtain⟨u,hu,rfl⟩:=gz.1 hx;have Fd:=hp.length_eq;rw[bD] at Fd;have e:=h3 u G G;rw[iW hu] at e;have hm: ∀j:Int,0<=j->j<s.length->0<=rd s j/\rd s j<256:=λj j0 j1=>hs _ (bI j0 j1);have ha: ∀j:Int,0<=j->j<s.length->0<=rd a j/\rd a j<s.length:=λj j0 j1=>aZ.1 (hp.subset (bI j0 G));have Lf: ∀j:Int,j<0->rd s j=rd s 0:=λj h=>by unfold rd;rw[show j.toNat=(0:Int).toNat by omega]
 have Qd: ∀j:Int,j<s.length->0<=rd s j/\rd s j<256:=λj h=>by
  rcases bz j 0 with c|c
  ·rw[Lf j c];exact hm 0 (mf 0) G
  ·exact hm j c h
 rw[e];split
 ·exact Qd _ G
 ·split
  ·have:=ha ((u:Int)-1) G G;exact Qd _ G
  ·have:=ha u G G;exact Qd _ G
theorem bBe (hs:Byt s) (hp:a.Perm (iota s.length)) (ho:a.Pairwise (bY s)) {k:Int} (k0:0<=k) (hk:k<s.length):lfC (ofL s a) (ixr (zat a) (lV s (k+1)))=CO s k:=by
 obtain⟨h0,h1,_,_⟩:=tO hp
 have cv: ∀j:Int,0<=j->j<s.length->lV s (j+1)≠zat a:=λj j0 j1 e=>by
  rw[mR hp ho] at e;have:=yC (s:=s) G G (mf 0) G e;omega
 have hb:=EK (n:=s.length) (f:=λk=>ixr (zat a) (lV s (k+1))) (λj j0 j1=>(letter hp ho j0 j1).1) λx y x0 x1 y0 y1 e=>by
  have e2:=aIq (cv x x0 x1) (cv y y0 y1) e;have:=yC (s:=s) G G G G e2;omega
 unfold lfC CO;rw[h0,<-hb.countP_eq,List.countP_map];congr 1;refine Gq λj hj=> ?_;have hj:=aZ.1 hj;simp only[Function.comp_apply,il];rw[WM,aTa hj.1 hj.2 k0 hk,<-aDs G G G G];unfold tl;rw[(letter hp ho hj.1 hj.2).2,(letter hp ho k0 hk).2,bGy (cv j hj.1 hj.2) (cv k k0 hk)]
theorem EL (hs:Byt s) (hp:a.Perm (iota s.length)) (ho:a.Pairwise (bY s)): ∀t:Nat,t<=s.length->jX (ofL s a) (zat a) t=lV s (s.length-t)
 |0,_=>by unfold jX lV;rw[df G]
 |t+1,ht=>by
  rw[jX,EL hs hp ho t G];have:=bBe hs hp ho (k:=(s.length:Int)-((t+1:Nat):Int)) G G;rw[show(s.length:Int)-((t+1:Nat):Int)+1=s.length-(t:Int) by omega] at this;rw[this];unfold lV;rw[di G]
theorem HY (hs:Byt s) (hp:a.Perm (iota s.length)) (ho:a.Pairwise (bY s)):bIg (ofL s a) (zat a)/\rP (ofL s a) (zat a)=s:=by
 obtain⟨h0,h1,h2,_⟩:=tO hp;refine⟨⟨?_,λt ht=> ?_,?_⟩,?_⟩
 ·unfold aYi;rw[h0];rcases ek s.length with hz|hn
  ·have:=h2 hz;omega
  ·have:=h1 hn;omega
 ·rw [h0] at ht;rw[EL hs hp ho t G,mR hp ho];intro e;have:=yC (s:=s) G G (mf 0) G e;omega
 ·rw [h0,EL hs hp ho _ (dx _),mR hp ho];congr 1;omega
 ·refine bL (by rw[yV,h0]) λi i0 i1=> ?_;rw[yV,h0] at i1;rw[YU i0 (by rw[h0];exact i1),h0,EL hs hp ho _ G];have:=(letter hp ho i0 i1).2;rwa[show(s.length:Int)-(((s.length:Int)-1-i).toNat:Int)=i+1 by omega]
theorem aTm (hp:a.Perm (iota s.length)) (ho:a.Pairwise (bY s)):((iota s.length).map λk=>ixr (zat a) (lV s (k+1))).Perm (iota s.length):=by
 have cv: ∀j:Int,0<=j->j<s.length->lV s (j+1)≠zat a:=λj j0 j1 e=>by
  rw[mR hp ho] at e;have:=yC (s:=s) G G (mf 0) G e;omega
 exact EK (n:=s.length) (f:=λk=>ixr (zat a) (lV s (k+1))) (λj j0 j1=>(letter hp ho j0 j1).1) λx y x0 x1 y0 y1 e=>by
  have e2:=aIq (cv x x0 x1) (cv y y0 y1) e;have:=yC (s:=s) G G G G e2;omega
theorem CU (hp:a.Perm (iota s.length)) (ho:a.Pairwise (bY s)):(ofL s a).Perm s:=by
 have h0:=(tO hp).1;have h1:=(aTm hp ho).map (rd (ofL s a));rw[qo] at h1
 have e1:(iota s.length).map (rd (ofL s a) ∘ λk=>ixr (zat a) (lV s (k+1)))=s:=by
  conv=>rhs;rw[<-mO s]
  refine vv λk hk=> ?_;have hk:=aZ.1 hk;exact(letter hp ho hk.1 hk.2).2
 have e2:(iota s.length).map (rd (ofL s a))=ofL s a:=by
  have:=mO (ofL s a);rwa[h0] at this
 rw[e1,e2] at h1;exact h1.symm
end
end Go.Pure
namespace Go.Pure
open Go Go.Eng
theorem ZC {l m:AH} (hl:l.Nodup) (hm:m.Nodup) (e: ∀x,x∈l↔x∈m):l.Perm m:=
 qZ hl (λx h=>(e x).1 h) (oM hm λx h=>(e x).2 h)
def PY (r k:Nat):AH:=(List.range k).map λt:Nat=>(r+3*t:Int)
theorem YW (r k:Nat):(PY r k).length=k:=by simp[PY]
theorem aMd (r k:Nat):PY r (k+1)=PY r k++[(r+3*k:Int)]:=by
 unfold PY;rw[zm,iv];rfl
def plc (n r:Nat):AH:=PY r ((n+2-r)/3)
theorem kC (n r:Nat):(plc n r).length=(n+2-r)/3:=YW _ _
theorem VE {n r:Nat} {t:Int} (h0:0<=t) (h:t<(plc n r).length):rd (plc n r) t=r+3*t:=by
 rw[kC] at h;unfold plc PY;rw[iL h0 G];omega
theorem kQ {n r:Nat} {x:Int} (hr:r<=2):x∈plc n r↔0<=x/\x<n/\x%3=r:=by
 unfold plc PY;rw[ii];constructor
 ·rintro ⟨t,ht,rfl⟩;have:=jw.1 ht;omega
 ·rintro ⟨h0,h1,h2⟩;exact⟨((x-r)/3).toNat,jw.2 G,G⟩
theorem yH (n r:Nat):(plc n r).Nodup:=by
 unfold plc PY;exact ik.2 (xe.imp λ{x y} h hh=>h G)
def smp (n:Nat):AH:=plc n 1++plc n 2
theorem mD {n:Nat} {x:Int}:x∈smp n↔0<=x/\x<n/\x%3≠0:=by
 unfold smp;rw[dz,kQ G,kQ G];omega
theorem BP (n:Nat):(smp n).length=(n+1)/3+n/3:=by
 unfold smp;rw[ah,kC,kC];omega
theorem qH (n:Nat):(smp n).Nodup:=by
 unfold smp;refine xu.2 ⟨yH _ _,yH _ _,λa ha b hb e=> ?_⟩;rw[kQ G] at ha hb;omega
theorem aYx (n:Nat):(smp n++plc n 0).Perm (iota n):=by
 refine ZC (xu.2 ⟨qH _,yH _ _,λa ha b hb e=> ?_⟩) (eT n) λx=> ?_
 ·rw [mD] at ha;rw[kQ G] at hb;omega
 ·rw [dz,mD,kQ G,aZ];omega
def iY (s:AH) (i:Int):Int:=if (s.length:Int)<=i then 0 else rd s i+1
def gG (s:AH) (b:Int):AH:=(List.range s.length).map λi:Nat=>iY s ((i:Int)+b)
theorem GA (s:AH) (b:Int):(gG s b).length=s.length:=by simp[gG]
theorem CG {s:AH} {b i:Int} (h0:0<=i) (h:i<s.length):rd (gG s b) i=iY s (i+b):=by
 unfold gG;rw[iL h0 G];congr 1;omega
theorem bDw: ∀ {s:AH},Nn s->lo s=0
 |[],_=>rfl
 |a::s,h=>by
  have:=bDw (s:=s) λx hx=>h x (fo _ hx);have ha:=h a cD;unfold lo at this ⊢;rw[List.foldr_cons,this];omega
theorem vC {s:AH} (hs:Nn s) (i d:Nat):eu s i d=iY s ((i+d:Nat):Int):=by
 unfold eu iY;rw[bDw hs];by_cases h:i+d<s.length
 ·rw [di h,df G];unfold rd lt;rw[cz];omega
 ·rw[df h,di G]
theorem aIp {s:AH} {k:Int} (hs: ∀x∈s,0<=x/\x<k) (hk:0<=k) {i:Int} (h0:0<=i):0<=iY s i/\iY s i<k+1:=by
 unfold iY;split
 ·omega
 ·have:=hs _ (bI (L:=s) h0 G);omega
theorem ZZ {s:AH} {k b:Int} (hs: ∀x∈s,0<=x/\x<k) (hk:0<=k) (hb:0<=b): ∀x∈gG s b,0<=x/\x<k+1:=by
 intro x hx;obtain⟨i,_,rfl⟩:=ii.1 hx;exact aIp hs hk G
theorem aVm (s:AH) (i d:Nat):0<=eu s i d:=by
 rcases gm (i+d) s.length with h|h
 ·exact Bj (sP h)
 ·rw[jO h];exact mf 0
def LtO (U V:Nat->Int):Prop:= ∃k,(∀i,i<k->U i=V i)/\U k<V k
theorem zW {m:Nat} {U V:Nat->Int}:LtH m U V->LtO U V:=λ⟨k,_,h1,h2⟩=>⟨k,h1,h2⟩
theorem bBa {s:AH} {x y:Nat}:LtO (eu s x) (eu s y)↔LtH s.length (eu s x) (eu s y):=by
 refine⟨λ⟨k,h1,h2⟩=>⟨k,?_,h1,h2⟩,zW⟩;have:=aVm s x k;rcases gm (y+k) s.length with h|h
 ·omega
 ·rw[jO h] at h2;omega
theorem oG {s:AH} {x y:Int}:bY s x y↔LtO (eu s x.toNat) (eu s y.toNat):=bBa.symm
theorem aMp {U V:Nat->Int} (h:LtO U V): ¬LtO V U:=by
 rintro⟨k',Xh,h2'⟩;obtain⟨k,h1,h2⟩:=h;rcases xw k k' with a|a|a
 ·have:=Xh k a;omega
 ·subst a;omega
 ·have:=h1 k' a;omega
theorem aMo {U V:Nat->Int} {m:Nat} (e:EqH m U V):LtO (λd=>U (m+d)) (λd=>V (m+d))↔LtO U V:=by
 constructor
 ·rintro ⟨k,h1,h2⟩;refine⟨m+k,λi hi=> ?_,h2⟩;rcases gm i m with a|a
  ·exact e i a
  ·have:=h1 (i-m) G;simp only[show m+(i-m)=i by omega] at this;exact this
 ·rintro ⟨k,h1,h2⟩
  have hk:m<=k:=by
   rcases gm k m with a|a
   ·have:=e k a;omega
   ·exact a
  refine⟨k-m,λi hi=>h1 (m+i) G,?_⟩;simp only[show m+(k-m)=k by omega];exact h2
theorem aAq (s:AH) (i m:Nat):(λd=>eu s i (m+d))=eu s (i+m):=funext λd=>(xH s i m d).symm
theorem NJ {s:AH} {i j m:Nat} (e:EqH m (eu s i) (eu s j)):LtO (eu s (i+m)) (eu s (j+m))↔LtO (eu s i) (eu s j):=by
 rw[<-aAq,<-aAq];exact aMo e
theorem vD {s:AH} {m i j:Nat} (hi:i<s.length) (hj:j<s.length) (pn:i≠j) (e:EqH m (eu s i) (eu s j)):j+m<=s.length:=by
 refine Ik.1 λh=> ?_;have e1:=e (s.length-j) G;rw[jO (s:=s) (i:=j) G] at e1;have h1:s.length<=i+(s.length-j):=Ik.1 λhh=>by have:=sP hh;omega
 have e2:=e (s.length-i) G;rw[jO (s:=s) (i:=i) G] at e2;have:=sP (s:=s) (i:=j) (d:=s.length-i) G;omega
def bFl (s:AH) (k:Int):AH:=cZ (cZ (cZ (smp s.length) (gG s 2) (k+1).toNat) (gG s 1) (k+1).toNat) (gG s 0) (k+1).toNat
section
variable {s:AH} {k:Int}
theorem qI {o:AH} {b:Int} (hs: ∀x∈s,0<=x/\x<k) (hk:0<=k) (hb:0<=b) (ho: ∀x∈o,0<=x/\x<s.length):(cZ o (gG s b) (k+1).toNat).Perm o:=
 oF λi hi=>by
  have:=ho i hi;rw[CG this.1 this.2];have:=aIp hs hk (i:=i+b) G;omega
theorem nZ {x:Int} (h:x∈smp s.length):0<=x/\x<s.length:=by rw[mD] at h;omega
theorem bDr (hs: ∀x∈s,0<=x/\x<k) (hk:0<=k):(cZ (smp s.length) (gG s 2) (k+1).toNat).Perm (smp s.length):=qI hs hk G λ_ h=>nZ h
theorem bDq (hs: ∀x∈s,0<=x/\x<k) (hk:0<=k):(cZ (cZ (smp s.length) (gG s 2) (k+1).toNat) (gG s 1) (k+1).toNat).Perm (smp s.length):=
 (qI hs hk G λ_ h=>nZ ((bDr hs hk).subset h)).trans (bDr hs hk)
theorem bDp (hs: ∀x∈s,0<=x/\x<k) (hk:0<=k):(bFl s k).Perm (smp s.length):=
 (qI hs hk G λ_ h=>nZ ((bDq hs hk).subset h)).trans (bDq hs hk)
theorem aDd (hs: ∀x∈s,0<=x/\x<k) (hk:0<=k):(bFl s k).Pairwise λx y=> ¬LtH 3 (eu s y.toNat) (eu s x.toNat):=by
 have h0:(smp s.length).Pairwise λ_ _=>True:=(qH s.length).imp λ_=>trivial;have h3:=iF (keys:=gG s 0) (iF (keys:=gG s 1) (iF (keys:=gG s 2) h0 (k+1).toNat) (k+1).toNat) (k+1).toNat;refine lv (λ{x y} hx hy h=> ?_) h3;have mx:=nZ ((bDp hs hk).subset hx);have my:=nZ ((bDp hs hk).subset hy);have nn:Nn s:=λx hx=>(hs x hx).1
 have e: ∀ {z:Int} (hz:0<=z/\z<s.length) (b:Nat),rd (gG s (b:Int)) z=eu s z.toNat b:=λ{z} hz b=>by
  rw[CG hz.1 hz.2,vC nn];congr 1;omega
 have ex0:rd (gG s 0) x=eu s x.toNat 0:=e mx 0;have ex1:rd (gG s 1) x=eu s x.toNat 1:=e mx 1;have ex2:rd (gG s 2) x=eu s x.toNat 2:=e mx 2;have ey0:rd (gG s 0) y=eu s y.toNat 0:=e my 0;have ey1:rd (gG s 1) y=eu s y.toNat 1:=e my 1;have ey2:rd (gG s 2) y=eu s y.toNat 2:=e my 2;rw[ex0,ex1,ex2,ey0,ey1,ey2] at h;rintro⟨q,hq,h1,h2⟩
 match q,hq,h1,h2 with
 |0,_,h1,h2=>omega
 |1,_,h1,h2=>have:=h1 0 G;omega
 |2,_,h1,h2=>have:=h1 0 G;have:=h1 1 G;omega
end
structure RkI (s o V:AH) (q n:Int):Prop where
 len:V.length=s.length+3
 n0:0<=n
 nq:n<=q
 bd: ∀p,0<=p->p<q->1<=rd V (rd o p)/\rd V (rd o p)<=n
 last:0<q->rd V (rd o (q-1))=n
 lt: ∀p p',0<=p->p<p'->p'<q->(EqH 3 (eu s (rd o p).toNat) (eu s (rd o p').toNat)/\rd V (rd o p)=rd V (rd o p'))\/(LtH 3 (eu s (rd o p).toNat) (eu s (rd o p').toNat)/\rd V (rd o p)<rd V (rd o p'))
 full:n=q-> ∀p,0<=p->p<q->rd V (rd o p)=p+1
 out: ∀j:Int,0<=j->j<s.length+3->(∀p:Int,0<=p->p<q->rd o p≠j)->rd V j=0
theorem EqH.trans' {m:Nat} {U V W:Nat->Int} (h:EqH m U V) (g:EqH m V W):EqH m U W:=λi hi=>(h i hi).trans (g i hi)
theorem EqH.ltH {m:Nat} {U V W:Nat->Int} (h:EqH m U V) (g:LtH m V W):LtH m U W:=by
 obtain⟨k,hk,a,b⟩:=g;exact⟨k,hk,λi hi=>(h i G).trans (a i hi),by rw[h k hk];exact b⟩
theorem LtH.eqH {m:Nat} {U V W:Nat->Int} (h:LtH m U V) (g:EqH m V W):LtH m U W:=by
 obtain⟨k,hk,a,b⟩:=h;exact⟨k,hk,λi hi=>(a i hi).trans (g i G),by rw[<-g k hk];exact b⟩
section
variable {s o V:AH} {q n:Int}
theorem aRs:RkI s o (List.replicate (s.length+3) 0) 0 0:=
 ⟨dh,G,G,λp h1 h2=>G,λh=>G,λp p' h1 h2 h3=>G,λ_ p h1 h2=>G,λj _ _ _=>uS⟩
theorem RkI.step (h:RkI s o V q n) (hp:o.Perm (smp s.length)) (q0:0<=q) (hq:q<o.length) {m:Int}
  (hm:(m=n+1/\(q=0\/LtH 3 (eu s (rd o (q-1)).toNat) (eu s (rd o q).toNat)))\/(m=n/\0<q/\EqH 3 (eu s (rd o (q-1)).toNat) (eu s (rd o q).toNat))):
  RkI s o (upd V (rd o q) m) (q+1) m:=by
 have de: ∀p:Int,0<=p->p<o.length->0<=rd o p/\rd o p<s.length:=λp p0 p1=>nZ (hp.subset (bI p0 p1));have hnd:o.Nodup:=hp.symm.nodup (qH _);have hV:=h.len;have iq:=de q q0 hq;have same:rd (upd V (rd o q) m) (rd o q)=m:=eX iq.1 G
 have other: ∀p,0<=p->p<q->rd (upd V (rd o q) m) (rd o p)=rd V (rd o p):=λp p0 p1=>by
  have ip:=de p p0 G;exact fP iq.1 ip.1 λe=>by have:=kK hnd q0 hq p0 G e;omega
 have Le:=h.n0;have hnq:=h.nq;refine⟨by rw[aX];exact hV,G,G,λp p0 p1=> ?_,λ_=>by rw[show q+1-1=q by omega];exact same,λp p' p0 pp p1=> ?_,λe p p0 p1=> ?_,λj j0 j1 hj=> ?_⟩
 ·rcases bz p q with a|a
  ·rw [other p p0 a];have:=h.bd p p0 a;omega
  ·rw [show p=q by omega,same];rcases hm with⟨a,_⟩|⟨a,b,_⟩
   ·omega
   ·have:=h.bd (q-1) G G;have:=h.last b;omega
 ·rcases bz p' q with a|a
  ·rw [other p p0 G,other p' G a];exact h.lt p p' p0 pp a
  ·obtain rfl:p'=q:=G
   rw[other p p0 pp,same];have hl:=h.last G;have hb:=h.bd p p0 pp;rcases bz p (p'-1) with c|c
   ·have h1:=h.lt p (p'-1) p0 c G;rcases hm with⟨rfl,z|g⟩|⟨rfl,_,g⟩
    ·omega
    ·refine .inr ⟨?_,G⟩;rcases h1 with⟨e,_⟩|⟨e,_⟩
     ·exact e.ltH g
     ·exact e.trans g
    ·rcases h1 with⟨e,v⟩|⟨e,v⟩
     ·exact .inl ⟨e.trans' g,G⟩
     ·exact .inr ⟨e.eqH g,G⟩
   ·obtain rfl:p=p'-1:=G
    rcases hm with⟨rfl,z|g⟩|⟨rfl,_,g⟩
    ·omega
    ·exact .inr ⟨g,G⟩
    ·exact .inl ⟨g,hl⟩
 ·rcases hm with⟨a,_⟩|⟨a,_,_⟩
  ·rcases bz p q with c|c
   ·rw [other p p0 c];exact h.full G p p0 c
   ·rw [show p=q by omega,same];omega
  ·omega
 ·rw [fP iq.1 j0 (hj q q0 G)];exact h.out j j0 j1 λp p0 p1=>hj p p0 G
theorem aFh {l:AH} {x:Int} (h:x∈l): ∃p:Int,0<=p/\p<l.length/\rd l p=x:=by
 obtain⟨i,hi,rfl⟩:=gz.1 h;exact⟨i,G,G,iW hi⟩
structure RkF (s V:AH) (n:Int):Prop where
 len:V.length=s.length+3
 bd: ∀i:Nat,i<s.length->i%3≠0->1<=rd V i/\rd V i<=n
 lt: ∀i j:Nat,i<s.length->i%3≠0->j<s.length->j%3≠0->(rd V i<rd V j↔LtH 3 (eu s i) (eu s j))
 eq: ∀i j:Nat,i<s.length->i%3≠0->j<s.length->j%3≠0->(rd V i=rd V j↔EqH 3 (eu s i) (eu s j))
 out: ∀j:Int,0<=j->j<s.length+3->(j%3=0\/s.length<=j)->rd V j=0
theorem RkI.done (h:RkI s o V o.length n) (hp:o.Perm (smp s.length)):RkF s V n:=by
 have at_: ∀i:Nat,i<s.length->i%3≠0-> ∃p:Int,0<=p/\p<o.length/\rd o p=i:=λi h1 h2=>aFh (hp.symm.subset (mD.2 ⟨G,G,G⟩))
 have key: ∀i j:Nat,i<s.length->i%3≠0->j<s.length->j%3≠0->(EqH 3 (eu s i) (eu s j)/\rd V i=rd V j)\/(LtH 3 (eu s i) (eu s j)/\rd V i<rd V j)\/(LtH 3 (eu s j) (eu s i)/\rd V j<rd V i):=by
  intro i j i1 i2 j1 j2;obtain⟨p,p0,p1,ep⟩:=at_ i i1 i2;obtain⟨r,r0,r1,er⟩:=at_ j j1 j2;rcases jk p r with a|a|a
  ·have:=h.lt p r p0 a r1;rw[ep,er,cz,cz] at this;exact this.elim .inl λh=> .inr (.inl h)
  ·subst a;have e:(i:Int)=j:=ep.symm.trans er;have e:i=j:=G
   subst e;exact .inl ⟨λ_ _=>rfl,rfl⟩
  ·have:=h.lt r p r0 a p1;rw[ep,er,cz,cz] at this;exact this.elim (λh=> .inl ⟨h.1.symm,h.2.symm⟩) λh=> .inr (.inr h)
 refine⟨h.len,λi i1 i2=> ?_,λi j i1 i2 j1 j2=> ?_,λi j i1 i2 j1 j2=> ?_,λj j0 j1 hj=>h.out j j0 j1 λp p0 p1 e=> ?_⟩
 ·obtain ⟨p,p0,p1,ep⟩:=at_ i i1 i2;have:=h.bd p p0 p1;rwa[ep] at this
 ·rcases key i j i1 i2 j1 j2 with⟨e,v⟩|⟨e,v⟩|⟨e,v⟩
  ·exact⟨λh=>G,λh=>absurd e h.not_eq⟩
  ·exact⟨λ_=>e,λ_=>v⟩
  ·exact⟨λh=>G,λh=>absurd h e.asymm⟩
 ·rcases key i j i1 i2 j1 j2 with⟨e,v⟩|⟨e,v⟩|⟨e,v⟩
  ·exact⟨λ_=>e,λ_=>v⟩
  ·exact⟨λh=>G,λh=>absurd h e.not_eq⟩
  ·exact⟨λh=>G,λh=>absurd h.symm e.not_eq⟩
 ·have:=mD.1 (hp.subset (e▸bI (L:=o) p0 p1));omega
structure RkO (s o V:AH):Prop where
 perm:o.Perm (smp s.length)
 sorted:o.Pairwise (bY s)
 len:V.length=s.length+3
 rk: ∀p:Int,0<=p->p<o.length->rd V (rd o p)=p+1
 out: ∀j:Int,0<=j->j<s.length+3->(j%3=0\/s.length<=j)->rd V j=0
theorem RkI.all (h:RkI s o V o.length n) (hp:o.Perm (smp s.length)) (hn:n=o.length):RkO s o V:=by
 have hf:=h.full hn;refine⟨hp,?_,h.len,hf,(h.done hp).out⟩;refine ed.2 λi j hi hj pn=> ?_;have:=h.lt i j G G G;have e1:=hf i G G;have e2:=hf j G G;rw[iW hi,iW hj] at this;rw[iW hi] at e1;rw[iW hj] at e2;rcases this with⟨_,v⟩|⟨v,_⟩
 ·omega
 ·exact oG.2 (zW v)
def blw (s V:AH):AH:=(plc s.length 1).map (rd V)++[0]++(plc s.length 2).map (rd V)
theorem vF (s V:AH):(blw s V).length=(s.length+1)/3+1+s.length/3:=by
 unfold blw;rw[ah,ah,bq,bq,kC,kC,ib];omega
def uC (s:AH) (i:Nat):Nat:=if i%3=1 then i/3 else(s.length+1)/3+1+i/3
theorem bCs {t:Int} (h0:0<=t) (h:t<(plc s.length 1).length):rd (blw s V) t=rd V (1+3*t):=by
 unfold blw;rw[kU h0 (by rw[ah,bq];omega),kU h0 (by rw[bq];exact h),wJ h0 h,VE h0 h];rfl
theorem bCr:rd (blw s V) (plc s.length 1).length=0:=by
 unfold blw;rw[kU G (by rw[ah,bq,ib];omega),iH (by rw[bq];omega),bq,Ih];rfl
theorem bCq {t:Int} (h0:0<=t) (h:t<(plc s.length 2).length):rd (blw s V) ((plc s.length 1).length+1+t)=rd V (2+3*t):=by
 unfold blw;have e:(((plc s.length 1).map (rd V)++[0]).length:Int)=(plc s.length 1).length+1:=by rw[ah,bq,ib];rfl
 rw[iH (by rw[e];omega),e,show((plc s.length 1).length+1+t:Int)-((plc s.length 1).length+1)=t by omega,wJ h0 h,VE h0 h];rfl
theorem RkF.nn (h:RkF s V n): ∀i:Nat,i<s.length->i%3≠0->0<=rd V i:=λi a b=>by have:=h.bd i a b;omega
theorem aXo (h:RkF s V n) (hn:0<=n): ∀x∈blw s V,0<=x/\x<n+1:=by
 intro x hx;unfold blw at hx
 have g: ∀r:Nat,r=1\/r=2->x∈(plc s.length r).map (rd V)->0<=x/\x<n+1:=λr hr hx=>by
  obtain⟨i,hi,rfl⟩:=ii.1 hx;rw[kQ G] at hi;have:=h.bd i.toNat G G;rw[show((i.toNat:Nat):Int)=i by omega] at this;omega
 rcases dz.1 hx with hx|hx
 ·rcases dz.1 hx with hx|hx
  ·exact g 1 (.inl rfl) hx
  ·rw[ic.1 hx];omega
 ·exact g 2 (.inr rfl) hx
theorem aXn (h:RkF s V n) (hn:0<=n):Nn (blw s V):=λx hx=>(aXo h hn x hx).1
theorem GV (h:RkF s V n) (hn:0<=n) {i:Nat} (hi:i<s.length) (h3:i%3≠0):eu (blw s V) (uC s i) 0=rd V i+1:=by
 have l1:=kC s.length 1;have l2:=kC s.length 2;rw[vC (aXn h hn)];unfold iY;rw[vF];unfold uC;by_cases c:i%3=1
 ·rw[di c,df G,qp,bCs G (by rw[l1];omega),show(1+3*((i/3:Nat):Int))=i by omega]
 ·rw[df c,df G,qp,show(((s.length+1)/3+1+i/3:Nat):Int)=(plc s.length 1).length+1+(i/3:Nat) by rw[l1];omega,bCq G (by rw[l2];omega),show(2+3*((i/3:Nat):Int))=i by omega]
theorem aJw (h:RkF s V n) (hn:0<=n) (h3:s.length%3≠0):eu (blw s V) (uC s s.length) 0<=1:=by
 have l1:=kC s.length 1;rw[vC (aXn h hn)];unfold iY;rw[vF];unfold uC;by_cases c:s.length%3=1
 ·rw [di c,df G,qp,show((s.length/3:Nat):Int)=(plc s.length 1).length by rw[l1];omega,bCr];omega
 ·rw [df c,di G];omega
theorem aXl {i:Nat} (h3:i%3≠0):uC s (i+3)=uC s i+1:=by
 unfold uC;by_cases c:i%3=1
 ·rw[di c,di G];omega
 ·rw[df c,df G];omega
theorem bCt (h:RkF s V n) (hn:0<=n): ∀(k i j:Nat),i%3≠0->j%3≠0->i<=s.length->j<=s.length->i≠j->
  (∀d,d<k->eu (blw s V) (uC s i) d=eu (blw s V) (uC s j) d)->eu (blw s V) (uC s i) k<eu (blw s V) (uC s j) k->LtO (eu s i) (eu s j):=by
 intro k
 induction k with
 | zero=>
  intro i j i3 j3 hi hj pn _ bp;rcases gm j s.length with j1|j1
  ·rcases gm i s.length with i1|i1
   ·rw [GV h hn i1 i3,GV h hn j1 j3] at bp;exact zW ((h.lt i j i1 i3 j1 j3).1 G)
   ·exact⟨0,λi hi=>G,by rw[jO G];exact sP G⟩
  ·have e:j=s.length:=G
   rw[e] at bp j3;have h1:=aJw h hn j3;rw[GV h hn G i3] at bp;have:=h.bd i G i3;omega
 | succ k ih=>
  intro i j i3 j3 hi hj pn r8 bp;have e0:=r8 0 G;rcases gm j s.length with j1|j1
  ·rcases gm i s.length with i1|i1
   ·rw [GV h hn i1 i3,GV h hn j1 j3] at e0;have e:=(h.eq i j i1 i3 j1 j3).1 G;have r1:=vD i1 j1 pn e;have r2:=vD j1 i1 (Gw pn) e.symm
    have sh: ∀ {x d:Nat},x%3≠0->eu (blw s V) (uC s (x+3)) d=eu (blw s V) (uC s x) (d+1):=λ{x d} hx=>by
     rw[aXl hx,xH,um]
    have:=ih (i+3) (j+3) G G r2 r1 G (λd hd=>by rw[sh i3,sh j3];exact r8 (d+1) G) (by rw[sh i3,sh j3];exact bp);exact(NJ e).1 this
   ·exact⟨0,λi hi=>G,by rw[jO G];exact sP G⟩
  ·exfalso;have e:j=s.length:=G
   rw[e] at e0 j3;have h1:=aJw h hn j3;rw[GV h hn G i3] at e0;have:=h.bd i G i3;omega
def bk (s:AH) (t:Int):Int:=if t<(plc s.length 1).length then 1+3*t else 2+3*(t-(plc s.length 1).length-1)
theorem aBz {t:Int} (h0:0<=t) (h:t<(blw s V).length) (cv:t≠(plc s.length 1).length):(0<=bk s t/\bk s t<s.length)/\bk s t%3≠0/\uC s (bk s t).toNat=t.toNat:=by
 have l1:=kC s.length 1;rw[vF] at h;unfold bk;by_cases c:t<(plc s.length 1).length
 ·rw [di c];refine⟨G,G,?_⟩;unfold uC;rw[di G];omega
 ·rw [df c];refine⟨G,G,?_⟩;unfold uC;rw[df G];omega
def ofB (s sb:AH):AH:=(sb.filter λt:Int=>decide (t≠(plc s.length 1).length)).map (bk s)
theorem ZK {sb:AH} {t:Int} (h:t=(plc s.length 1).length):ofB s (sb++[t])=ofB s sb:=by
 unfold ofB;rw[tq,kz (by simpa using h)];simp
theorem ZL {sb:AH} {t:Int} (h:t≠(plc s.length 1).length):ofB s (sb++[t])=ofB s sb++[bk s t]:=by
 unfold ofB;rw[tq,nz (by simpa using h),iv];rfl
theorem bAn (sb:AH):(ofB s sb).length<=sb.length:=by
 unfold ofB;rw[bq];exact yc _ _
variable {sb:AH}
theorem CV (hb:sb.Perm (iota (blw s V).length)) {t:Int} (ht:t∈sb.filter λt:Int=>decide (t≠(plc s.length 1).length)):(0<=t/\t<(blw s V).length)/\t≠(plc s.length 1).length:=by
 rw[nu] at ht;exact⟨aZ.1 (hb.subset ht.1),by simpa using ht.2⟩
theorem aTl (hb:sb.Perm (iota (blw s V).length)):(ofB s sb).Perm (smp s.length):=by
 have hd:(sb.filter λt:Int=>decide (t≠(plc s.length 1).length)).Nodup:=(hb.symm.nodup (eT _)).sublist uj;refine ZC ?_ (qH _) λx=>⟨λhx=> ?_,λhx=> ?_⟩
 ·unfold ofB;refine ik.2 (hd.imp_of_mem λ{x y} hx hy cv e=> ?_);obtain⟨⟨x0,x1⟩,xn⟩:=CV hb hx;obtain⟨⟨y0,y1⟩,yn⟩:=CV hb hy;have a:=(aBz x0 x1 xn).2.2;have b:=(aBz y0 y1 yn).2.2;rw[e,b] at a;omega
 ·obtain ⟨t,ht,rfl⟩:=ii.1 hx;obtain⟨⟨x0,x1⟩,xn⟩:=CV hb ht;have:=aBz x0 x1 xn;exact mD.2 ⟨this.1.1,this.1.2,this.2.1⟩
 ·obtain ⟨x0,x1,x3⟩:=mD.1 hx;have l1:=kC s.length 1;refine ii.2 ⟨uC s x.toNat,nu.2 ⟨hb.symm.subset (aZ.2 ⟨G,?_⟩),?_⟩,?_⟩
  ·rw [vF];unfold uC;split<;>omega
  ·rw [il,l1];unfold uC;split<;>omega
  ·unfold bk uC;rw[l1];by_cases c:x.toNat%3=1
   ·rw[di c,di G];omega
   ·rw[df c,df G];omega
theorem aEo (h:RkF s V n) (hn:0<=n) (hb:sb.Perm (iota (blw s V).length)) (hs:sb.Pairwise (bY (blw s V))):(ofB s sb).Pairwise (bY s):=by
 unfold ofB;refine ik.2 ((hs.filter _).imp_of_mem λ{x y} hx hy ho=> ?_);obtain⟨⟨x0,x1⟩,xn⟩:=CV hb hx;obtain⟨⟨y0,y1⟩,yn⟩:=CV hb hy;obtain⟨a1,a2,a3⟩:=aBz x0 x1 xn;obtain⟨b1,b2,b3⟩:=aBz y0 y1 yn;rw[oG] at ho ⊢;obtain⟨k,h1,h2⟩:=ho;rw[<-a3,<-b3] at h2;refine bCt h hn k _ _ G G G G ?_ (λd hd=>by rw[a3,b3];exact h1 d hd) h2;intro e;rw[e] at h2;omega
structure RkN (s o V:AH) (q:Int):Prop where
 len:V.length=s.length+3
 rk: ∀p,0<=p->p<q->rd V (rd o p)=p+1
 out: ∀j:Int,0<=j->j<s.length+3->(j%3=0\/s.length<=j)->rd V j=0
theorem RkF.zero (h:RkF s V n) (o:AH):RkN s o V 0:=⟨h.len,λp h1 h2=>G,h.out⟩
theorem RkN.step (h:RkN s o V q) (hp:o.Perm (smp s.length)) (q0:0<=q) (hq:q<o.length):RkN s o (upd V (rd o q) (q+1)) (q+1):=by
 have de: ∀p:Int,0<=p->p<o.length->rd o p∈smp s.length:=λp p0 p1=>hp.subset (bI p0 p1);have hnd:o.Nodup:=hp.symm.nodup (qH _);have iq:=mD.1 (de q q0 hq);have hl:=h.len;refine⟨by rw[aX];exact hl,λp p0 p1=> ?_,λj j0 j1 hj=> ?_⟩
 ·rcases bz p q with a|a
  ·have ip:=mD.1 (de p p0 G);rw[fP iq.1 ip.1 λe=>by have:=kK hnd q0 hq p0 G e;omega];exact h.rk p p0 a
  ·rw[show p=q by omega,eX iq.1 G]
 ·rw [fP iq.1 j0 G];exact h.out j j0 j1 hj
theorem RkN.done (h:RkN s o V o.length) (hp:o.Perm (smp s.length)) (hs:o.Pairwise (bY s)):RkO s o V:=⟨hp,hs,h.len,h.rk,h.out⟩
def aLb (s:AH) (a:Int):Prop:=0<=a/\(a<s.length/\a%3≠0\/a=s.length)
theorem RkO.at_ (h:RkO s o V) {a:Int} (ha:aLb s a) (hl:a<s.length): ∃p:Int,(0<=p/\p<o.length)/\rd o p=a/\rd V a=p+1:=by
 obtain⟨p,p0,p1,e⟩:=aFh (h.perm.symm.subset (mD.2 ⟨ha.1,hl,ha.2.elim (·.2) λh=>G⟩));exact⟨p,⟨p0,p1⟩,e,by rw[<-e];exact h.rk p p0 p1⟩
theorem RkO.end_ (h:RkO s o V):rd V (s.length:Int)=0:=h.out _ G G (.inr G)
theorem RkO.bd (h:RkO s o V) {a:Int} (ha:aLb s a):0<=rd V a/\rd V a<=o.length:=by
 rcases bz a s.length with c|c
 ·obtain ⟨p,hp,_,e⟩:=h.at_ ha c;omega
 ·have e:a=s.length:=ha.2.elim (λh=>G) id;rw[e,h.end_];omega
theorem RkO.cmp (h:RkO s o V) {a b:Int} (ha:aLb s a) (hb:aLb s b) (cv:a≠b):rd V a<rd V b↔LtO (eu s a.toNat) (eu s b.toNat):=by
 rcases bz a s.length with ca|ca
 ·obtain ⟨p,hp,ep,vp⟩:=h.at_ ha ca;rcases bz b s.length with cb|cb
  ·obtain ⟨r,hr,er,vr⟩:=h.at_ hb cb;rw[vp,vr];constructor
   ·intro bp;have:=eY h.sorted hp.1 (show p<r by omega) hr.2;rw[ep,er] at this;exact oG.1 this
   ·intro bp;rcases jk p r with c|c|c
    ·omega
    ·subst c;exact absurd (ep.symm.trans er) cv
    ·have:=eY h.sorted hr.1 c hp.2;rw[ep,er] at this;exact absurd bp (aMp (oG.1 this))
  ·have e:b=s.length:=hb.2.elim (λh=>G) id;rw[e,h.end_,vp];refine⟨λh=>G,λ⟨k,_,h2⟩=> ?_⟩;rw[jO (s:=s) (i:=(s.length:Int).toNat) G] at h2;have:=aVm s a.toNat k;omega
 ·have e:a=s.length:=ha.2.elim (λh=>G) id;rw[e,h.end_];have cb:b<s.length:=hb.2.elim (·.1) λh=>G
  obtain⟨r,hr,er,vr⟩:=h.at_ hb cb;rw[vr];refine⟨λ_=>⟨0,λi hi=>G,?_⟩,λ_=>G⟩;rw[jO G];exact sP (by have:=hb.1;omega)
def bhd (s V:AH):AH:=(List.range s.length).map λi:Nat=>rd V ((i:Int)+1)
theorem aKa (s V:AH):(bhd s V).length=s.length:=by simp[bhd]
theorem aEd {i:Int} (h0:0<=i) (h:i<s.length):rd (bhd s V) i=rd V (i+1):=by
 unfold bhd;rw[iL h0 G];congr 1;omega
theorem RkO.all_bd (h:RkO s o V) {j:Int} (j0:0<=j) (hj:j<=s.length):0<=rd V j/\rd V j<=s.length:=by
 have ho:o.length<=s.length:=by rw[h.perm.length_eq,BP];omega
 by_cases c:j%3=0
 ·rw[h.out j j0 G (.inl c)];omega
 ·have:=h.bd (a:=j) ⟨j0,G⟩;omega
theorem aXp (h:RkO s o V): ∀x∈bhd s V,0<=x/\x<(s.length:Int)+1:=by
 intro x hx;obtain⟨i,hi,rfl⟩:=ii.1 hx;have:=jw.1 hi;have:=h.all_bd (j:=(i:Int)+1) G G;omega
def oth (s V:AH) (k:Int):AH:=cZ (cZ (plc s.length 0) (bhd s V) ((s.length:Int)+1).toNat) (gG s 0) (k+1).toNat
theorem aSz (h:RkO s o V):(cZ (plc s.length 0) (bhd s V) ((s.length:Int)+1).toNat).Perm (plc s.length 0):=
 oF λi hi=>by
  rw[kQ G] at hi;have:=aXp h _ (bI (L:=bhd s V) hi.1 (by rw[aKa];exact hi.2.1));omega
theorem MU (h:RkO s o V) {k:Int} (hs: ∀x∈s,0<=x/\x<k) (hk:0<=k):(oth s V k).Perm (plc s.length 0):=
 (qI hs hk G λx hx=>by have:=(aSz h).subset hx;rw[kQ G] at this;omega).trans (aSz h)
theorem aEj (h:RkO s o V) {k:Int} (hs: ∀x∈s,0<=x/\x<k) (hk:0<=k):(oth s V k).Pairwise (bY s):=by
 have h3:=iF (keys:=gG s 0) (iF (keys:=bhd s V) (yH s.length 0) ((s.length:Int)+1).toNat) (k+1).toNat;refine lv (λ{x y} hx hy g=> ?_) h3;have mx:=(MU h hs hk).subset hx;have my:=(MU h hs hk).subset hy;rw[kQ G] at mx my;have nn:Nn s:=λx hx=>(hs x hx).1
 have e: ∀ {z:Int},0<=z->z<s.length->rd (gG s 0) z=eu s z.toNat 0:=λ{z} h0 h1=>by
  rw[CG h0 h1,vC nn];congr 1;omega
 rw[e mx.1 mx.2.1,e my.1 my.2.1,aEd mx.1 mx.2.1,aEd my.1 my.2.1] at g;have sx:aLb s (x+1):=⟨G,G⟩;have sy:aLb s (y+1):=⟨G,G⟩;rw[oG];rcases g with g|⟨g1,g2|⟨g2,g3⟩⟩
 ·exact⟨0,λi hi=>G,g⟩
 ·have:=(h.cmp sx sy λe=>by rw[e] at g2;omega).1 g2;refine(NJ (m:=1) λi hi=> ?_).1 ?_
  ·rw[show i=0 by omega];exact g1
  ·rw [show x.toNat+1=(x+1).toNat by omega,show y.toNat+1=(y+1).toNat by omega];exact this
 ·exfalso;have Lu:x≠y:=g3;have t:=h.cmp sx sy G;have t':=h.cmp sy sx G;rcases tri s.length (eu s (x+1).toNat) (eu s (y+1).toNat) with a|a|a
  ·have:=t.2 (zW a);omega
  ·have a0:EqH s.length (eu s x.toNat) (eu s y.toNat):=λi hi=>by
    cases i with
    |zero=>exact g1
    |succ i=>
     have:=a i G;rw[show(x+1).toNat=x.toNat+1 by omega,show(y+1).toNat=y.toNat+1 by omega,xH,xH,um] at this;exact this
   have:=aFr G G a0;omega
  ·have:=t'.2 (zW a);omega
theorem aUc (nn:Nn s) {i j:Int} (i0:0<=i) (j0:0<=j) {c:Nat} (e:EqH c (eu s i.toNat) (eu s j.toNat)) (cv:iY s (i+c)≠iY s (j+c)):iY s (i+c)<iY s (j+c)↔bY s i j:=by
 have k1:iY s (i+c)=eu s i.toNat c:=by rw[vC nn];congr 1;omega
 have k2:iY s (j+c)=eu s j.toNat c:=by rw[vC nn];congr 1;omega
 rw[k1,k2] at cv ⊢;rw[oG];refine⟨λh=>⟨c,e,h⟩,λ⟨k,h1,h2⟩=> ?_⟩;rcases xw k c with a|a|a
 ·have:=e k a;omega
 ·rw[<-a];exact h2
 ·exact absurd (h1 c a) cv
theorem bBg (nn:Nn s) {i j:Int} (i0:0<=i) (j0:0<=j) {c:Nat} (e:EqH c (eu s i.toNat) (eu s j.toNat)) (h:iY s (i+c)=iY s (j+c)):EqH (c+1) (eu s i.toNat) (eu s j.toNat):=λd hd=>by
 rcases gm d c with a|a
 ·exact e d a
 ·have k1:iY s (i+c)=eu s i.toNat c:=by rw[vC nn];congr 1;omega
  have k2:iY s (j+c)=eu s j.toNat c:=by rw[vC nn];congr 1;omega
  rw[show d=c by omega,<-k1,<-k2,h]
theorem aMs (h:RkO s o V) {i j:Int} (hi:0<=i/\i<s.length) (hj:0<=j/\j<s.length) (pn:i≠j) {c:Nat} (e:EqH c (eu s i.toNat) (eu s j.toNat)) (i3:(i+c)%3≠0) (j3:(j+c)%3≠0):
  (i+c<=s.length/\j+c<=s.length)/\(rd V (i+c)<rd V (j+c)↔bY s i j):=by
 have r1:=vD (s:=s) (i:=i.toNat) (j:=j.toNat) G G G e;have r2:=vD (s:=s) (i:=j.toNat) (j:=i.toNat) G G G e.symm;refine⟨G,?_⟩;rw[h.cmp ⟨G,G⟩ ⟨G,G⟩ G,oG,<-NJ e,show(i+c).toNat=i.toNat+c by omega,show(j+c).toNat=j.toNat+c by omega]
structure MgI (s o t acc:AH) (a q:Int):Prop where
 perm:acc.Perm (o.take a.toNat++t.take q.toNat)
 sorted:acc.Pairwise (bY s)
 ahead: ∀x∈acc,∀y,y∈o.drop a.toNat\/y∈t.drop q.toNat->bY s x y
variable {t acc:AH} {a:Int}
theorem aTs:MgI s o t [] 0 0:=⟨.refl _, .nil,λx hx=>by cases hx⟩
theorem MgI.len (h:MgI s o t acc a q) (a0:0<=a) (ha:a<=o.length) (q0:0<=q) (hq:q<=t.length):(acc.length:Int)=a+q:=by
 rw[h.perm.length_eq,ah,ax,ax];omega
theorem aHq {r:Int->Int->Prop} {l:AH} {x:Int} (h:l.Pairwise r) (hx: ∀y∈l,r y x):(l++[x]).Pairwise r:=by
 rw[kg];exact⟨h,pu _ _,λy hy z hz=>by rw[ic.1 hz];exact hx y hy⟩
theorem MgI.left (h:MgI s o t acc a q) (ho:o.Pairwise (bY s)) (ht:t.Pairwise (bY s)) (a0:0<=a) (ha:a<o.length) (q0:0<=q) (hq:q<t.length) (hl:bY s (rd o a) (rd t q)):MgI s o t (acc++[rd o a]) (a+1) q:=by
 have eo:=iA (s:=o) a0 ha;have et:=iA (s:=t) q0 hq;refine⟨?_,aHq h.sorted λy hy=>h.ahead y hy _ (.inl (by rw[eo];simp)),λx hx y hy=> ?_⟩
 ·rw [dJ a0 ha];refine(h.perm.append_right _).trans ?_;rw[gq,gq];exact zl _ uk
 ·rcases dz.1 hx with hx|hx
  ·exact h.ahead x hx y (hy.imp_left λhy=>by rw[eo];exact fo _ hy)
  ·rw [ic.1 hx];have so:(o.drop a.toNat).Pairwise (bY s):=ho.sublist (zu _ _);have st:(t.drop q.toNat).Pairwise (bY s):=ht.sublist (zu _ _);rw[eo,ja] at so;rw[et,ja] at st;rcases hy with hy|hy
   ·exact so.1 y hy
   ·rw [et] at hy;rcases jc.1 hy with rfl|hy
    ·exact hl
    ·exact zV _ _ _ hl (st.1 y hy)
theorem MgI.right (h:MgI s o t acc a q) (ho:o.Pairwise (bY s)) (ht:t.Pairwise (bY s)) (a0:0<=a) (q0:0<=q) (hq:q<t.length) (hl:a<o.length->bY s (rd t q) (rd o a)):MgI s o t (acc++[rd t q]) a (q+1):=by
 have et:=iA (s:=t) q0 hq;refine⟨?_,aHq h.sorted λy hy=>h.ahead y hy _ (.inr (by rw[et];simp)),λx hx y hy=> ?_⟩
 ·rw [dJ q0 hq,<-gq];exact h.perm.append_right _
 ·rcases dz.1 hx with hx|hx
  ·exact h.ahead x hx y (hy.imp_right λhy=>by rw[et];exact fo _ hy)
  ·rw [ic.1 hx];have st:(t.drop q.toNat).Pairwise (bY s):=ht.sublist (zu _ _);rw[et,ja] at st;rcases hy with hy|hy
   ·rcases bz a o.length with c|c
    ·have eo:=iA (s:=o) a0 c;have so:(o.drop a.toNat).Pairwise (bY s):=ho.sublist (zu _ _);rw[eo,ja] at so;rw[eo] at hy;rcases jc.1 hy with rfl|hy
     ·exact hl c
     ·exact zV _ _ _ (hl c) (so.1 y hy)
    ·rw [qd G] at hy;cases hy
   ·exact st.1 y hy
theorem MgI.done (h:MgI s o t acc a q) (ho:o.Pairwise (bY s)) (hq:(t.length:Int)<=q) (hp:o.Perm (smp s.length)) (tp:t.Perm (plc s.length 0)):(acc++o.drop a.toNat).Perm (iota s.length)/\(acc++o.drop a.toNat).Pairwise (bY s):=by
 refine⟨?_,?_⟩
 ·have h1:=h.perm;rw[bi (l:=t) G] at h1;refine((h1.append_right _).trans ?_).trans (((hp.append_right _).trans (tp.append_left _)).trans (aYx _));refine(uk.append_right _).trans ?_;rw[gq,gy];exact uk
 ·rw [kg];exact⟨h.sorted,ho.sublist (zu _ _),λx hx y hy=>h.ahead x hx y (.inl hy)⟩
end
def thr (s:AH) (m:Int):AH:=(List.range (m+1).toNat).map λc:Nat=>if (c:Int)∈s then 1 else 0
theorem kP (s:AH) (m:Int):(thr s m).length=(m+1).toNat:=by simp[thr]
theorem MC {s:AH} {m c:Int} (h0:0<=c) (h:c<=m):rd (thr s m) c=if c∈s then 1 else 0:=by
 unfold thr;rw[iL h0 G,show((c.toNat:Nat):Int)=c by omega]
theorem aYo (m:Int):thr [] m=List.replicate (m+1).toNat 0:=by
 refine bL (by rw[kP,dh]) λj h0 h1=> ?_;rw[kP] at h1;rw[MC h0 G,uS];rfl
theorem aQj {s:AH} {m x:Int} (h0:0<=x) (h:x<=m):upd (thr s m) x 1=thr (s++[x]) m:=by
 refine bL (by rw[aX,kP,kP]) λj j0 j1=> ?_;rw[aX,kP] at j1;rw[gH h0 j0 (by rw[kP];omega),MC j0 G,MC j0 G];by_cases e:j=x
 ·rw[di e,di (by rw[e];simp)]
 ·rw [df e];by_cases c:j∈s
  ·rw[di c,di (Em _ c)]
  ·rw[df c,df (by rw[dz,ic];exact λh=>h.elim c e)]
theorem aQk (s:AH) (m:Int): ∀x∈thr s m,0<=x:=by
 intro x hx;obtain⟨c,_,rfl⟩:=ii.1 hx;split<;>omega
theorem aSq {s:AH} {m:Int}: ∀x:Nat,(x:Int)<=m+1->ps (thr s m) x=((List.range x).filter λc:Nat=>decide ((c:Int)∈s)).length
 |0,_=>rfl
 | x+1,h=>by
  rw[show((x+1:Nat):Int)=(x:Int)+1 by omega,lY G (by rw[kP];omega),aSq x G,MC G G,zm,tq,ah];by_cases c:(x:Int)∈s
  ·rw [di c,nz (by simpa using c)];simp
  ·rw [df c,kz (by simpa using c)];simp
theorem aZz {L:AH} (h: ∀x∈L,0<=x) {a b:Int} (h0:0<=a) (vj:a<=b) (hb:b<=L.length):ps L a<=ps L b:=by
 obtain⟨d,rfl⟩: ∃d:Nat,b=a+d:=⟨(b-a).toNat,G⟩
 induction d with
 |zero=>simp
 |succ d ih=>
  have:=ih G G;rw[show a+((d+1:Nat):Int)=a+(d:Int)+1 by omega,lY G G];have:=h _ (bI (L:=L) (k:=a+d) G G);omega
theorem aHo {s:AH} {m x y:Int} (hx:x∈s) (x0:0<=x) (Lu:x<y) (hy:y<=m):ps (thr s m) x<ps (thr s m) y:=by
 have h1:=lY (L:=thr s m) (k:=x) x0 (by rw[kP];omega);rw[MC x0 G,di hx] at h1;have h2:=aZz (aQk s m) (a:=x+1) (b:=y) G G (by rw[kP];omega);omega
theorem bIz {s:AH} {m x:Int} (hx:x∈s) (x0:0<=x) (hm:x<=m):0<=ps (thr s m) x/\ps (thr s m) x<s.length:=by
 have e:ps (thr s m) x=((List.range x.toNat).filter λc:Nat=>decide ((c:Int)∈s)).length:=by
  have:=aSq (s:=s) (m:=m) x.toNat G;rwa[show((x.toNat:Nat):Int)=x by omega] at this
 rw[e];have hl:=oM (l:=(((List.range x.toNat).filter λc:Nat=>decide ((c:Int)∈s)).map λc:Nat=>(c:Int))++[x]) (m:=s) ?_ ?_
 ·rw [ah,bq,ib] at hl;omega
 ·refine xu.2 ⟨ik.2 ((xe.sublist uj).imp λ{x y} h hh=>h G),pu _ _,λa ha b hb e=> ?_⟩;obtain⟨c,hc,rfl⟩:=ii.1 ha;have:=jw.1 (nu.1 hc).1;rw[ic] at hb;omega
 ·intro z hz;rcases dz.1 hz with hz|hz
  ·obtain ⟨c,hc,rfl⟩:=ii.1 hz;simpa using (nu.1 hc).2
  ·rw[ic.1 hz];exact hx
def sqz (s:AH) (m:Int):AH:=s.map λx=>ps (thr s m) x
theorem JN (s:AH) (m:Int):(sqz s m).length=s.length:=by simp[sqz]
theorem bFo {s:AH} {m:Int} (hs: ∀x∈s,0<=x/\x<=m): ∀x∈sqz s m,0<=x/\x<s.length:=by
 intro y hy;obtain⟨x,hx,rfl⟩:=ii.1 hy;exact bIz hx (hs x hx).1 (hs x hx).2
theorem OI {P:Int->Prop} {f:Int->Int} (hf: ∀x y:Int,P x->P y->(x<y↔f x<f y)): ∀a b:AH,(∀x∈a,P x)->(∀x∈b,P x)->cmpL (a.map f) (b.map f)=cmpL a b
 |[],[],_,_=>rfl
 |[],b::v,_,_=>rfl
 |a::u,[],_,_=>rfl
 |a::u,b::v,ha,hb=>by
  have pa:=ha a cD;have pb:=hb b cD;simp only[ko,cmpL,<-hf a b pa pb,<-hf b a pb pa];rw[OI hf u v (λx hx=>ha x (fo _ hx)) λx hx=>hb x (fo _ hx)]
theorem aYt {s:AH} {m:Int} (hs: ∀x∈s,0<=x/\x<=m) {x y:Int}:bY (sqz s m) x y↔bY s x y:=by
 rw[<-iE,<-iE];unfold sqz;rw[<-Hr,<-Hr,OI (P:=λx=>x∈s) (λx y hx hy=>⟨λh=>aHo hx (hs x hx).1 h (hs y hy).2,λh=> ?_⟩) _ _ (λx hx=>ny hx) λx hx=>ny hx];refine Int.not_le.1 λc=> ?_;rcases bz y x with d|d
 ·have:=aHo hy (hs y hy).1 d (hs x hx).2;omega
 ·rw [show x=y by omega] at h;omega
theorem aKx {s b:AH} {m:Int} (hs: ∀x∈s,0<=x/\x<=m) (hp:b.Perm (iota (sqz s m).length)) (ho:b.Pairwise (bY (sqz s m))):b.Perm (iota s.length)/\b.Pairwise (bY s):=by
 rw[JN] at hp;exact⟨hp,ho.imp λh=>(aYt hs).1 h⟩
def bFk (s:AH) (k:Int):Nat->AH
 |0=>smp s.length
 |j+1=>cZ (bFk s k j) (gG s (2-(j:Int))) (k+1).toNat
theorem FB {s:AH} {k:Int} (hs: ∀x∈s,0<=x/\x<k) (hk:0<=k): ∀j:Nat,j<=3->(bFk s k j).Perm (smp s.length)
 |0,_=> .refl _
 |j+1,h=>(qI hs hk G λx hx=>nZ ((FB hs hk j G).subset hx)).trans (FB hs hk j G)
def QF (s:AH) (i j:Int):Prop:=iY s (i+0)=iY s (j+0)/\iY s (i+1)=iY s (j+1)/\iY s (i+2)=iY s (j+2)
instance (s:AH) (i j:Int):Decidable (QF s i j):=by unfold QF;exact inferInstance
theorem aCh {s:AH} (nn:Nn s) {i j:Int} (i0:0<=i) (j0:0<=j):QF s i j↔EqH 3 (eu s i.toNat) (eu s j.toNat):=by
 have e: ∀(z:Int) (b:Nat),0<=z->iY s (z+b)=eu s z.toNat b:=λz b hz=>by rw[vC nn];congr 1;omega
 have a0:iY s (i+0)=eu s i.toNat 0:=e i 0 i0;have a1:iY s (i+1)=eu s i.toNat 1:=e i 1 i0;have a2:iY s (i+2)=eu s i.toNat 2:=e i 2 i0;have b0:iY s (j+0)=eu s j.toNat 0:=e j 0 j0;have b1:iY s (j+1)=eu s j.toNat 1:=e j 1 j0;have b2:iY s (j+2)=eu s j.toNat 2:=e j 2 j0;unfold QF;rw[a0,a1,a2,b0,b1,b2];constructor
 ·rintro ⟨h0,h1,h2⟩ d hd
  match d,hd with
  |0,_=>exact h0
  |1,_=>exact h1
  |2,_=>exact h2
 ·intro h;exact⟨h 0 G,h 1 G,h 2 G⟩
theorem bCz {s:AH} {i j:Int} (h: ∀c:Int,0<=c->c<3->iY s (i+c)=iY s (j+c)):QF s i j:=⟨h 0 G G,h 1 G G,h 2 G G⟩
theorem aXz {s:AH} {i j c:Int} (c0:0<=c) (c3:c<3) (h:iY s (i+c)≠iY s (j+c)): ¬QF s i j:=by
 rintro⟨h0,h1,h2⟩;rcases(by omega:c=0\/c=1\/c=2) with rfl|rfl|rfl
 ·exact h h0
 ·exact h h1
 ·exact h h2
section
variable {s o V:AH} {q n:Int}
theorem bGp (nn:Nn s) (hp:o.Perm (smp s.length)) (hs:o.Pairwise λx y=> ¬LtH 3 (eu s y.toNat) (eu s x.toNat)) (q0:0<=q) (hq:q<o.length) (h:q=0\/ ¬QF s (rd o (q-1)) (rd o q)):
  q=0\/LtH 3 (eu s (rd o (q-1)).toNat) (eu s (rd o q).toNat):=by
 rcases bz 0 q with c|c
 ·rcases h with h|h
  ·exact .inl h
  ·have de: ∀p:Int,0<=p->p<o.length->0<=rd o p:=λp a b=>(nZ (hp.subset (bI a b))).1;rw[aCh nn (de (q-1) G G) (de q q0 hq)] at h;have g:=eY hs (i:=q-1) (j:=q) G G hq;rcases tri 3 (eu s (rd o (q-1)).toNat) (eu s (rd o q).toNat) with a|a|a
   ·exact .inr a
   ·exact absurd a h
   ·exact absurd a g
 ·exact .inl G
theorem bGm (nn:Nn s) (hp:o.Perm (smp s.length)) (q0:0<=q) (hq:q<o.length) (h: ¬(q=0\/ ¬QF s (rd o (q-1)) (rd o q))):0<q/\EqH 3 (eu s (rd o (q-1)).toNat) (eu s (rd o q).toNat):=by
 have c:0<q:=G
 have de: ∀p:Int,0<=p->p<o.length->0<=rd o p:=λp a b=>(nZ (hp.subset (bI a b))).1;refine⟨c,(aCh nn (de (q-1) G G) (de q q0 hq)).1 (xh.1 λg=>h (.inr g))⟩
theorem RkI.short (h:RkI s o V o.length n) (hp:o.Perm (smp s.length)) (h2:2<=s.length) (h3:s.length<=3):n=o.length:=by
 have hl:o.length=(s.length+1)/3+s.length/3:=by rw[hp.length_eq,BP]
 have de: ∀p:Int,0<=p->p<o.length->(0<=rd o p/\rd o p<s.length/\rd o p%3≠0):=λp a b=>mD.1 (hp.subset (bI a b));have hnq:=h.nq;have b0:=h.bd 0 G G;rcases(by omega:o.length=1\/o.length=2) with e|e
 ·omega
 ·have b1:=h.bd 1 G G;have i0:=de 0 G G;have i1:=de 1 G G;rcases h.lt 0 1 G G G with⟨a,_⟩|⟨_,a⟩
  ·exfalso;have cv:rd o 0≠rd o 1:=λg=>by have:=kK (hp.symm.nodup (qH _)) (i:=0) (j:=1) G G G G g;omega
   have:=vD (s:=s) (i:=(rd o 0).toNat) (j:=(rd o 1).toNat) G G G a;omega
  ·omega
theorem bHt {t:Int} (h0:0<=t) (h:t<(plc s.length 1).length):rd (plc s.length 1) t=bk s t:=by
 unfold bk;rw[di h,VE h0 h];rfl
theorem bHs {t:Int} (h:(plc s.length 1).length<t) (ht:t-1<(smp s.length).length):rd (smp s.length) (t-1)=bk s t:=by
 unfold bk;rw[df G];unfold smp at ht ⊢;rw[ah] at ht;rw[iH G,VE G G];omega
theorem aMc (h:s.length<2):plc s.length 0=iota s.length:=by
 rcases(by omega:s.length=0\/s.length=1) with e|e<;>rw[e]<;>rfl
theorem bGb (h:s.length<2):(iota s.length).Pairwise (bY s):=by
 rcases(by omega:s.length=0\/s.length=1) with e|e
 ·rw[e];exact .nil
 ·rw[e];exact pu _ _
theorem bHw {W:AH} (hl:W.length=s.length) (h: ∀j:Int,0<=j->j<s.length->rd W j=rd V (j+1)):W=bhd s V:=
 bL (hl.trans (aKa s V).symm) λj h0 h1=>by rw[aEd h0 G];exact h j h0 G
theorem aUl {W:AH} {b:Int} (hl:W.length=s.length) (h: ∀j:Int,0<=j->j<s.length->rd W j=iY s (j+b)):W=gG s b:=
 bL (hl.trans (GA s b).symm) λj h0 h1=>by rw[CG h0 G];exact h j h0 G
end
theorem LC: ∀ {L:AH},(∀x∈L,x<=1)->L.sum<=L.length
 |[],_=>cD
 |a::L,h=>by
  have:=LC (L:=L) λx hx=>h x (fo _ hx);have:=h a cD;rw[uh,dn];omega
theorem aYn (s:AH) (m:Int):(thr s m).sum<=(m+1).toNat:=by
 rw[<-kP s m];refine LC λx hx=> ?_;obtain⟨c,_,rfl⟩:=ii.1 hx;split<;>omega
theorem bFn {s W:AH} {m:Int} (hs: ∀x∈s,0<=x/\x<=m) (hl:W.length=s.length) (h: ∀j:Int,0<=j->j<s.length->rd W j=rd (dD (thr s m)) (rd s j)):W=sqz s m:=
 bL (hl.trans (JN s m).symm) λj h0 h1=>by
  have hm:=hs _ (bI (L:=s) h0 G);unfold sqz;rw[wJ h0 G,h j h0 G,oD hm.1 (by rw[kP];omega)]
def GJ (s:AH) (i j:Nat) (d:Nat):Prop:=(i+d<s.length/\j+d<s.length)/\lt s (i+d)=lt s (j+d)
instance (s:AH) (i j d:Nat):Decidable (GJ s i j d):=by unfold GJ;exact inferInstance
def aBo (s:AH):Nat->Nat->Nat->Nat
 |0,_,_=>0
 |f+1,i,j=>if GJ s i j 0 then aBo s f (i+1) (j+1)+1 else 0
def com (s:AH) (i j:Int):Nat:=aBo s s.length i.toNat j.toNat
theorem aAt {s:AH} {i j m d:Nat}:GJ s (i+m) (j+m) d↔GJ s i j (m+d):=by
 unfold GJ;rw[mo,mo]
theorem aBn {s:AH}: ∀(f i j:Nat),∀d,d<aBo s f i j->GJ s i j d
 |0,i,j,d,h=>by simp[aBo] at h
 | f+1,i,j,d,h=>by
  unfold aBo at h;split at h
  ·rename_i c;cases d with
   |zero=>exact c
   |succ d=>
    have:=aBn (s:=s) f (i+1) (j+1) d G;rwa[aAt,um] at this
  ·omega
theorem aBm {s:AH}: ∀(f i j:Nat),s.length<=i+f-> ¬GJ s i j (aBo s f i j)
 |0,i,j,h=>by
  unfold aBo GJ;omega
 | f+1,i,j,h=>by
  unfold aBo;by_cases c:GJ s i j 0
  ·rw [di c];have:=aBm (s:=s) f (i+1) (j+1) G;rwa[aAt,um] at this
  ·rw[df c];exact c
theorem aJo {s:AH} {i j:Int}: ∀d,d<com s i j->GJ s i.toNat j.toNat d:=aBn _ _ _
theorem bCj {s:AH} {i j:Int}: ¬GJ s i.toNat j.toNat (com s i j):=aBm _ _ _ G
theorem bHm {s:AH} {i j:Int} {n:Nat}:n<=com s i j↔ ∀d,d<n->GJ s i.toNat j.toNat d:=by
 refine⟨λh d hd=>aJo d G,λh=>Ik.1 λc=> ?_⟩;exact bCj (h _ c)
theorem bHn {s:AH} {i j:Int} (i0:0<=i) (hi:i<=s.length) (j0:0<=j) (hj:j<=s.length):i+com s i j<=s.length/\j+com s i j<=s.length:=by
 rcases ek (com s i j) with z|z
 ·omega
 ·have:=(aJo (s:=s) (i:=i) (j:=j) (com s i j-1) G).1;omega
theorem aJn {s:AH} {i j:Int} {n:Nat} (hi:0<=i/\i<s.length) (hj:0<=j/\j<s.length) (pn:i≠j):n<=com s i j↔EqH n (eu s i.toNat) (eu s j.toNat):=by
 rw[bHm];constructor
 ·intro h d hd;obtain⟨⟨a,b⟩,c⟩:=h d hd;unfold eu;rw[di a,di b,c]
 ·intro h d hd;have r1:=vD (s:=s) (i:=i.toNat) (j:=j.toNat) G G G h;have r2:=vD (s:=s) (i:=j.toNat) (j:=i.toNat) G G G h.symm;refine⟨⟨G,G⟩,?_⟩;have:=h d hd;unfold eu at this;rw[di G,di G] at this;omega
theorem eq_between {n:Nat} {U V W:Nat->Int} (e:EqH n U W) (h1: ¬LtO V U) (h2: ¬LtO W V):EqH n U V:=by
 rcases tri n U V with a|a|a
 ·exact absurd (zW (e.symm.ltH a)) h2
 ·exact a
 ·exact absurd (zW a) h1
structure vI (s a R:AH):Prop where
 perm:a.Perm (iota s.length)
 sorted:a.Pairwise (bY s)
 len:R.length=s.length
 inv: ∀r:Int,0<=r->r<s.length->rd R (rd a r)=r
section
variable {s a R:AH}
theorem vI.alen (h:vI s a R):a.length=s.length:=by rw[h.perm.length_eq,bD]
theorem vI.ain (h:vI s a R) {r:Int} (r0:0<=r) (hr:r<s.length):0<=rd a r/\rd a r<s.length:=aZ.1 (h.perm.subset (bI r0 (by rw[h.alen];exact hr)))
theorem vI.at_ (h:vI s a R) {i:Int} (i0:0<=i) (hi:i<s.length):(0<=rd R i/\rd R i<s.length)/\rd a (rd R i)=i:=by
 obtain⟨p,p0,p1,e⟩:=aFh (h.perm.symm.subset (aZ.2 ⟨i0,hi⟩));rw[h.alen] at p1;have:=h.inv p p0 p1;rw[e] at this;rw[this];exact⟨⟨p0,p1⟩,e⟩
theorem vI.ord (h:vI s a R) {p q:Int} (p0:0<=p) (Zq:p<q) (hq:q<s.length):bY s (rd a p) (rd a q):=eY h.sorted p0 Zq (by rw[h.alen];exact hq)
theorem vI.rank (h:vI s a R) {i j:Int} (hi:0<=i/\i<s.length) (hj:0<=j/\j<s.length):rd R i<rd R j↔bY s i j:=by
 obtain⟨a1,a2⟩:=h.at_ hi.1 hi.2;obtain⟨b1,b2⟩:=h.at_ hj.1 hj.2;constructor
 ·intro c;have:=h.ord a1.1 c b1.2;rwa[a2,b2] at this
 ·intro c;rcases jk (rd R i) (rd R j) with d|d|d
  ·exact d
  ·rw [d,b2] at a2;rw[a2] at c;exact absurd c (gI _ _ c)
  ·have:=h.ord b1.1 d a1.2;rw[a2,b2] at this;exact absurd c (gI _ _ this)
theorem aFb (h:vI s a R) {i:Int} (i0:0<=i) (hi:i+1<s.length) (h1:0<rd R i) (h2:0<rd R (i+1)):
  com s i (rd a (rd R i-1))-1<=com s (i+1) (rd a (rd R (i+1)-1)):=by
 rcases gm 1 (com s i (rd a (rd R i-1))) with c|c
 ·obtain ⟨ra,rb⟩:=h.at_ i0 G;obtain⟨sa,sb⟩:=h.at_ (i:=i+1) G hi;generalize hj:rd a (rd R i-1)=j at c ⊢;generalize hp:rd a (rd R (i+1)-1)=p;have jin:=h.ain (r:=rd R i-1) G G;have pin:=h.ain (r:=rd R (i+1)-1) G G;rw[hj] at jin;rw[hp] at pin;have Uz:=h.ord (p:=rd R i-1) (q:=rd R i) G G ra.2;rw[hj,rb] at Uz;have Va:=h.ord (p:=rd R (i+1)-1) (q:=rd R (i+1)) G G sa.2;rw[hp,sb] at Va;have r9:j≠i:=λe=>by rw[e] at Uz;exact gI _ _ Uz Uz
  have Qk:p≠i+1:=λe=>by rw[e] at Va;exact gI _ _ Va Va
  have bj:=bHn (s:=s) (i:=i) (j:=j) G G G G;have l6:j+1<s.length:=G
  have e:=(aJn (n:=com s i j) ⟨i0,G⟩ jin (Gw r9)).1 (dx _);have e1:EqH 1 (eu s j.toNat) (eu s i.toNat):=(e.mono G).symm
  have o1:LtO (eu s (j+1).toNat) (eu s (i+1).toNat):=by
   rw[show(j+1).toNat=j.toNat+1 by omega,show(i+1).toNat=i.toNat+1 by omega,NJ e1];exact oG.1 Uz
  have r1:=(h.rank (i:=j+1) (j:=i+1) ⟨G,l6⟩ ⟨G,hi⟩).2 (oG.2 o1);obtain⟨ta,tb⟩:=h.at_ (i:=j+1) G l6
  have e2:EqH (com s i j-1) (eu s (i+1).toNat) (eu s (j+1).toNat):=λd hd=>by
   have:=e (d+1) G;rw[show(j+1).toNat=j.toNat+1 by omega,show(i+1).toNat=i.toNat+1 by omega,xH,xH,um 1 d];exact this
  refine(aJn ⟨G,hi⟩ pin (Gw Qk)).2 ?_
  have ox:j+1=p\/bY s (j+1) p:=by
   rcases bz (rd R (j+1)) (rd R (i+1)-1) with d|d
   ·have:=h.ord ta.1 d G;rw[tb,hp] at this;exact .inr this
   ·refine .inl ?_;rw[<-tb,<-hp];congr 1;omega
  rcases ox with rfl|ox
  ·exact e2
  ·refine e2.trans' (eq_between e2.symm (λg=> ?_) λg=> ?_)
   ·exact gI _ _ ox (oG.2 g)
   ·exact gI _ _ Va (oG.2 g)
 ·omega
def aMw (s a:AH):AH:=(List.range a.length).map λr:Nat=>if r=0 then 0 else(com s (rd a r) (rd a ((r:Int)-1)):Int)
theorem aUf (s a:AH):(aMw s a).length=a.length:=by simp[aMw]
theorem aIb {r:Int} (h0:0<=r) (h:r<a.length):rd (aMw s a) r=if r=0 then 0 else(com s (rd a r) (rd a (r-1)):Int):=by
 unfold aMw;rw[iL h0 G,show((r.toNat:Nat):Int)=r by omega];by_cases c:r=0
 ·rw[di c,di G]
 ·rw[df c,df G]
structure aCl (s a R V:AH) (i n:Int):Prop where
 len:V.length=s.length
 n0:0<=n
 nl:i<s.length->0<rd R i->n.toNat<=com s i (rd a (rd R i-1))
 val: ∀p:Int,0<=p->p<i->rd V (rd R p)=rd (aMw s a) (rd R p)
 zero:0<s.length->rd V 0=0
variable {V:AH} {i n:Int}
theorem aCl.skip (k:aCl s a R V i n) (h:vI s a R) (i0:0<=i) (hi:i<s.length) (hr:rd R i=0):aCl s a R V (i+1) 0:=by
 refine⟨k.len,G,λ_ _=>qg _,λp p0 p1=> ?_,k.zero⟩;rcases bz p i with c|c
 ·exact k.val p p0 c
 ·rw [show p=i by omega,hr,aIb G (by rw[h.alen];omega),di rfl];exact k.zero G
theorem aCl.put (k:aCl s a R V i n) (h:vI s a R) (i0:0<=i) (hi:i<s.length) (hr:rd R i≠0) {m:Int} (hm:m=com s i (rd a (rd R i-1))):aCl s a R (upd V (rd R i) m) (i+1) (max (m-1) 0):=by
 obtain⟨ra,rb⟩:=h.at_ i0 hi;have hl:=k.len;refine⟨by rw[aX];exact hl,G,λh1 h2=> ?_,λp p0 p1=> ?_,λhs=> ?_⟩
 ·have:=aFb h i0 h1 G h2;omega
 ·obtain ⟨pa,pb⟩:=h.at_ p0 (show p<s.length by omega);rcases bz p i with c|c
  ·rw [fP ra.1 pa.1 λe=>by rw[<-e,rb] at pb;omega];exact k.val p p0 c
  ·rw[show p=i by omega,eX ra.1 G,aIb ra.1 (by rw[h.alen];exact ra.2),df hr,rb,hm]
 ·rw [fP ra.1 G hr];exact k.zero hs
theorem aCl.done (k:aCl s a R V s.length n) (h:vI s a R):V=aMw s a:=by
 refine bL (by rw[k.len,aUf,h.alen]) λj j0 j1=> ?_;rw[k.len] at j1;have e:=k.val (rd a j) (h.ain j0 j1).1 (h.ain j0 j1).2;rwa[h.inv j j0 j1] at e
def MN (s a R:AH):AH:=(List.range s.length).map λi:Nat=>if rd R i=0 then 0 else(com s i (rd a (rd R i-1)):Int)
theorem aMb:(MN s a R).length=s.length:=by simp[MN]
theorem aSl (h0:0<=i) (h:i<s.length):rd (MN s a R) i=if rd R i=0 then 0 else(com s i (rd a (rd R i-1)):Int):=by
 unfold MN;rw[iL h0 G,show((i.toNat:Nat):Int)=i by omega]
theorem vI.next (h:vI s a R) {r:Int} (r0:1<=r) (hr:r<s.length):rd s (rd a (r-1))<rd s (rd a r)\/rd s (rd a (r-1))=rd s (rd a r)/\
  ((rd a (r-1)+1=s.length/\rd a r+1<s.length)\/(rd a (r-1)+1<s.length/\rd a r+1<s.length/\rd R (rd a (r-1)+1)<rd R (rd a r+1))):=by
 have o:=h.ord (p:=r-1) (q:=r) G G hr;have x:=h.ain (r:=r-1) G G;have y:=h.ain (r:=r) G hr;generalize rd a (r-1)=p at o x ⊢;generalize rd a r=q at o y ⊢;rw[oG] at o
 have e0: ∀z:Int,0<=z->z<s.length->eu s z.toNat 0=rd s z-lo s+1:=λz z0 z1=>by
  unfold eu;rw[di G];rfl
 obtain⟨k,h1,h2⟩:=o;cases k with
 |zero=>rw[e0 p x.1 x.2,e0 q y.1 y.2] at h2;exact .inl G
 | succ k=>
  have e:=h1 0 G;rw[e0 p x.1 x.2,e0 q y.1 y.2] at e;refine .inr ⟨G,?_⟩
  have hq:q+1<s.length:=by
   rcases gm (q.toNat+(k+1)) s.length with c|c
   ·omega
   ·rw [jO c] at h2;have:=aVm s p.toNat (k+1);omega
  rcases bz (p+1) s.length with c|c
  ·refine .inr ⟨c,hq,(h.rank ⟨G,c⟩ ⟨G,hq⟩).2 (oG.2 ?_)⟩;rw[show(p+1).toNat=p.toNat+1 by omega,show(q+1).toNat=q.toNat+1 by omega,NJ (λd hd=>by rw[show d=0 by omega];exact h1 0 G)];exact⟨k+1,h1,h2⟩
  ·exact .inl ⟨G,hq⟩
end
structure XD (a V:AH) (B:List Bool) (q:Int):Prop where
 len:V.length=a.length
 blen:B.length=a.length
 val: ∀p:Int,0<=p->p<q->rd V (rd a p)=p
 seen: ∀x:Int,0<=x->x<a.length->(rdb B x=true↔ ∃p:Int,0<=p/\p<q/\rd a p=x)
theorem XD.fresh {a V:AH} {B:List Bool} {q:Int} (h:XD a V B q) (hp:a.Perm (iota a.length)) (q0:0<=q) (hq:q<a.length):(0<=rd a q/\rd a q<a.length)/\ ¬rdb B (rd a q)=true:=by
 have de:=aZ.1 (hp.subset (bI q0 hq));refine⟨de,λhs=> ?_⟩;obtain⟨p,p0,p1,e⟩:=(h.seen _ de.1 de.2).1 hs;have:=kK (hp.symm.nodup (eT _)) p0 G q0 hq e;omega
theorem XD.step {a V:AH} {B:List Bool} {q:Int} (h:XD a V B q) (hp:a.Perm (iota a.length)) (q0:0<=q) (hq:q<a.length):XD a (upd V (rd a q) q) (qR B (rd a q) true) (q+1):=by
 obtain⟨⟨x0,x1⟩,_⟩:=h.fresh hp q0 hq;have hl:=h.len;have hb:=h.blen;have hnd:=hp.symm.nodup (eT a.length);refine⟨by rw[aX];exact hl,by rw[lU];exact hb,λp p0 p1=> ?_,λx h0 h1=> ?_⟩
 ·rcases bz p q with c|c
  ·have de:=aZ.1 (hp.subset (bI (L:=a) p0 G));rw[fP x0 de.1 λe=>by have:=kK hnd q0 hq p0 G e;omega];exact h.val p p0 c
  ·rw[show p=q by omega,eX x0 G]
 ·rw [yE x0 G h0];by_cases c:x=rd a q
  ·rw [di c];exact⟨λ_=>⟨q,q0,G,c.symm⟩,λ_=>rfl⟩
  ·rw [df c,h.seen x h0 h1];exact⟨λ⟨p,p0,p1,e⟩=>⟨p,p0,G,e⟩,λ⟨p,p0,p1,e⟩=>⟨p,p0,(bz p q).elim id λd=>absurd (by rw[<-e,show p=q by omega]) c,e⟩⟩
theorem XD.done {s a V:AH} {B:List Bool} (h:XD a V B a.length) (hp:a.Perm (iota s.length)) (hs:a.Pairwise (bY s)):vI s a V:=by
 have hl:a.length=s.length:=by rw[hp.length_eq,bD]
 exact⟨hp,hs,by rw[h.len,hl],λr r0 hr=>h.val r r0 G⟩
def bIc (a V:AH):Prop:=V.length=a.length/\ ∀r:Int,0<=r->r<a.length->rd V (rd a r)=r
theorem XD.all {a V:AH} {B:List Bool} (h:XD a V B a.length):bIc a V:=⟨h.len,h.val⟩
theorem bIc.ord {s a V:AH} (h:bIc a V) (hp:a.Perm (iota s.length)) (hs:a.Pairwise (bY s)):vI s a V:=by
 have hl:a.length=s.length:=by rw[hp.length_eq,bD]
 exact⟨hp,hs,by rw[h.1,hl],λr r0 hr=>h.2 r r0 G⟩
section
variable {s a R:AH}
structure AhI (a V:AH) (q l:Int):Prop where
 len:V.length=a.length
 last:l=if q=0 then -1 else rd a (q-1)
 val: ∀p:Int,0<=p->p<q->rd V (rd a p)=if p=0 then -1 else rd a (p-1)
def AhF (a V:AH):Prop:=V.length=a.length/\ ∀p:Int,0<=p->p<a.length->rd V (rd a p)=if p=0 then -1 else rd a (p-1)
variable {V:AH} {q l:Int}
theorem AhI.step (h:AhI a V q l) (hp:a.Perm (iota a.length)) (q0:0<=q) (hq:q<a.length):AhI a (upd V (rd a q) l) (q+1) (rd a q):=by
 have de:=aZ.1 (hp.subset (bI q0 hq));have hnd:=hp.symm.nodup (eT a.length);have hl:=h.len;refine⟨by rw[aX];exact hl,by rw[df G,show q+1-1=q by omega],λp p0 p1=> ?_⟩;rcases bz p q with c|c
 ·have ip:=aZ.1 (hp.subset (bI (L:=a) p0 G));rw[fP de.1 ip.1 λe=>by have:=kK hnd q0 hq p0 G e;omega];exact h.val p p0 c
 ·rw [show p=q by omega,eX de.1 G];exact h.last
theorem AhI.done (h:AhI a V a.length l):AhF a V:=⟨h.len,h.val⟩
theorem AhF.at_ (h:AhF a V) (o:vI s a R) {i:Int} (h0:0<=i) (hi:i<s.length):rd V i=if rd R i=0 then -1 else rd a (rd R i-1):=by
 obtain⟨x,y⟩:=o.at_ h0 hi;have:=h.2 (rd R i) x.1 (by rw[o.alen];exact x.2);rwa[y] at this
structure PlI (s a R V:AH) (i n:Int):Prop where
 len:V.length=s.length
 n0:0<=n
 nl:i<s.length->0<rd R i->(n-1).toNat<=com s i (rd a (rd R i-1))
 val: ∀p:Int,0<=p->p<i->rd V p=rd (MN s a R) p
variable {i n:Int}
theorem PlI.put (k:PlI s a R V i n) (i0:0<=i) (hi:i<s.length) {m:Int} (hm:m=rd (MN s a R) i) (h0:0<=m) (hn:i+1<s.length->0<rd R (i+1)->(m-1).toNat<=com s (i+1) (rd a (rd R (i+1)-1))):PlI s a R (upd V i m) (i+1) m:=by
 have hl:=k.len;refine⟨by rw[aX];exact hl,h0,hn,λp p0 p1=> ?_⟩;rcases bz p i with c|c
 ·rw [fP i0 p0 G];exact k.val p p0 c
 ·rw [show p=i by omega,eX i0 G];exact hm
theorem PlI.zero (k:PlI s a R V i n) (i0:0<=i) (hi:i<s.length) (hr:rd R i=0):PlI s a R (upd V i 0) (i+1) 0:=
 k.put i0 hi (by rw[aSl i0 hi,di hr]) G λ_ _=>qg _
theorem PlI.done (k:PlI s a R V s.length n):V=MN s a R:=
 bL (by rw[k.len,aMb]) λj j0 j1=>k.val j j0 (by have:=k.len;omega)
end
variable {l b V:AH} {k c i:Int}
def mtf (l:AH) (k:Int):AH:=rd l k::(l.take k.toNat++l.drop (k.toNat+1))
def idx (l:AH) (c:Int):Int:=(l.findIdx (λx=>x==c):Nat)
def bK (l:AH):AH->AH
 |[]=>[]
 |c::b=>idx l c::bK (mtf l (idx l c)) b
def vL (l:AH):AH->AH
 |[]=>l
 |c::b=>vL (mtf l (idx l c)) b
def pG (l:AH):AH->AH
 |[]=>[]
 |k::b=>rd l k::pG (mtf l k) b
def IY (l:AH):AH->AH
 |[]=>l
 |k::b=>IY (mtf l k) b
theorem NC (c:Int): ∀(b l:AH),bK l (b++[c])=bK l b++[idx (vL l b) c]
 |[],l=>rfl
 |x::b,l=>by simp only[jf,bK,vL,NC c b]
theorem RJ (c:Int): ∀(b l:AH),vL l (b++[c])=mtf (vL l b) (idx (vL l b) c)
 |[],l=>rfl
 |x::b,l=>by simp only[jf,vL,RJ c b]
theorem RG (k:Int): ∀(b l:AH),IY l (b++[k])=mtf (IY l b) k
 |[],l=>rfl
 |x::b,l=>by simp only[jf,IY,RG k b]
theorem iJ: ∀(b l:AH),(bK l b).length=b.length
 |[],_=>rfl
 |x::b,l=>by simp only[bK,dn,iJ b]
theorem EZ: ∀(b l:AH),(pG l b).length=b.length
 |[],_=>rfl
 |x::b,l=>by simp only[pG,dn,EZ b]
theorem DF (h0:0<=k) (h:k<l.length):(mtf l k).Perm l:=by
 have e:=iA (s:=l) h0 h;rw[show(k+1).toNat=k.toNat+1 by omega] at e;unfold mtf
 conv=>rhs;rw[<-gy k.toNat l,e]
 exact List.perm_middle.symm
theorem xD (h:c∈l):0<=idx l c/\idx l c<l.length:=by
 unfold idx;have:=List.findIdx_lt_length_of_exists (xs:=l) (p:=λx=>x==c) ⟨c,h,cD⟩;omega
theorem aEb (h:c∈l):rd l (idx l c)=c:=by
 have hi:=xD h;have bp:l.findIdx (λx=>x==c)<l.length:=by unfold idx at hi;omega
 have:=Ej (xs:=l) (p:=λx=>x==c) (w:=bp);unfold idx;rw[iW bp];simpa using this
theorem RL: ∀(b l:AH),(∀c∈b,c∈l)->(vL l b).Perm l
 |[],l,_=> .refl _
 |c::b,l,h=>by
  have hc:=xD (h c cD);have hp:=DF hc.1 hc.2;exact(RL b _ λx hx=>hp.symm.subset (h x (fo _ hx))).trans hp
theorem RH: ∀(b l:AH),(∀k∈b,0<=k/\k<l.length)->(IY l b).Perm l
 |[],l,_=> .refl _
 |k::b,l,h=>by
  have hk:=h k cD;have hp:=DF hk.1 hk.2;exact(RH b _ λx hx=>by rw[hp.length_eq];exact h x (fo _ hx)).trans hp
theorem ZP: ∀(b l:AH),(∀c∈b,c∈l)-> ∀k∈bK l b,0<=k/\k<l.length
 |[],l,_=>λk hk=>by cases hk
 | c::b,l,h=>by
  have hc:=xD (h c cD);have hp:=DF hc.1 hc.2;intro k hk;rcases jc.1 hk with rfl|hk
  ·exact hc
  ·have:=ZP b _ (λx hx=>hp.symm.subset (h x (fo _ hx))) k hk;rwa[hp.length_eq] at this
theorem QM: ∀(b l:AH),(∀c∈b,c∈l)->pG l (bK l b)=b
 |[],_,_=>rfl
 |c::b,l,h=>by
  have hc:=xD (h c cD);have hp:=DF hc.1 hc.2;simp only[bK,pG];rw[aEb (h c cD),QM b _ λx hx=>hp.symm.subset (h x (fo _ hx))]
def aY:AH:=iota 256
theorem zQ:aY.length=256:=bD _
theorem zP {b:AH} (h:aN b): ∀c∈b,c∈aY:=λc hc=>by
 have:=h c hc;exact aZ.2 G
theorem oN (h:aN b):aN (bK aY b):=λk hk=>by
 have:=ZP b _ (zP h) k hk;rw[zQ] at this;omega
theorem uN (h:aN b):pG aY (bK aY b)=b:=QM b _ (zP h)
theorem SB: ∀(x y l:AH),bK l (x++y)=bK l x++bK (vL l x) y
 |[],_,_=>rfl
 |c::x,y,l=>by simp only[jf,bK,vL,SB x y]
theorem QN: ∀(x y l:AH),pG l (x++y)=pG l x++pG (IY l x) y
 |[],_,_=>rfl
 |c::x,y,l=>by simp only[jf,pG,IY,QN x y]
theorem aSm (h0:0<=i) (h:i<b.length):rd (bK l b) i=idx (vL l (b.take i.toNat)) (rd b i):=by
 have e:b=b.take i.toNat++(rd b i::b.drop (i+1).toNat):=by rw[<-iA h0 h,gy]
 have hl:((bK l (b.take i.toNat)).length:Int)=i:=by rw[iJ,ax];omega
 conv=>lhs;rw[e,SB]
 rw[iH G,hl,Ih];rfl
theorem aSk (h0:0<=i) (h:i<b.length):rd (pG l b) i=rd (IY l (b.take i.toNat)) (rd b i):=by
 have e:b=b.take i.toNat++(rd b i::b.drop (i+1).toNat):=by rw[<-iA h0 h,gy]
 have hl:((pG l (b.take i.toNat)).length:Int)=i:=by rw[EZ,ax];omega
 conv=>lhs;rw[e,QN]
 rw[iH G,hl,Ih];rfl
theorem RI (h0:0<=i) (h:i<b.length):vL l (b.take (i+1).toNat)=mtf (vL l (b.take i.toNat)) (idx (vL l (b.take i.toNat)) (rd b i)):=by
 rw[dJ h0 h,RJ]
theorem aLq (h0:0<=i) (h:i<b.length):IY l (b.take (i+1).toNat)=mtf (IY l (b.take i.toNat)) (rd b i):=by
 rw[dJ h0 h,RG]
theorem aEr (h0:0<=i) (h:i<b.length):bK l (b.take (i+1).toNat)=bK l (b.take i.toNat)++[idx (vL l (b.take i.toNat)) (rd b i)]:=by
 rw[dJ h0 h,NC]
theorem bGr (h0:0<=k) (h:k<l.length):upd (l.take 1++(l.take k.toNat).take (min k.toNat (l.length-1))++l.drop (1+min k.toNat (l.length-1))) 0 (rd l k)=mtf l k:=by
 have e:min k.toNat (l.length-1)=k.toNat:=G
 rw[e,List.take_take,Nat.min_self,um 1];unfold mtf upd;cases l with
 |nil=>simp at h;omega
 |cons x l=>simp
theorem YM (hb:aN b) (k:Nat):(vL aY (b.take k)).Perm aY:=RL _ _ λc hc=>zP hb c (lc hc)
theorem aRh (hb:aN b) (k:Nat):(IY aY (b.take k)).Perm aY:=RH _ _ λc hc=>by
 have:=hb c (lc hc);rw[zQ];omega
theorem FK (h:V.Perm aY):V.length=256/\aN V/\ ∀c:Int,0<=c->c<256->c∈V/\0<=idx V c/\idx V c<256:=by
 have hl:V.length=256:=by rw[h.length_eq,zQ]
 refine⟨hl,λx hx=>by have:=aZ.1 (h.subset hx);omega,λc c0 c1=> ?_⟩;have hm:c∈V:=h.symm.subset (aZ.2 ⟨c0,c1⟩);have:=xD hm;exact⟨hm,this.1,G⟩
theorem aAe (hm:c∈V) (h:k<=idx V c) (cv:rd V k≠c):k+1<=idx V c:=by
 rcases bz k (idx V c) with a|a
 ·omega
 ·exact absurd (by rw[show k=idx V c by omega];exact aEb hm) cv
theorem aUy (k0:0<=k) (h:k<=idx V c) (hm:c∈V) (he:rd V k=c):k=idx V c:=by
 have hx:=xD hm;rcases bz k (idx V c) with a|a
 ·exfalso;unfold idx at a;have:=De (xs:=V) (p:=λx=>x==c) (i:=k.toNat) G;rw[fE k0 G] at he;simp[he] at this
 ·omega
def HZ:Nat->Nat->AH
 |0,_=>[]
 |f+1,n=>if n=0 then [] else(((n-1)%2:Nat):Int)::HZ f ((n-1)/2)
def eD (n:Nat):AH:=HZ n n
theorem XU: ∀(f g n:Nat),n<=f->n<=g->HZ f n=HZ g n
 |0,0,n,_,_=>rfl
 |0,g+1,n,h,_=>by
  have:n=0:=G
  simp[HZ,this]
 |f+1,0,n,_,h=>by
  have:n=0:=G
  simp[HZ,this]
 |f+1,g+1,n,h1,h2=>by
  simp only[HZ];by_cases z:n=0
  ·rw[di z,di z]
  ·rw[df z,df z,XU f g _ G G]
theorem QP:eD 0=[]:=rfl
theorem BI {n:Nat} (h:0<n):eD n=(((n-1)%2:Nat):Int)::eD ((n-1)/2):=by
 obtain⟨m,rfl⟩: ∃m,n=m+1:=⟨n-1,G⟩;unfold eD;rw[HZ,df G];congr 1;exact XU _ _ _ G (dx _)
theorem UL: ∀(m n:Nat),n<=m-> ∀x∈eD n,0<=x/\x<=1
 |0,n,h=>by
  have:n=0:=G
  subst this;intro x hx;cases hx
 | m+1,n,h=>by
  rcases ek n with z|z
  ·subst z;intro x hx;cases hx
  ·rw [BI z];intro x hx;rcases jc.1 hx with rfl|hx
   ·omega
   ·exact UL m _ G x hx
theorem BJ: ∀(m n:Nat),n<=m->(eD n).length<=n
 |0,n,h=>by
  have:n=0:=G
  subst this;exact dx _
 | m+1,n,h=>by
  rcases ek n with z|z
  ·subst z;exact dx _
  ·rw [BI z,dn];have:=BJ m ((n-1)/2) G;omega
def bS:Nat->AH->AH
 |n,[]=>eD n
 |n,c::b=>if c=0 then bS (n+1) b else eD n++((c+1)::bS 0 b)
theorem pI: ∀(b:AH) (n:Nat),(bS n b).length<=n+b.length
 |[],n=>by
  have:=BJ n n (dx _);simp only[bS,jb];omega
 | c::b,n=>by
  simp only[bS];split
  ·have:=pI b (n+1);simp only[dn];omega
  ·have:=pI b 0;have:=BJ n n (dx _);rw[ah,dn,dn];omega
theorem JK: ∀(b:AH) (n:Nat),aN b-> ∀x∈bS n b,0<=x/\x<=256
 |[],n,_=>λx hx=>by have:=UL n n (dx _) x hx;omega
 | c::b,n,h=>by
  have hc:=h c cD;have hb:aN b:=λx hx=>h x (fo _ hx);intro x hx;simp only[bS] at hx;split at hx
  ·exact JK b _ hb x hx
  ·rcases dz.1 hx with hx|hx
   ·have:=UL n n (dx _) x hx;omega
   ·rcases jc.1 hx with rfl|hx
    ·omega
    ·exact JK b _ hb x hx
def bkL (eh:Int):AH->AH->Int->Option (AH)
 |[],out,_=>some out
 |x::l,out,p=>if x<0\/257<=x then none else
  if 2<=x then(if eh<out.length+1 then none else bkL eh l (out++[x-1]) 1)
  else if eh<p\/eh-out.length<(x+1)*p then none else bkL eh l (out++List.replicate ((x+1)*p).toNat 0) (p*2)
theorem WO (eh:Int) (t:AH): ∀(m n:Nat),n<=m-> ∀(out:AH) (p:Nat),0<p->(out.length:Int)+n*p<=eh->
  ∃p':Nat,0<p'/\bkL eh (eD n++t) out p=bkL eh t (out++List.replicate (n*p) 0) p'
 |0,n,h=>by
  intro out p hp _;have:n=0:=G
  subst this;exact⟨p,hp,by simp[QP]⟩
 | m+1,n,h=>by
  intro out p hp hm;rcases ek n with z|z
  ·subst z;exact⟨p,hp,by simp[QP]⟩
  ·rw [BI z,jf];have hd:n=((n-1)%2+1)+2*((n-1)/2):=G
   generalize ha:(n-1)%2=a at hd;generalize hb:(n-1)/2=b at hd;have ha1:a<=1:=G
   have hnp:n*p=(a+1)*p+b*(p*2):=by rw[hd,xz,zy 2 b,Nat.mul_assoc,zy 2 p]
   have hnp2:(n:Int)*p=((n*p:Nat):Int):=cD
   have h1:(((a:Nat):Int)+1)*p=(((a+1)*p:Nat):Int):=cD
   have vf:p<=(a+1)*p:=Di _ G
   obtain⟨p',da,e⟩:=WO eh t m b G (out++List.replicate ((a+1)*p) 0) (p*2) G (by
    rw[ah,dh];have:(b:Int)*((p*2:Nat):Int)=((b*(p*2):Nat):Int):=cD
    rw[this]
    omega)
   refine⟨p',da,?_⟩;rw[bkL,df G,df G,df (by rw[h1];omega),h1,cz];have e2:((p:Nat):Int)*2=((p*2:Nat):Int):=cD
   rw[e2,e,gq,Dp,<-hnp]
theorem WP (eh:Int): ∀(b:AH) (n:Nat) (out:AH),aN b->(out.length:Int)+n+b.length<=eh->bkL eh (bS n b) out 1=some (out++List.replicate n 0++b)
 |[],n,out,_,h=>by
  obtain⟨p',da,e⟩:=WO eh [] n n (dx _) out 1 G (by simp only[jb] at h;omega);rw[jh,qf] at e;simp only[bS];have e1:((1:Nat):Int)=1:=rfl;rw[e1] at e;rw[e];simp[bkL]
 | c::b,n,out,hb,h=>by
  have hc:=hb c cD;have u4:aN b:=λx hx=>hb x (fo _ hx);simp only[dn] at h;simp only[bS];split
  ·rename_i z;rw[WP eh b (n+1) out u4 G,z,Bg];simp
  ·rename_i z;obtain⟨p',da,e⟩:=WO eh ((c+1)::bS 0 b) n n (dx _) out 1 G G;have e1:((1:Nat):Int)=1:=rfl;rw[qf,e1] at e;rw[e,bkL,df G,di G,df (by rw[ah,dh];omega),WP eh b 0 _ u4 (by rw[ah,ah,dh,ib];omega)];rw[show c+1-1=c by omega];simp
theorem bHu {eh:Int} (hb:aN b) (h:b.length<=eh):bkL eh (bS 0 b) [] 1=some b:=by
 have:=WP eh b 0 [] hb (by simpa using h);simpa using this
variable {l V b C U:AH} {i v x x0 s t:Int}
def beL:Nat->Int->AH
 |0,_=>[]
 |k+1,N=>beL k (N/256)++[N%256]
theorem kE: ∀(k:Nat) (N:Int),(beL k N).length=k
 |0,_=>rfl
 |k+1,N=>by rw[beL,ah,kE k,ib]
theorem yX: ∀(k:Nat) (N:Int),aN (beL k N)
 |0,_=>λx h=>by cases h
 |k+1,N=>λx h=>by
  rw[beL] at h;rcases dz.1 h with h|h
  ·exact yX k _ x h
  ·rw[ic.1 h];omega
theorem aXq (k:Nat) (M d:Int) (h:0<=d/\d<256):beL (k+1) (M*256+d)=beL k M++[d]:=by
 rw[beL,show(M*256+d)/256=M by omega,show(M*256+d)%256=d by omega]
theorem aPf (k:Nat) (N:Int):beL (k+1) (N*256)=beL k N++[0]:=by
 have:=aXq k N 0 G;rwa[yj] at this
def aYa:AH->Int->AH
 |[],_=>[]
 |d::l,x=>(x+d)%256::aYa l ((x+d)/256)
def EO (l:AH) (x:Int):AH:=(aYa l.reverse x).reverse
theorem TY (l:AH) (d x:Int):EO (l++[d]) x=EO l ((x+d)/256)++[(x+d)%256]:=by
 unfold EO;rw[List.reverse_append,List.reverse_singleton,oh,aYa,List.reverse_cons]
theorem UA: ∀l:AH,aN l->aYa l 0=l
 |[],_=>rfl
 |d::l,h=>by
  have hd:=h d cD;rw[aYa,Int.zero_add,ky hd.1 hd.2,Int.ediv_eq_zero_of_lt hd.1 hd.2,UA l λx hx=>h x (fo _ hx)]
theorem aPl (h:aN l):EO l 0=l:=by
 unfold EO;rw[UA _ λx hx=>h x (ze.1 hx),Eo]
theorem KD: ∀(k:Nat) (N x:Int),EO (beL k N) x=beL k (N+x)
 |0,_,_=>rfl
 |k+1,N,x=>by
  rw[beL,TY,KD k,beL,show N/256+(x+N%256)/256=(N+x)/256 by omega,show(x+N%256)%256=(N+x)%256 by omega]
theorem aKo (i0:0<=i) (hi:i<V.length):upd V i v=V.take i.toNat++v::V.drop (i+1).toNat:=by
 unfold upd;rw[Cx,di G,show(i+1).toNat=i.toNat+1 by omega]
def aCo (b:AH) (x0:Int) (V:AH) (i x:Int):Prop:=V.length=b.length/\aN V/\EO (V.take (i+1).toNat) x++V.drop (i+1).toNat=EO b x0
theorem TZ (hb:aN b) (hi:i=b.length-1):aCo b x b i x:=by
 refine⟨rfl,hb,?_⟩;rw[bi G,xk G,jh]
theorem aCo.step {d y:Int} (h:aCo b x0 V i x) (i0:0<=i) (hi:i<b.length) (hd:d=(x+rd V i)%256) (hy:y=(x+rd V i)/256):aCo b x0 (upd V i d) (i-1) y:=by
 obtain⟨hl,hV,ha⟩:=h;have hs:=aKo (V:=V) (v:=d) i0 G
 have h1:(upd V i d).take i.toNat=V.take i.toNat:=by
  unfold upd;rw[List.take_set_of_le (dx _)]
 have h2:(upd V i d).drop i.toNat=d::V.drop (i+1).toNat:=by
  rw[hs,List.drop_append_of_le_length (by rw[ax];omega),xk (by rw[ax];omega),jd]
 refine⟨by rw[aX];exact hl,λc hc=> ?_,?_⟩
 ·rw [hs] at hc;rcases dz.1 hc with hc|hc
  ·exact hV c (lc hc)
  ·rcases jc.1 hc with rfl|hc
   ·omega
   ·exact hV c (ny hc)
 ·rw [Int.sub_add_cancel,h1,h2,<-ha,dJ i0 G,TY,hd,hy,gq];rfl
theorem aCo.stop (h:aCo b x0 V i x) (hx:x=0\/i<0):V=EO b x0:=by
 obtain⟨hl,hV,ha⟩:=h;rw[<-ha];rcases hx with rfl|hx
 ·rw[aPl (λc hc=>hV c (lc hc)),gy]
 ·rw [show(i+1).toNat=0 by omega];rfl
theorem bCv: ∀(k:Nat) (N:Int),beL (k+4) N=beL k (N/4294967296)++[N%4294967296/16777216,N%16777216/65536,N%65536/256,N%256]:=λk N=>by
 rw[beL,beL,beL,beL,gq,gq,gq];rw[show N/256/256/256/256=N/4294967296 by omega,show N/256/256/256%256=N%4294967296/16777216 by omega,show N/256/256%256=N%16777216/65536 by omega,show N/256%256=N%65536/256 by omega];rfl
theorem VD {k:Int} (h0:0<=i) (h:i<k):rd (l.take k.toNat) i=rd l i:=by
 unfold rd;rw[ai,ai,rf G]
def aV (l:AH):Int:=l.sum
theorem tF (x:Int) (l:AH):aV (x::l)=x+aV l:=uh
theorem IB (x y:AH):aV (x++y)=aV x+aV y:=Ci
theorem aKw (l:AH) (x:Int):aV (l++[x])=aV l+x:=by rw[IB];simp[aV]
theorem nX (h0:0<=i) (h:i<l.length):aV (l.take (i+1).toNat)=aV (l.take i.toNat)+rd l i:=by rw[dJ h0 h,aKw]
theorem aYq {l:AH} (h: ∀c∈l,1<=c):(l.length:Int)<=aV l:=by
 induction l with
 |nil=>simp[aV]
 |cons x l ih=>
  have:=ih λc hc=>h c (fo _ hc);have:=h x cD;rw[tF,dn];omega
theorem rX {l:AH} (h: ∀c∈l,1<=c):0<=aV l:=by have:=aYq h;omega
theorem zM (h0:0<=i) (h:i<l.length):aV l=aV (l.take i.toNat)+rd l i+aV (l.drop (i+1).toNat):=by
 conv=>lhs;rw[<-gy i.toNat l,iA h0 h]
 rw[IB,tF];omega
theorem aQo {l:AH} (h: ∀c∈l,1<=c) (k:Nat): ∀c∈l.take k,1<=c:=λc hc=>h c (lc hc)
theorem aWs {l:AH} (h: ∀c∈l,1<=c) (k:Nat): ∀c∈l.drop k,1<=c:=λc hc=>h c (ny hc)
theorem tC {l:AH} (hp: ∀c∈l,1<=c) (h0:0<=i) (h:i<l.length):0<=aV (l.take i.toNat)/\1<=rd l i/\aV (l.take i.toNat)+rd l i<=aV l:=by
 have h1:=zM h0 h;have h2:=rX (aWs hp (i+1).toNat);have h3:=rX (aQo hp i.toNat);have h4:=hp _ (bI h0 h);omega
theorem XY (h0:0<=i) (h:i<l.length):aV (upd l i v)=aV l-rd l i+v:=by
 have e1:=zM (l:=upd l i v) h0 (by rw[aX];exact h);have e2:=zM h0 h;rw[eX h0 h] at e1
 have e3:(upd l i v).take i.toNat=l.take i.toNat:=by
  unfold upd;rw[List.take_set_of_le (dx _)]
 have e4:(upd l i v).drop (i+1).toNat=l.drop (i+1).toNat:=by
  unfold upd;rw[List.drop_set_of_lt G]
 rw[e3,e4] at e1;omega
theorem QY {l:AH} (h: ∀c∈l,1<=c):2*aV (l.map λn=>(n+1)/2)<=aV l+l.length:=by
 induction l with
 |nil=>simp[aV]
 |cons x l ih=>
  have:=ih λc hc=>h c (fo _ hc);rw[ko,tF,tF,dn];omega
def lN (C:AH):Prop:=C.length=258/\(∀c∈C,1<=c)/\aV C<=65504
def uY:AH:=List.replicate 258 1
theorem LD (n:Nat) (x:Int):aV (List.replicate n x)=n*x:=by
 induction n with
 |zero=>simp[aV]
 |succ n ih=>rw[List.replicate_succ,tF,ih];rw[Int.natCast_succ,Jj];omega
theorem VM:lN uY:=⟨dh,λc hc=>by rw[Bz hc];omega,by unfold uY;rw[LD];omega⟩
def qB (C:AH):AH:=C.map λn=>(n+1)/2
def kG (C:AH) (s:Int):AH:=if 65504<aV (upd C s (rd C s+32)) then qB (upd C s (rd C s+32)) else upd C s (rd C s+32)
theorem aHk {C:AH} {s v:Int} (h: ∀c∈C,1<=c) (hv:1<=v): ∀c∈upd C s v,1<=c:=λc hc=>by
 unfold upd at hc;rcases List.mem_or_eq_of_mem_set hc with h1|h1
 ·exact h c h1
 ·omega
theorem aZa (h:lN C) (h0:0<=s) (hs:s<258):lN (kG C s):=by
 obtain⟨hl,hp,ht⟩:=h;have h1:=hp _ (bI (L:=C) (k:=s) h0 G);have hu:=XY (l:=C) (i:=s) (v:=rd C s+32) h0 G;have hq:=aHk (C:=C) (s:=s) (v:=rd C s+32) hp G;unfold kG;split
 ·refine ⟨by unfold qB;rw[bq,aX];exact hl,λc hc=> ?_,?_⟩
  ·obtain ⟨x,hx,rfl⟩:=ii.1 hc;have:=hq x hx;omega
  ·have:=QY hq;rw[aX,hl] at this;unfold qB;omega
 ·exact⟨by rw[aX];exact hl,hq,G⟩
theorem aSn (h0:0<=i) (h:i<C.length):rd (qB C) i=(rd C i+1)/2:=by
 unfold qB;rw[fE h0 (by rw[bq];exact h),fE h0 h,yg]
theorem FN {n:Nat} (h0:0<=i) (h:i<n):rd (List.replicate n x) i=x:=by
 rw[fE h0 (by rw[dh];exact h),List.getElem_replicate]
theorem bGs (hl:V.length=258) (h: ∀j:Int,0<=j->j<258->rd V j=1):V=uY:=
 bL (by rw[hl];exact dh.symm) λj j0 j1=>by
  unfold uY;rw[h j j0 G,FN j0 G]
def PI (C:AH):Prop:=C.length=258/\(∀c∈C,1<=c)/\aV C<=65536
theorem lN.le (h:lN C):PI C:=⟨h.1,h.2.1,by have:=h.2.2;omega⟩
theorem PI.part (h:PI C) (h0:0<=i) (hi:i<258):(0<=aV (C.take i.toNat)/\aV (C.take i.toNat)<=65536)/\(1<=rd C i/\rd C i<=65536)/\aV (C.take i.toNat)+rd C i<=65536:=by
 have:=tC (i:=i) h.2.1 h0 (by rw[h.1];omega);have:=h.2.2;omega
theorem lN.up (h:lN C) (h0:0<=s) (hs:s<258):PI (upd C s (rd C s+32))/\aV (upd C s (rd C s+32))=aV C+32:=by
 have hp:=h.le.part h0 hs;have hu:=XY (l:=C) (i:=s) (v:=rd C s+32) h0 (by rw[h.1];omega);have:=h.2.2;exact⟨⟨by rw[aX];exact h.1,aHk h.2.1 G,G⟩,G⟩
theorem PI.half (h:PI C):lN (qB C):=by
 have:=QY h.2.1;rw[h.1] at this;have hl:=h.2.2;refine⟨by unfold qB;rw[bq];exact h.1,λc hc=> ?_,by unfold qB;omega⟩;obtain⟨x,hx,rfl⟩:=ii.1 hc;have:=h.2.1 x hx;omega
structure IV (U V:AH) (i:Int) (t:Int):Prop where
 len:V.length=258
 done: ∀j:Int,0<=j->j<i->rd V j=rd (qB U) j
 left: ∀j:Int,i<=j->j<258->rd V j=rd U j
 sum:t=aV ((qB U).take i.toNat)
theorem NM (h:U.length=258):IV U U 0 0:=⟨h,λj h1 h2=>G,λj _ _=>rfl,rfl⟩
theorem IV.step (h:IV U V i t) (hU:U.length=258) (h0:0<=i) (hi:i<258):IV U (upd V i ((rd V i+1)/2)) (i+1) (t+rd (upd V i ((rd V i+1)/2)) i):=by
 have hl:=h.len;have e:(rd V i+1)/2=rd (qB U) i:=by rw[h.left i G hi,aSn h0 G]
 refine⟨by rw[aX];exact hl,λj j0 j1=> ?_,λj j0 j1=> ?_,?_⟩
 ·rw [gH h0 j0 G];by_cases c:j=i
  ·rw[di c,e,c]
  ·rw[df c];exact h.done j j0 G
 ·rw[gH h0 G G,df G];exact h.left j G j1
 ·rw[nX h0 (by unfold qB;rw[bq];omega),<-h.sum,eX h0 G,e]
theorem IV.done_all (h:IV U V 258 t) (hU:U.length=258):V=qB U/\t=aV (qB U):=by
 have hh:(qB U).length=258:=by unfold qB;rw[bq];exact hU
 refine⟨bL (by rw[h.len,hh]) λj j0 j1=>h.done j j0 (by have:=h.len;omega),?_⟩;rw[h.sum,bi (by rw[hh];decide)]
def shN (R:Int):Nat:=if 16777216<=R then 0 else if 65536<=R then 1 else if 256<=R then 2 else 3
theorem FI (R:Int):shN R<=3:=by unfold shN;split<;>(try split)<;>(try split)<;>omega
theorem BQ {R:Int} {j:Nat} (h1:1<=R) (hj:j<=shN R) (h:R*256^j<16777216):j+1<=shN R:=by
 have:=FI R;rcases(by omega:j=0\/j=1\/j=2\/j=3) with rfl|rfl|rfl|rfl<;>unfold shN at* <;>(split<;>(try split)<;>(try split)<;>omega)
variable {R low size total o x:Int} {j:Nat} {b:AH}
theorem JP (h1:1<=R) (hj:j<=shN R) (h:16777216<=R*256^j):j=shN R:=by
 have:=FI R;rcases(by omega:j=0\/j=1\/j=2\/j=3) with rfl|rfl|rfl|rfl<;>unfold shN at* <;>(split at hj<;>(try split at hj)<;>(try split at hj)<;>split<;>(try split)<;>(try split)<;>omega)
theorem CK (h:1<=R):1<=R*256^j:=by
 have h1:(0:Int)<256^j:=Ei G;have:=Int.mul_pos (show 0<R by omega) h1;omega
theorem aLh (h:256<=R):shN R<=2:=by unfold shN;split<;>(try split)<;>(try split)<;>omega
theorem aLg (h:256<=R) (hl:R<4294967296):16777216<=R*256^shN R/\R*256^shN R<4294967296:=by
 unfold shN;split
 ·omega
 ·split
  ·omega
  ·omega
structure CdS where
 N:Int
 R:Int
 k:Nat
def cd0:CdS:=⟨0,4294967295,0⟩
def fB (s:CdS) (low size total:Int):CdS:=⟨(s.N+s.R/total*low)*256^shN (s.R/total*size),s.R/total*size*256^shN (s.R/total*size),s.k+shN (s.R/total*size)⟩
def XE (s:CdS):Prop:=16777216<=s.R/\s.R<4294967296/\0<=s.N/\s.N+s.R<=256^(s.k+4)
theorem bHq:XE cd0:=by unfold XE cd0;dsimp only;omega
def sV (low size total:Int):Prop:=0<=low/\1<=size/\low+size<=total/\total<=65536
theorem nY (h:sV low size total) (hR:16777216<=R/\R<4294967296):
  256<=R/total/\R/total<=R/\0<=R/total*low/\R/total<=R/total*size/\R/total*low+R/total*size<=R:=by
 obtain⟨h0,h1,h2,h3⟩:=h;have hq:256<=R/total:=(Al G).2 G;have hm:R/total*total<=R:=Int.ediv_mul_le R G;have a1:0<=R/total*low:=Af G h0;have a2:R/total*1<=R/total*size:=Eh h1 G;have a3:R/total*(low+size)<=R/total*total:=Eh h2 G;rw[Jk] at a3;refine⟨hq,?_,a1,G,G⟩;exact Dt _ G
theorem aZx {s:CdS} (h:XE s) (hs:sV low size total):XE (fB s low size total)/\(fB s low size total).k<=s.k+2:=by
 obtain⟨r0,r1,n0,nr⟩:=h;obtain⟨f1,f2,f3,f4,f5⟩:=nY hs ⟨r0,r1⟩;have hw:=aLg (R:=s.R/total*size) G G;have hj:=aLh (R:=s.R/total*size) G;unfold fB;generalize hq:s.R/total*size=R1 at*;generalize hl:s.R/total*low=x at*;generalize shN R1=j at*;refine⟨⟨hw.1,hw.2,Af G (vz G),?_⟩,by dsimp only;omega⟩;show(s.N+x)*256^j+R1*256^j<=256^(s.k+j+4);rw[<-Jj,show s.k+j+4=s.k+4+j by omega,zt];exact oq G (vz G)
theorem aCc (m:Nat) (M:Int):beL (m+1) (M*256/4294967296)=beL m (M/4294967296)++[M%4294967296/16777216%256]:=by
 rw[beL,show M*256/4294967296/256=M/4294967296 by omega,show M*256/4294967296%256=M%4294967296/16777216%256 by omega]
theorem bCw (m:Nat) (M x:Int) (hx:x=M%4294967296):beL m (M/4294967296)++[x/16777216%256]++[x/65536%256]++[x/256%256]++[x/1%256]=beL (m+4) M:=by
 rw[bCv,show x/16777216%256=M%4294967296/16777216 by omega,show x/65536%256=M%16777216/65536 by omega,show x/256%256=M%65536/256 by omega,show x/1%256=M%256 by omega];simp
structure PpS where
 c0:AH
 c1:AH
 c2:AH
 cls:Int
 cd:CdS
def pp0:PpS:=⟨uY,uY,uY,0,cd0⟩
def iP (s:Int):Int:=if s<2 then 0 else if s<6 then 1 else 2
theorem aXe (s:Int):0<=iP s/\iP s<=2:=by unfold iP;split<;>(try split)<;>omega
def wB (o:Int) (s:PpS):AH:=if s.cls*o=0 then s.c0 else if s.cls*o=1 then s.c1 else s.c2
def aLi (o:Int) (s:PpS) (C:AH) (cls:Int) (cd:CdS):PpS:=if s.cls*o=0 then⟨C,s.c1,s.c2,cls,cd⟩ else if s.cls*o=1 then⟨s.c0,C,s.c2,cls,cd⟩ else⟨s.c0,s.c1,C,cls,cd⟩
def qV (c:CdS) (C:AH) (x:Int):CdS:=fB c (aV (C.take x.toNat)) (rd C x) (aV C)
def lJ (o:Int) (s:PpS) (x:Int):PpS:=aLi o s (kG (wB o s) x) (iP x) (qV s.cd (wB o s) x)
def encP (o:Int) (l:AH):PpS:=l.foldl (lJ o) pp0
theorem aOa (o:Int) (l:AH) (x:Int):encP o (l++[x])=lJ o (encP o l) x:=by unfold encP;rw[Gr];rfl
def bJ (b:AH):AH:=bS 0 (bK aY b)++[257]
def bR (b:AH) (o:Int):AH:=beL ((encP o (bJ b)).cd.k+4) (encP o (bJ b)).cd.N
def QG (s:PpS):Prop:=(lN s.c0/\lN s.c1/\lN s.c2)/\(0<=s.cls/\s.cls<=2)/\XE s.cd
theorem bGd:QG pp0:=⟨⟨VM,VM,VM⟩,by unfold pp0;dsimp only;omega,bHq⟩
theorem JQ {s:PpS} (h:QG s):lN (wB o s):=by
 unfold wB;split
 ·exact h.1.1
 ·split
  ·exact h.1.2.1
  ·exact h.1.2.2
theorem kH {C:AH} (h:lN C) (h0:0<=x) (hx:x<258):sV (aV (C.take x.toNat)) (rd C x) (aV C):=by
 obtain⟨hl,hp,ht⟩:=h;have:=tC (i:=x) hp h0 G;exact⟨G,G,G,G⟩
theorem LF {s:PpS} (h:QG s) (h0:0<=x) (hx:x<258):QG (lJ o s x)/\(lJ o s x).cd.k<=s.cd.k+2:=by
 have hm:=aZa (JQ (o:=o) h) h0 hx;have hc:=aZx h.2.2 (kH (JQ (o:=o) h) h0 hx);have hb:=aXe x;unfold lJ aLi;split
 ·exact⟨⟨⟨hm,h.1.2.1,h.1.2.2⟩,hb,hc.1⟩,hc.2⟩
 ·split
  ·exact⟨⟨⟨h.1.1,hm,h.1.2.2⟩,hb,hc.1⟩,hc.2⟩
  ·exact⟨⟨⟨h.1.1,h.1.2.1,hm⟩,hb,hc.1⟩,hc.2⟩
def aHb (l:AH):Prop:= ∀x∈l,0<=x/\x<258
theorem qU (h:aN b):aHb (bJ b):=λx hx=>by
 unfold bJ at hx;rcases dz.1 hx with hx|hx
 ·have:=JK (bK aY b) 0 (oN h) x hx;omega
 ·rw[ic.1 hx];omega
theorem FH (b:AH):(bJ b).length<=b.length+1:=by
 unfold bJ;have:=pI (bK aY b) 0;rw[iJ] at this;rw[ah,ib];omega
theorem aIw {o:Int}: ∀(l:AH) (s:PpS),aHb l->QG s->QG (l.foldl (lJ o) s)/\(l.foldl (lJ o) s).cd.k<=s.cd.k+2*l.length
 |[],s,_,h=>⟨h,dx _⟩
 |x::l,s,hl,h=>by
  have hx:=hl x cD;have h1:=LF (o:=o) h hx.1 hx.2;have h2:=aIw (o:=o) l (lJ o s x) (λy hy=>hl y (fo _ hy)) h1.1;rw[List.foldl_cons,dn];exact⟨h2.1,G⟩
theorem DZ {l:AH} (h:aHb l):QG (encP o l)/\(encP o l).cd.k<=2*l.length:=by
 have:=aIw (o:=o) l pp0 h bGd;unfold encP;have e:pp0.cd.k=0:=rfl;rw[e] at this;exact⟨this.1,G⟩
theorem lG (h:aN b):(bR b o).length<=2*b.length+6:=by
 unfold bR;rw[kE];have:=(DZ (o:=o) (qU h)).2;have:=FH b;omega
theorem fZ (b:AH) (o:Int):aN (bR b o):=yX _ _
variable {v:Int}
def MI:Nat->Int->AH
 |0,v=>[v]
 |f+1,v=>if v<128 then [v] else(v%128+128)::MI f (v/128)
def aW (v:Int):AH:=MI v.toNat v
theorem JS: ∀(f g:Nat) (v:Int),v.toNat<=f->v.toNat<=g->MI f v=MI g v
 |0,0,v,_,_=>rfl
 |0,g+1,v,h,_=>by rw[MI,MI,di G]
 |f+1,0,v,_,h=>by rw[MI,MI,di G]
 |f+1,g+1,v,h1,h2=>by
  simp only[MI];by_cases z:v<128
  ·rw[di z,di z]
  ·rw[df z,df z,JS f g _ G G]
theorem jZ (h:v<128):aW v=[v]:=by
 rw[aW,JS v.toNat (v.toNat+1) v G G,MI,di h]
theorem tK (h:128<=v):aW v=(v%128+128)::aW (v/128):=by
 rw[aW,JS v.toNat (v.toNat+1) v G G,MI,df G,aW,JS v.toNat (v/128).toNat _ G G]
theorem RV {v0:Int} {acc:AH} (h:aW v0=acc++aW v) (hv:128<=v) {d q:Int} (hd:d=v%128+128) (hq:q=v/128):aW v0=(acc++[d])++aW q:=by
 rw[h,tK hv,<-hd,<-hq,gq];rfl
theorem bW: ∀(k:Nat) (v:Int),v<128^(k+1)->(aW v).length<=k+1
 |0,v,h=>by rw[jZ G];exact dx _
 | k+1,v,h=>by
  by_cases z:v<128
  ·rw[jZ z];simp
  ·rw [tK G,dn]
   have:v/128<128^(k+1):=by
    rw[wh] at h;exact zk G h
   have:=bW k (v/128) this;omega
theorem MH: ∀(k:Nat) (v:Int),v.toNat<=k->0<=v->aN (aW v)
 |0,v,h,h0=>by
  rw[jZ G];intro x hx;rw[ic.1 hx];omega
 | k+1,v,h,h0=>by
  by_cases z:v<128
  ·rw [jZ z];intro x hx;rw[ic.1 hx];omega
  ·rw [tK G];intro x hx;rcases jc.1 hx with rfl|hx
   ·omega
   ·exact MH k (v/128) G G x hx
theorem dB (h:0<=v):aN (aW v):=MH _ v (dx _) h
def eG (v:Int):AH:=[v/1%256,v/256%256,v/65536%256,v/16777216%256]
theorem iI (v:Int):aN (eG v):=λx hx=>by
 simp only[eG,jc,vk,Gm] at hx;omega
end Go.Pure
namespace Go.Eng
open Go Go.RowKit Go.Pure
section
variable {P:Program} {n:Nd} {B:Nat} {w0:World} {L:Env} {R:List Row} {ty:TypeId}
theorem WZ {f:FuncId} {w6:List Operand} {ts:Array TypeId} {vs:AG} {Post:Value->List Row->Prop} (ha:evs L w6=some vs)
  (hx: ∀w,Hp B w0 w R-> ∃v w' R',(callFunc f vs.toArray).run P w= .ok (.value v) w'/\Hp B w0 w' R'/\Post v R'):
  Ac P n B w0 (.call {callee:= .value (.func f),args:=w6.toArray,argTypes:=ts}) ty L R Post:=by
 intro a w o K Q ho _ hs hp hk;have e1:=hs.evs ha;obtain⟨v,w',R',hr,da,hv⟩:=hx w hp;have hf:a.eval (.func f)= .func (.func f) #[] #[]:=hs.ev rfl;unfold Oper.wp;simp only[execOp,ho,resolve,hf,Deferred.ofValue,invoke,jq,ng,jm,uf,e1,ui,jd,jh,hr,Oper.upon];exact hk v w' R' da hv
theorem aBx (u:AH):(Lib.bytesOf u).length=u.length:=by simp[Lib.bytesOf]
theorem TI: ∀ {u t:AH},aN u->aN t->Lib.compareBytes (Lib.bytesOf u) (Lib.bytesOf t)=cmpL u t
 |[],[],_,_=>rfl
 |[],_::_,_,_=>rfl
 |_::_,[],_,_=>rfl
 | x::u,y::t,hu,ht=>by
  have ih:=TI (u:=u) (t:=t) (λz hz=>hu z (fo _ hz)) λz hz=>ht z (fo _ hz);have hx:=hu x cD;have hy:=ht y cD
  have e: ∀z:Int,0<=z/\z<256->((z.toNat.toUInt8).toNat:Int)=z:=λz hz=>by
   rw[Nat.toUInt8,Cc (by simp[UInt8.size];omega)];omega
  have bp: ∀ {a b:Int},0<=a/\a<256->0<=b/\b<256->(a.toNat.toUInt8<b.toNat.toUInt8↔a<b):=λ{a b} ha hb=>by
   rw[UInt8.lt_iff_toNat_lt];have h1:=e a ha;have h2:=e b hb;omega
  show(if x.toNat.toUInt8<y.toNat.toUInt8 then -1 else if y.toNat.toUInt8<x.toNat.toUInt8 then 1 else Lib.compareBytes (Lib.bytesOf u) (Lib.bytesOf t))=cmpL (x::u) (y::t);rw[cmpL,ih];by_cases c:x<y
  ·rw[di c,di ((bp hx hy).2 c)]
  ·rw [df c,df (λh=>c ((bp hx hy).1 h))];by_cases d:y<x
   ·rw[di d,di ((bp hy hx).2 d)]
   ·rw[df d,df (λh=>d ((bp hy hx).1 h))]
theorem wE {w:World} {A:AF} {m c:Nat} {u:AH} (h:Rd w A m c 1 (ints .u8 u)):(Extern.Bytes.bytesOf (.slice A m c)).run P w= .ok ⟨(Lib.bytesOf u).toArray⟩ w:=by
 have hl:=h.lenI;rcases A with _|a
 ·have h0:u=[]:=by
   cases u with
   |nil=>rfl
   |cons y l'=>obtain⟨_,g,_⟩:=h.at_ 0 (.int .u8 y) (by simp[ints]);cases g
  subst h0;rfl
 ·have:=Lib.run_loadBytesX (P:=P) w u a .empty λj x hj=>by
   obtain⟨b,e,hc⟩:=h.at_ j (.int .u8 x) (by simp[ints,hj]);obtain rfl:=je e;exact hc
  rw[<-hl] at this;show(Extern.Bytes.loadBytes a m .empty).run P w=_;rw[this];simp
theorem aZe {w:World} {A A2:AF} {m c m2 c2:Nat} {u t:AH} (h:Rd w A m c 1 (ints .u8 u)) (h2:Rd w A2 m2 c2 1 (ints .u8 t)) (hu:aN u) (ht:aN t):
  (Extern.BytealgCompare.compare #[.slice A m c, .slice A2 m2 c2]).run P w= .ok (.int .i64 (cmpL u t)) w:=by
 change Sem.run P (do pure (goInt (Extern.BytealgCompare.cmp (<-Extern.Bytes.bytesOf (.slice A m c)) (<-Extern.Bytes.bytesOf (.slice A2 m2 c2))))) w=_;simp only[jq,wE h,wE h2,jm,ng];rw[Lib.cmp_eq,TI hu ht];rfl
theorem bNh {f:FuncId} {fn:Func} {x y:Operand} {ts:Array TypeId} {A A2:AF} {m c m2 c2:Nat} {u t:AH} (hf:P.funcs[f]? =some fn) (f8:(fn.name== "runtime.NumGoroutine")=false) (hb:fn.body.isNone=true) (hn:Extern.findNext fn=none) (he:Extern.find fn=some Extern.BytealgCompare.compare)
  (hx:ev L x=some (.slice A m c)) (hy:ev L y=some (.slice A2 m2 c2)) (h:RdC B w0 R A m c 1 (ints .u8 u)) (h2:RdC B w0 R A2 m2 c2 1 (ints .u8 t)) (hu:aN u) (ht:aN t):
  Ac P n B w0 (.call {callee:= .value (.func f),args:=[x,y].toArray,argTypes:=ts}) ty L R (λv R'=>v= .int .i64 (cmpL u t)/\R'=R):=
 WZ (vs:=[.slice A m c, .slice A2 m2 c2]) (by simp[evs,hx,hy]) λw hw=>⟨_,w,R,by
  rw[Fg hf f8 hb hn he];rw[show [Value.slice A m c,Value.slice A2 m2 c2].toArray= #[.slice A m c, .slice A2 m2 c2] from rfl,aZe (h w hw) (h2 w hw) hu ht]
  rfl,hw,rfl,rfl⟩
theorem bDn {x:Operand} {t e:TypeId} {A:AF} {m c:Nat} (ht:P.underlying t=some (.slice e)) (hx:ev L x=some (.slice A m c)):Yl P n B w0 (.call {callee:= .builtin .cap,args:= #[x],argTypes:= #[t]}) ty L R (.int .i64 (c:Int)):=by
 intro a w o ho _ hs _;simp[execOp,ho,resolve,invoke,builtin,Builtin.cap_,mh ht,hs.ev hx,goInt]
theorem XG {x z:Operand} {t e:TypeId} {A:AF} {m c sz:Nat} {k2:IntKind} (ht:P.underlying t=some (.slice e)) (hi:(P.info? e).map (·.size)=some sz) (hx:ev L x=some (.slice A m c)) (hz:ev L z=some (.int k2 0)):
  Yl P n B w0 (.slice t x none (some z) none) ty L R (.slice A 0 c):=by
 intro a w o ho _ hs hp;obtain⟨i0,bb,hsz0⟩:=iw.1 hi;have ue:P.elem t=e:=by simp[Program.elem,ht]
 have rn:P.underlying t=some (.slice (P.elem t)):=by rw[ue];exact ht
 simp only[execOp,ho,kv,Ay,hs.ev hx,hs.ev hz,jq,Aa w t _ _ _ _ rn,run_slice_h w t A m c rn k2 0 (mf 0) G,ue]
 have:(if c=0 then A else Option.map (λx=>x.add 0) A)=A:=by
  split
  ·rfl
  ·exact CP A
 simp[sizeOf,typeInfo,bb,hsz0,sliced,this]
theorem Row.lies_cut {w:World} {e sz m c:Nat} {A:AF} {xs:AG} (h:Row.lies B w ⟨e,sz,A,m,c,xs,false⟩) {k:Nat} (hk:k<=m) (hA:A≠none):Row.lies B w ⟨e,sz,A,k,c,xs.take (k*sz),false⟩:=by
 have h1:=Row.lies_w h rfl;have ox:k*sz<=m*sz:=ut _ hk;unfold Row.lies;simp only;obtain⟨hl,h2⟩:=h1;simp only at hl h2;refine⟨by rw[ax];omega,?_⟩;rcases h2 with⟨hv,_⟩|⟨g,cap,cur,hv,hb,hg,hnc,tc,ke,ht⟩
 ·simp only[ku] at hv;exact absurd hv.1 hA
 ·simp only[ku] at hv;obtain⟨rfl,_,rfl⟩:=hv;refine .inr ⟨g,c,cur,rfl,hb,hg,G,tc,ke,?_⟩;rw[<-ht,List.take_take];congr 1;omega
theorem Hp.cut {w:World} {e sz m c:Nat} {A:AF} {xs:AG} (h:Hp B w0 w (⟨e,sz,A,m,c,xs,false⟩::R)) {k:Nat} (hk:k<=m) (hA:A≠none):Hp B w0 w (⟨e,sz,A,k,c,xs.take (k*sz),false⟩::R):=
 ⟨h.below,h.base,λr hr=>by
  rcases jc.1 hr with rfl|hr
  ·exact Row.lies_cut (h.own _ (.head _)) hk hA
  ·exact h.own r (.tail _ hr),by
  obtain⟨h1,h2⟩:=ja.1 h.apart
  exact ja.2 ⟨λr hr=>h1 r hr,h2⟩,h.late⟩
theorem Hp.newC {w:World} (h:Hp B w0 w R) (cs:Array Value) (e m:Nat) (hm:m<=cs.size) (hc:cs.size<=maxLen):Hp B w0 (w.alloc (.cells cs e)) (⟨e,1,some ⟨w.heap.size,0,none⟩,m,cs.size,cs.toList.take m,false⟩::R):=by
 have h1:=h.new cs e cs.size 1 hc G;have:=h1.cut (k:=m) hm cD;rwa[qf] at this
theorem bDa {x y:Operand} {t tn e:TypeId} {z:Value} {bytes:Nat} {kn:IntKind} {m:Nat} (ht:P.underlying t=some (.slice e)) (Pe:P.underlying tn=some (.int kn)) (dt:(P.info? e).map (λi=>(i.zero,i.size,i.bytes))=some (some z,1,bytes)) (hz:z.cells= #[z])
  (hx:ev L x=some (.slice none 0 0)) (hy:ev L y=some (.int .i64 (m:Int))) (h0:0<m) (hm:m<=9223372036854775807) (hb:m*bytes<=281474976710656):
  Ac P n B w0 (.call {callee:= .builtin .append,args:= #[x,y],argTypes:= #[t,tn]}) ty L R (λv R'=> ∃g c,v= .slice (some ⟨g,0,none⟩) m c/\R'=⟨e,1,some ⟨g,0,none⟩,m,c,List.replicate m z,false⟩::R):=by
 intro a w o K Q ho _ hs hp hk;obtain⟨i0,hi,zd⟩:=iw.1 dt;simp only[Ad] at zd;obtain⟨vt,xb,s7⟩:=zd;have hr:=Lib.run_append_nil_zeros (P:=P) w t tn o.type e i0 z .i64 kn ht Pe hi vt m h0 G G (by rw[s7];exact hb)
 have Qs: ∀q,(Builtin.zeroCells z.cells q).toList=List.replicate q z:=λq=>by
  rw[hz];refine vg (by simp[Builtin.zeroCells]) λi h1 h2=> ?_;simp[Builtin.zeroCells,Nat.mod_one]
 unfold Oper.wp;simp only[execOp,ho,resolve,invoke,builtin,jq,ng,jm,uf,ko,qx,hs.ev hx,hs.ev hy,hr,Oper.upon];have Ds:=grownCap_ge w m 0 e;have ox:=Gl w m 0 e (by unfold maxLen;omega)
 have hsz:(Builtin.zeroCells z.cells m++Builtin.zeroCells z.cells (grownCap w m 0 e-m)).size=grownCap w m 0 e:=by
  rw[<-jy,vo,ah,Qs,Qs,dh,dh];omega
 have pe:=(hp.drawn (w.drawn+1) G).newC (Builtin.zeroCells z.cells m++Builtin.zeroCells z.cells (grownCap w m 0 e-m)) e m (by rw[hsz];exact Ds) (by rw[hsz];exact ox);rw[vo,Qs,Qs,Ey (by rw[dh]),hsz] at pe;exact hk _ _ _ pe ⟨_,_,rfl,rfl⟩
end
end Go.Eng
namespace Go.Eng
open Go Go.RowKit
section
variable {P:Program} {n:Nd} {B:Nat} {w0:World}
theorem uL {σ0 σ1 σ2 σ3 σ4 σ5 σ6 σ7:Type} {c:Code} {Q:fK} {L:Env} {R:List Row} (Lx:σ0->σ1->σ2->σ3->σ4->σ5->σ6->σ7->Env) (Rx:σ0->σ1->σ2->σ3->σ4->σ5->σ6->σ7->List Row) (J:σ0->σ1->σ2->σ3->σ4->σ5->σ6->σ7->Prop) (μ:σ0->σ1->σ2->σ3->σ4->σ5->σ6->σ7->Nat)
  (h0: ∃x0 x1 x2 x3 x4 x5 x6 x7,J x0 x1 x2 x3 x4 x5 x6 x7/\Sub (Lx x0 x1 x2 x3 x4 x5 x6 x7) L/\ ∀w,Hp B w0 w R->Hp B w0 w (Rx x0 x1 x2 x3 x4 x5 x6 x7))
  (round: ∀x0 x1 x2 x3 x4 x5 x6 x7,J x0 x1 x2 x3 x4 x5 x6 x7->W P n B w0 c {Q with nrm:=λL' R'=> ∃y0 y1 y2 y3 y4 y5 y6 y7,J y0 y1 y2 y3 y4 y5 y6 y7/\μ y0 y1 y2 y3 y4 y5 y6 y7<μ x0 x1 x2 x3 x4 x5 x6 x7/\Sub (Lx y0 y1 y2 y3 y4 y5 y6 y7) L'/\ ∀w,Hp B w0 w R'->Hp B w0 w (Rx y0 y1 y2 y3 y4 y5 y6 y7)} (Lx x0 x1 x2 x3 x4 x5 x6 x7) (Rx x0 x1 x2 x3 x4 x5 x6 x7)):W P n B w0 (.loop c) Q L R:=by
 obtain⟨x0,x1,x2,x3,x4,x5,x6,x7,h1,h2,h3⟩:=h0;refine qQ (σ:=σ0 × σ1 × σ2 × σ3 × σ4 × σ5 × σ6 × σ7) (λp=>Lx p.1 p.2.1 p.2.2.1 p.2.2.2.1 p.2.2.2.2.1 p.2.2.2.2.2.1 p.2.2.2.2.2.2.1 p.2.2.2.2.2.2.2) (λp=>Rx p.1 p.2.1 p.2.2.1 p.2.2.2.1 p.2.2.2.2.1 p.2.2.2.2.2.1 p.2.2.2.2.2.2.1 p.2.2.2.2.2.2.2) (λp=>J p.1 p.2.1 p.2.2.1 p.2.2.2.1 p.2.2.2.2.1 p.2.2.2.2.2.1 p.2.2.2.2.2.2.1 p.2.2.2.2.2.2.2) (λp=>μ p.1 p.2.1 p.2.2.1 p.2.2.2.1 p.2.2.2.2.1 p.2.2.2.2.2.1 p.2.2.2.2.2.2.1 p.2.2.2.2.2.2.2) ⟨(x0,x1,x2,x3,x4,x5,x6,x7),h1,h2,h3⟩ λp hp=>iV (round p.1 p.2.1 p.2.2.1 p.2.2.2.1 p.2.2.2.2.1 p.2.2.2.2.2.1 p.2.2.2.2.2.2.1 p.2.2.2.2.2.2.2 hp) ?_ (λ_ _ h=>h) (λ_ _ _ h=>h);rintro L' R' ⟨y0,y1,y2,y3,y4,y5,y6,y7,g1,g2,g3,g4⟩;exact⟨(y0,y1,y2,y3,y4,y5,y6,y7),⟨g1,g2⟩,g3,g4⟩
theorem UI {σ0 σ1 σ2 σ3 σ4 σ5 σ6 σ7 σ8:Type} {c:Code} {Q:fK} {L:Env} {R:List Row} (Lx:σ0->σ1->σ2->σ3->σ4->σ5->σ6->σ7->σ8->Env) (Rx:σ0->σ1->σ2->σ3->σ4->σ5->σ6->σ7->σ8->List Row) (J:σ0->σ1->σ2->σ3->σ4->σ5->σ6->σ7->σ8->Prop) (μ:σ0->σ1->σ2->σ3->σ4->σ5->σ6->σ7->σ8->Nat)
  (h0: ∃x0 x1 x2 x3 x4 x5 x6 x7 x8,J x0 x1 x2 x3 x4 x5 x6 x7 x8/\Sub (Lx x0 x1 x2 x3 x4 x5 x6 x7 x8) L/\ ∀w,Hp B w0 w R->Hp B w0 w (Rx x0 x1 x2 x3 x4 x5 x6 x7 x8))
  (round: ∀x0 x1 x2 x3 x4 x5 x6 x7 x8,J x0 x1 x2 x3 x4 x5 x6 x7 x8->W P n B w0 c {Q with nrm:=λL' R'=> ∃y0 y1 y2 y3 y4 y5 y6 y7 y8,J y0 y1 y2 y3 y4 y5 y6 y7 y8/\μ y0 y1 y2 y3 y4 y5 y6 y7 y8<μ x0 x1 x2 x3 x4 x5 x6 x7 x8/\Sub (Lx y0 y1 y2 y3 y4 y5 y6 y7 y8) L'/\ ∀w,Hp B w0 w R'->Hp B w0 w (Rx y0 y1 y2 y3 y4 y5 y6 y7 y8)} (Lx x0 x1 x2 x3 x4 x5 x6 x7 x8) (Rx x0 x1 x2 x3 x4 x5 x6 x7 x8)):W P n B w0 (.loop c) Q L R:=by
 obtain⟨x0,x1,x2,x3,x4,x5,x6,x7,x8,h1,h2,h3⟩:=h0;refine qQ (σ:=σ0 × σ1 × σ2 × σ3 × σ4 × σ5 × σ6 × σ7 × σ8) (λp=>Lx p.1 p.2.1 p.2.2.1 p.2.2.2.1 p.2.2.2.2.1 p.2.2.2.2.2.1 p.2.2.2.2.2.2.1 p.2.2.2.2.2.2.2.1 p.2.2.2.2.2.2.2.2) (λp=>Rx p.1 p.2.1 p.2.2.1 p.2.2.2.1 p.2.2.2.2.1 p.2.2.2.2.2.1 p.2.2.2.2.2.2.1 p.2.2.2.2.2.2.2.1 p.2.2.2.2.2.2.2.2) (λp=>J p.1 p.2.1 p.2.2.1 p.2.2.2.1 p.2.2.2.2.1 p.2.2.2.2.2.1 p.2.2.2.2.2.2.1 p.2.2.2.2.2.2.2.1 p.2.2.2.2.2.2.2.2) (λp=>μ p.1 p.2.1 p.2.2.1 p.2.2.2.1 p.2.2.2.2.1 p.2.2.2.2.2.1 p.2.2.2.2.2.2.1 p.2.2.2.2.2.2.2.1 p.2.2.2.2.2.2.2.2) ⟨(x0,x1,x2,x3,x4,x5,x6,x7,x8),h1,h2,h3⟩ λp hp=>iV (round p.1 p.2.1 p.2.2.1 p.2.2.2.1 p.2.2.2.2.1 p.2.2.2.2.2.1 p.2.2.2.2.2.2.1 p.2.2.2.2.2.2.2.1 p.2.2.2.2.2.2.2.2 hp) ?_ (λ_ _ h=>h) (λ_ _ _ h=>h);rintro L' R' ⟨y0,y1,y2,y3,y4,y5,y6,y7,y8,g1,g2,g3,g4⟩;exact⟨(y0,y1,y2,y3,y4,y5,y6,y7,y8),⟨g1,g2⟩,g3,g4⟩
theorem BC {σ0 σ1 σ2 σ3 σ4 σ5 σ6 σ7 σ8 σ9:Type} {c:Code} {Q:fK} {L:Env} {R:List Row} (Lx:σ0->σ1->σ2->σ3->σ4->σ5->σ6->σ7->σ8->σ9->Env) (Rx:σ0->σ1->σ2->σ3->σ4->σ5->σ6->σ7->σ8->σ9->List Row) (J:σ0->σ1->σ2->σ3->σ4->σ5->σ6->σ7->σ8->σ9->Prop) (μ:σ0->σ1->σ2->σ3->σ4->σ5->σ6->σ7->σ8->σ9->Nat)
  (h0: ∃x0 x1 x2 x3 x4 x5 x6 x7 x8 x9,J x0 x1 x2 x3 x4 x5 x6 x7 x8 x9/\Sub (Lx x0 x1 x2 x3 x4 x5 x6 x7 x8 x9) L/\ ∀w,Hp B w0 w R->Hp B w0 w (Rx x0 x1 x2 x3 x4 x5 x6 x7 x8 x9))
  (round: ∀x0 x1 x2 x3 x4 x5 x6 x7 x8 x9,J x0 x1 x2 x3 x4 x5 x6 x7 x8 x9->W P n B w0 c {Q with nrm:=λL' R'=> ∃y0 y1 y2 y3 y4 y5 y6 y7 y8 y9,J y0 y1 y2 y3 y4 y5 y6 y7 y8 y9/\μ y0 y1 y2 y3 y4 y5 y6 y7 y8 y9<μ x0 x1 x2 x3 x4 x5 x6 x7 x8 x9/\Sub (Lx y0 y1 y2 y3 y4 y5 y6 y7 y8 y9) L'/\ ∀w,Hp B w0 w R'->Hp B w0 w (Rx y0 y1 y2 y3 y4 y5 y6 y7 y8 y9)} (Lx x0 x1 x2 x3 x4 x5 x6 x7 x8 x9) (Rx x0 x1 x2 x3 x4 x5 x6 x7 x8 x9)):W P n B w0 (.loop c) Q L R:=by
 obtain⟨x0,x1,x2,x3,x4,x5,x6,x7,x8,x9,h1,h2,h3⟩:=h0;refine qQ (σ:=σ0 × σ1 × σ2 × σ3 × σ4 × σ5 × σ6 × σ7 × σ8 × σ9) (λp=>Lx p.1 p.2.1 p.2.2.1 p.2.2.2.1 p.2.2.2.2.1 p.2.2.2.2.2.1 p.2.2.2.2.2.2.1 p.2.2.2.2.2.2.2.1 p.2.2.2.2.2.2.2.2.1 p.2.2.2.2.2.2.2.2.2) (λp=>Rx p.1 p.2.1 p.2.2.1 p.2.2.2.1 p.2.2.2.2.1 p.2.2.2.2.2.1 p.2.2.2.2.2.2.1 p.2.2.2.2.2.2.2.1 p.2.2.2.2.2.2.2.2.1 p.2.2.2.2.2.2.2.2.2) (λp=>J p.1 p.2.1 p.2.2.1 p.2.2.2.1 p.2.2.2.2.1 p.2.2.2.2.2.1 p.2.2.2.2.2.2.1 p.2.2.2.2.2.2.2.1 p.2.2.2.2.2.2.2.2.1 p.2.2.2.2.2.2.2.2.2) (λp=>μ p.1 p.2.1 p.2.2.1 p.2.2.2.1 p.2.2.2.2.1 p.2.2.2.2.2.1 p.2.2.2.2.2.2.1 p.2.2.2.2.2.2.2.1 p.2.2.2.2.2.2.2.2.1 p.2.2.2.2.2.2.2.2.2) ⟨(x0,x1,x2,x3,x4,x5,x6,x7,x8,x9),h1,h2,h3⟩ λp hp=>iV (round p.1 p.2.1 p.2.2.1 p.2.2.2.1 p.2.2.2.2.1 p.2.2.2.2.2.1 p.2.2.2.2.2.2.1 p.2.2.2.2.2.2.2.1 p.2.2.2.2.2.2.2.2.1 p.2.2.2.2.2.2.2.2.2 hp) ?_ (λ_ _ h=>h) (λ_ _ _ h=>h);rintro L' R' ⟨y0,y1,y2,y3,y4,y5,y6,y7,y8,y9,g1,g2,g3,g4⟩;exact⟨(y0,y1,y2,y3,y4,y5,y6,y7,y8,y9),⟨g1,g2⟩,g3,g4⟩
theorem aQb {σ0 σ1 σ2 σ3 σ4 σ5 σ6 σ7 σ8 σ9 σ10 σ11 σ12 σ13:Type} {c:Code} {Q:fK} {L:Env} {R:List Row} (Lx:σ0->σ1->σ2->σ3->σ4->σ5->σ6->σ7->σ8->σ9->σ10->σ11->σ12->σ13->Env) (Rx:σ0->σ1->σ2->σ3->σ4->σ5->σ6->σ7->σ8->σ9->σ10->σ11->σ12->σ13->List Row) (J:σ0->σ1->σ2->σ3->σ4->σ5->σ6->σ7->σ8->σ9->σ10->σ11->σ12->σ13->Prop) (μ:σ0->σ1->σ2->σ3->σ4->σ5->σ6->σ7->σ8->σ9->σ10->σ11->σ12->σ13->Nat)
  (h0: ∃x0 x1 x2 x3 x4 x5 x6 x7 x8 x9 Kb Kc Kd Ke,J x0 x1 x2 x3 x4 x5 x6 x7 x8 x9 Kb Kc Kd Ke/\Sub (Lx x0 x1 x2 x3 x4 x5 x6 x7 x8 x9 Kb Kc Kd Ke) L/\ ∀w,Hp B w0 w R->Hp B w0 w (Rx x0 x1 x2 x3 x4 x5 x6 x7 x8 x9 Kb Kc Kd Ke))
  (round: ∀x0 x1 x2 x3 x4 x5 x6 x7 x8 x9 Kb Kc Kd Ke,J x0 x1 x2 x3 x4 x5 x6 x7 x8 x9 Kb Kc Kd Ke->W P n B w0 c {Q with nrm:=λL' R'=> ∃y0 y1 y2 y3 y4 y5 y6 y7 y8 y9 Qu Qv Qw Qx,J y0 y1 y2 y3 y4 y5 y6 y7 y8 y9 Qu Qv Qw Qx/\μ y0 y1 y2 y3 y4 y5 y6 y7 y8 y9 Qu Qv Qw Qx<μ x0 x1 x2 x3 x4 x5 x6 x7 x8 x9 Kb Kc Kd Ke/\Sub (Lx y0 y1 y2 y3 y4 y5 y6 y7 y8 y9 Qu Qv Qw Qx) L'/\ ∀w,Hp B w0 w R'->Hp B w0 w (Rx y0 y1 y2 y3 y4 y5 y6 y7 y8 y9 Qu Qv Qw Qx)} (Lx x0 x1 x2 x3 x4 x5 x6 x7 x8 x9 Kb Kc Kd Ke) (Rx x0 x1 x2 x3 x4 x5 x6 x7 x8 x9 Kb Kc Kd Ke)):W P n B w0 (.loop c) Q L R:=by
 obtain⟨x0,x1,x2,x3,x4,x5,x6,x7,x8,x9,Kb,Kc,Kd,Ke,h1,h2,h3⟩:=h0;refine qQ (σ:=σ0 × σ1 × σ2 × σ3 × σ4 × σ5 × σ6 × σ7 × σ8 × σ9 × σ10 × σ11 × σ12 × σ13) (λp=>Lx p.1 p.2.1 p.2.2.1 p.2.2.2.1 p.2.2.2.2.1 p.2.2.2.2.2.1 p.2.2.2.2.2.2.1 p.2.2.2.2.2.2.2.1 p.2.2.2.2.2.2.2.2.1 p.2.2.2.2.2.2.2.2.2.1 p.2.2.2.2.2.2.2.2.2.2.1 p.2.2.2.2.2.2.2.2.2.2.2.1 p.2.2.2.2.2.2.2.2.2.2.2.2.1 p.2.2.2.2.2.2.2.2.2.2.2.2.2) (λp=>Rx p.1 p.2.1 p.2.2.1 p.2.2.2.1 p.2.2.2.2.1 p.2.2.2.2.2.1 p.2.2.2.2.2.2.1 p.2.2.2.2.2.2.2.1 p.2.2.2.2.2.2.2.2.1 p.2.2.2.2.2.2.2.2.2.1 p.2.2.2.2.2.2.2.2.2.2.1 p.2.2.2.2.2.2.2.2.2.2.2.1 p.2.2.2.2.2.2.2.2.2.2.2.2.1 p.2.2.2.2.2.2.2.2.2.2.2.2.2) (λp=>J p.1 p.2.1 p.2.2.1 p.2.2.2.1 p.2.2.2.2.1 p.2.2.2.2.2.1 p.2.2.2.2.2.2.1 p.2.2.2.2.2.2.2.1 p.2.2.2.2.2.2.2.2.1 p.2.2.2.2.2.2.2.2.2.1 p.2.2.2.2.2.2.2.2.2.2.1 p.2.2.2.2.2.2.2.2.2.2.2.1 p.2.2.2.2.2.2.2.2.2.2.2.2.1 p.2.2.2.2.2.2.2.2.2.2.2.2.2) (λp=>μ p.1 p.2.1 p.2.2.1 p.2.2.2.1 p.2.2.2.2.1 p.2.2.2.2.2.1 p.2.2.2.2.2.2.1 p.2.2.2.2.2.2.2.1 p.2.2.2.2.2.2.2.2.1 p.2.2.2.2.2.2.2.2.2.1 p.2.2.2.2.2.2.2.2.2.2.1 p.2.2.2.2.2.2.2.2.2.2.2.1 p.2.2.2.2.2.2.2.2.2.2.2.2.1 p.2.2.2.2.2.2.2.2.2.2.2.2.2) ⟨(x0,x1,x2,x3,x4,x5,x6,x7,x8,x9,Kb,Kc,Kd,Ke),h1,h2,h3⟩ λp hp=>iV (round p.1 p.2.1 p.2.2.1 p.2.2.2.1 p.2.2.2.2.1 p.2.2.2.2.2.1 p.2.2.2.2.2.2.1 p.2.2.2.2.2.2.2.1 p.2.2.2.2.2.2.2.2.1 p.2.2.2.2.2.2.2.2.2.1 p.2.2.2.2.2.2.2.2.2.2.1 p.2.2.2.2.2.2.2.2.2.2.2.1 p.2.2.2.2.2.2.2.2.2.2.2.2.1 p.2.2.2.2.2.2.2.2.2.2.2.2.2 hp) ?_ (λ_ _ h=>h) (λ_ _ _ h=>h);rintro L' R' ⟨y0,y1,y2,y3,y4,y5,y6,y7,y8,y9,Qu,Qv,Qw,Qx,g1,g2,g3,g4⟩;exact⟨(y0,y1,y2,y3,y4,y5,y6,y7,y8,y9,Qu,Qv,Qw,Qx),⟨g1,g2⟩,g3,g4⟩
end
section
variable {P:Program} {n:Nd} {B:Nat} {w0:World} {L:Env} {R:List Row} {ty:TypeId}
end
end Go.Eng
namespace Go.Eng
open Go Go.RowKit Go.Proofs
theorem SlW.elim {C:Prop} {k:IntKind} {w:World} {vals:AG} {ls:AD} (h:SlW k w vals ls) {i:Int} (h0:0<=i) (h1:i<ls.length) (q: ∀(A:AF) (c:Nat),vals[i.toNat]? =some (Value.slice A (rdl ls i).length c)->Rd w A (rdl ls i).length c 1 (ints k (rdl ls i))->(∀x∈rdl ls i,(Lit.int k x).wf=true)->(rdl ls i).length<=140737488355327->C):C:=by
 obtain⟨A,c,a,b,d,e⟩:=h.at h0 h1;exact q A c a b d e
section
variable {P:Program} {n:Nd} {B:Nat} {w0:World} {L:Env} {R:List Row} {ty:TypeId}
theorem AX {x ix:Operand} {t e:TypeId} {k:IntKind} {A:AF} {m c q:Nat} {i j:Int} {l:AE} (ht:P.underlying t=some (.array 2 e)) (hi:(P.info? e).map (·.size)=some 1) (hx:ev L x=some (.pointer (pat A (i.toNat*2)))) (se:ev L ix=some (.int k j))
  (hr:RdC B w0 R A m c 2 (prs l)) (h0:0<=i) (h1:i<l.length) (hj:j.toNat=q) (sf:0<=j) (l6:j<2):Yl P n B w0 (.indexAddr t x ix) ty L R (.pointer (pat A (i.toNat*2+q))):=by
 have:=zI (P:=P) (n:=n) (B:=B) (w0:=w0) (ty:=ty) ht hi hx rfl se hr (by rw[jK];omega) sf l6;rwa[qf,hj] at this
theorem bAc {l:AE} {i:Int} (h0:0<=i) (h:i<l.length):(prs l)[i.toNat*2+0]? =some (.int .i64 (rdp l i).1):=by
 rw[JU _ _ G];rw[di G,show(i.toNat*2+0)/2=i.toNat by omega];rfl
theorem bAa {l:AE} {i:Int} (h0:0<=i) (h:i<l.length):(prs l)[i.toNat*2+1]? =some (.int .i64 (rdp l i).2):=by
 rw[JU _ _ G];rw[df G,show(i.toNat*2+1)/2=i.toNat by omega];rfl
theorem aPt {x:Operand} {t:TypeId} {d:TypeDesc} {A:AF} {m c:Nat} {l:AE} {i:Int} (hu:P.underlying t=some d) (hd:GX d=false) (hx:ev L x=some (.pointer (pat A (i.toNat*2+0)))) (hr:RdC B w0 R A m c 2 (prs l)) (h0:0<=i:=by omega) (h1:i<l.length:=by omega):
  Yl P n B w0 (.load t x) ty L R (.int .i64 (rdp l i).1):=lC hu hd hx rfl hr (bAc h0 h1)
theorem aPs {x:Operand} {t:TypeId} {d:TypeDesc} {A:AF} {m c:Nat} {l:AE} {i:Int} (hu:P.underlying t=some d) (hd:GX d=false) (hx:ev L x=some (.pointer (pat A (i.toNat*2+1)))) (hr:RdC B w0 R A m c 2 (prs l)) (h0:0<=i) (h1:i<l.length):
  Yl P n B w0 (.load t x) ty L R (.int .i64 (rdp l i).2):=lC hu hd hx rfl hr (bAa h0 h1)
end
section
variable {P:Program} {n:Nd} {B:Nat} {w0:World} {ops:Array Oper} {K:Env->List Row->Prop} {L:Env} {R:List Row} {op:Op} {ty:TypeId} {pos:String} {ob:Array Edge}
def aKe (P:Program) (n:Nd) (B:Nat) (w0:World) (ops:Array Oper) (K:Env->List Row->Prop) (bm:Nat) (ab:AI) (L:Env) (R:List Row) (i:Nat):Prop:=
 ∀a w (Q:Exit->Act->World->Prop),Sat n L a->Hp B w0 w R->(∀c a w,¬Q (.panic c) a w)->(∀a' w' L' R',Sat n L' a'->Hp B w0 w' R'->K L' R'->Q .normal a' w')->
  wpOp P ops Q i (λa' w'=> ∃S':World->Prop,S' w'/\(OW ops ab i=true\/ ∀x,S' x->Hp B w0 x R)/\vQ P ops Q bm S' (ab.setIfInBounds i true) a' w') a w
theorem EX {bm:Nat} {ab:AI} (i j:Nat) (hr:Region.ready .any ops ab=[i,j]) (hi:aKe P n B w0 ops K bm ab L R i) (hj:aKe P n B w0 ops K bm ab L R j):WD P n B w0 ops K (bm+1) ab L R:=by
 intro a w Q hs hp km hq;refine⟨λh0=>absurd (hr▸h0) cD,λk hk=> ?_⟩;rw[hr] at hk;rcases jc.1 hk with rfl|hk
 ·exact hi a w Q hs hp km hq
 ·obtain rfl:=ic.1 hk;exact hj a w Q hs hp km hq
theorem bFm {i:Nat} {o:Oper} {Post:Value->List Row->Prop} {bm:Nat} {ab:AI} (hi:ops[i]? =some o) (hg: ∀a,Sat n L a->Region.wanted o (yielded ops a.tmps)=true) (ha:Ac P n B w0 o.op o.type L R Post)
  (hn: ∀v a,Sat n L a->Sat n (match o.dst with|some d=>(d,v)::L|none=>L) (a.put o.dst v))
  (h: ∀v R',Post v R'->(OW ops ab i=true\/ ∀w,Hp B w0 w R'->Hp B w0 w R)/\WD P n B w0 ops K bm (ab.setIfInBounds i true) (match o.dst with|some d=>(d,v)::L|none=>L) R'):aKe P n B w0 ops K bm ab L R i:=by
 intro a w Q hs hp km hq;unfold wpOp;simp only[hi,hg a hs,Jd];refine .inl (ha a w o _ Q rfl rfl hs hp λv w' R' da hv=> ?_);obtain⟨h1,h2⟩:=h v R' hv;exact⟨λw=>Hp B w0 w R',da,h1,h2 _ w' Q (hn v a hs) da km hq⟩
theorem IW {d:Nat} {Post:Value->List Row->Prop} {bm:Nat} {ab:AI} (i:Nat) (hi:ops[i]? =some {dst:=some d,op:=op,type:=ty,pos:=pos,after:=ob,guard:=none}) (hn:Nat.blt d n=true) (ha:Ac P n B w0 op ty L R Post)
  (h: ∀v R',Post v R'->(OW ops ab i=true\/ ∀w,Hp B w0 w R'->Hp B w0 w R)/\WD P n B w0 ops K bm (ab.setIfInBounds i true) ((d,v)::L) R'):aKe P n B w0 ops K bm ab L R i:=
 bFm hi (λ_ _=>rfl) ha (λv _ hs=>hs.put hn v) h
end
end Go.Eng
namespace Go.Eng
open Go Go.RowKit
variable {w:World} {A:AF} {m c l h:Nat} {xs:AH}
theorem Rd.cutI {k:IntKind} (hr:Rd w A m c 1 (ints k xs)) (h1:l<=h) (h2:h<=m):Rd w (jH A l c 1) (h-l) (c-l) 1 (ints k ((xs.drop l).take (h-l))):=
 RdC.cutI (hr.c []) h1 h2 w (Hp.refl _)
theorem Rd.fromI {k:IntKind} (hr:Rd w A m c 1 (ints k xs)) (h1:l<=m):Rd w (jH A l c 1) (m-l) (c-l) 1 (ints k (xs.drop l)):=
 RdC.fromI (hr.c []) h1 w (Hp.refl _)
theorem Rd.toI {k:IntKind} (hr:Rd w A m c 1 (ints k xs)) (h2:h<=m):Rd w A h c 1 (ints k (xs.take h)):=
 RdC.toI (hr.c []) h2 w (Hp.refl _)
theorem dR {x:Int} (h:0<=x/\x<256):(Lit.int .u8 x).wf=true:=by
 have h1:IntKind.u8.min<=x:=h.1
 have h2:x<=IntKind.u8.max:=by
  have:IntKind.u8.max=255:=cC
  omega
 simp[Lit.wf,h1,h2]
theorem SlW.snoc {k:IntKind} {vals:AG} {ls:AD} {l:AH} (h:SlW k w vals ls) (hr:Rd w A m c 1 (ints k l)) (hwf: ∀x∈l,(Lit.int k x).wf=true) (hm:l.length<=140737488355327):SlW k w (vals++[.slice A m c]) (ls++[l]):=by
 obtain rfl:=hr.lenI;refine⟨by rw[ah,ah,h.1];rfl,λj hj=> ?_⟩;rcases gm j ls.length with a|a
 ·obtain ⟨A',c',h1,h2,h3,h4⟩:=h.2 j a
  have e:(ls++[l]).getD j []=ls.getD j []:=by
   rw[ai,ai,jl a]
  rw[e];exact⟨A',c',by rw[jl (by rw[h.1];exact a)];exact h1,h2,h3,h4⟩
 ·have xi:j=ls.length:=by rw[ah] at hj;simp at hj;omega
  have e:(ls++[l]).getD j []=l:=by
   rw[ai,xi,ji (dx _)];simp
  rw[e];refine⟨A,c,?_,hr,hwf,hm⟩;rw[xi,<-h.1,ji (dx _)];simp
section
variable {P:Program} {n:Nd} {B:Nat} {w0:World} {L:Env} {R:List Row} {ty:TypeId}
end
section
variable {P:Program} {n:Nd} {B:Nat} {w0:World} {L:Env} {R:List Row} {ty:TypeId}
def WRd (P:Program) (n:Nd) (B:Nat) (w0:World) (c:Code) (Q:fK):Nat->Env->List Row->Prop
 |0,_,_=>False
 |m+1,L,R=>W P n B w0 c {Q with nrm:=WRd P n B w0 c Q m} L R
theorem lT {c:Code} {Q:fK} (m:Nat) (h:WRd P n B w0 c Q m L R):W P n B w0 (.loop c) Q L R:=by
 intro a w hs hp;refine wpIn_loop_rounds m ?_
 have key: ∀(m:Nat) (L:Env) (R:List Row) (a:Act) (w:World),Sat n L a->Hp B w0 w R->WRd P n B w0 c Q m L R->Code.roundsIn (NF n.rd) 0 P c (PQ n B w0 Q) m a w:=by
  intro m
  induction m with
  |zero=>intro L R a w _ _ h;exact h.elim
  |succ m ih=>
   intro L R a w hs hp h;rw[roundsIn_succ];refine Bb (h a w hs hp) ?_;intro e a' w' hq;cases e with
   |normal=>obtain⟨L',R',fj,da,hw⟩:=hq;exact ih _ _ _ _ fj da hw
   |exit id=>exact hq
   |goto l=>exact hq
   |ret=>exact hq
   |panic ch=>exact hq
   |outgrown=>exact hq
 exact key m L R a w hs hp h
theorem eB {c:Code} {Q:fK} {m:Nat} (h:W P n B w0 c {Q with nrm:=WRd P n B w0 c Q m} L R):WRd P n B w0 c Q (m+1) L R:=h
theorem bFh {t:TypeId} {x ix:Operand} {u i v:Value} (hx:ev L x=some u) (hi:ev L ix=some i) (h: ∀w,(Instr.index t u i).run P w= .ok v w):Yl P n B w0 (.index t x ix) ty L R v:=by
 intro a w o ho _ hs _;simp[execOp,ho,hs.ev hx,hs.ev hi,h]
end
end Go.Eng
namespace Go.Eng
open Go Go.RowKit Go.Pure
section
variable {P:Program} {n:Nd} {B:Nat} {w0:World} {L:Env} {R:List Row} {ty:TypeId}
theorem aJt {x y:Int} (hx:0<=x/\x<256) (hy:0<=y/\y<256):(x.toNat.toUInt8==y.toNat.toUInt8)=decide (x=y):=by
 have e: ∀z:Int,0<=z/\z<256->((z.toNat.toUInt8).toNat:Int)=z:=λz hz=>by
  rw[Nat.toUInt8,Cc (by simp[UInt8.size];omega)];omega
 by_cases h:x=y
 ·subst h;simp
 ·rw [qa h];refine beq_eq_false_iff_ne.2 λg=>h ?_;have:=e x hx;have:=e y hy;rw[g] at*;omega
theorem aNp {u:AH} {c:Int} (hu:aN u) (hc:0<=c/\c<256) (hm:c∈u):
  (List.range (⟨(Lib.bytesOf u).toArray⟩:ByteArray).size).find? (λi=>(⟨(Lib.bytesOf u).toArray⟩:ByteArray)[i]! ==c.toNat.toUInt8)=some (idx u c).toNat:=by
 have hi:=xD hm
 have hsz:(⟨(Lib.bytesOf u).toArray⟩:ByteArray).size=u.length:=by
  show(Lib.bytesOf u).toArray.size=_;rw[ql,aBx]
 have sr: ∀(i:Nat) (h:i<u.length),(⟨(Lib.bytesOf u).toArray⟩:ByteArray)[i]! =(u[i]).toNat.toUInt8:=λi h=>by
  rw[uo _ i (by rw[hsz];exact h)];show(Lib.bytesOf u).toArray[i]'_=_;simp[Lib.bytesOf]
 refine List.find?_range_eq_some.2 ⟨?_,?_,?_⟩
 ·rw [sr _ G,aJt (hu _ (mg _)) hc];have:=aEb hm;rw[fE hi.1 hi.2] at this;rw[ni this]
 ·rw[jw,hsz];omega
 ·intro j hj;rw[sr _ G,aJt (hu _ (mg _)) hc]
  have:u[j]≠c:=λg=>by
   unfold idx at hj hi;have:=De (xs:=u) (p:=λx=>x==c) (i:=j) G;simp[g] at this
  rw[qa this];rfl
theorem aCi {f:FuncId} {fn:Func} {x y:Operand} {ts:Array TypeId} {A:AF} {m c':Nat} {u:AH} {c:Int} (hf:P.funcs[f]? =some fn) (f8:(fn.name== "runtime.NumGoroutine")=false) (hb:fn.body.isNone=true) (hn:Extern.findNext fn=none) (he:Extern.find fn=some Extern.BytealgIndexByte.indexByte)
  (hx:ev L x=some (.slice A m c')) (hy:ev L y=some (.int .u8 c)) (h:RdC B w0 R A m c' 1 (ints .u8 u)) (hu:aN u) (hc:0<=c/\c<256) (hm:c∈u):
  Ac P n B w0 (.call {callee:= .value (.func f),args:=[x,y].toArray,argTypes:=ts}) ty L R (λv R'=>v= .int .i64 (idx u c)/\R'=R):=
 WZ (vs:=[.slice A m c', .int .u8 c]) (by simp[evs,hx,hy]) λw hw=>⟨_,w,R,by
  rw[Fg hf f8 hb hn he];rw[show [Value.slice A m c',Value.int .u8 c].toArray= #[.slice A m c', .int .u8 c] from rfl]
  change (Sem.run P (do
   let b<-Extern.Bytes.bytesOf (.slice A m c')
   let c<-Extern.Bytes.asByte (.int .u8 c)
   match (List.range b.size).find? λi=>b[i]! ==c with
   |some i=>pure (goInt i)
   |none=>pure (goInt (-1))) w).andThen _=_
  simp only[jq,wE (h w hw),jm,Extern.Bytes.asByte,ng,aNp hu hc hm];rfl,hw,by
  show Value.int .i64 (((idx u c).toNat:Nat):Int)=_;have:=xD hm
  rw[show(((idx u c).toNat:Nat):Int)=idx u c by omega],rfl⟩
theorem jW {x:Int} (h0:0<=x) (h:x<18446744073709551616):IntKind.u64.wrap x=x:=by
 rw[Ia];omega
theorem nT {x:Int} (h0:0<=x) (h:x<256):IntKind.u8.wrap x=x:=by
 rw[Ch];omega
theorem aRb (x:Int) (h0:0<=x) (h1:x<18446744073709551616) (j:IntKind) (k:Nat) (hk:k<=64) (w:World):(Op.shift .shr .u64 x j (k:Int)).run P w= .ok (.int .u64 (x/2^k)) w:=by
 have hn: ¬((k:Int)<0):=G
 have hm:min (k:Int).toNat (IntKind.bits .u64)=k:=by
  have:IntKind.bits .u64=64:=rfl;omega
 have he:Int.fdiv x (2^k)=x/2^k:=Bf _ (by exact vz G);unfold Op.shift;simp only[hn,hm,he,xx];rfl
theorem bFe {x y:Operand} {t u:TypeId} {a:Int} {j:IntKind} {k:Nat} (hx:ev L x=some (.int .u64 a)) (hy:ev L y=some (.int j (k:Int))) (h0:0<=a) (h1:a<18446744073709551616) (hk:Nat.ble k 64=true):Yl P n B w0 (.binOp .shr t x y u) ty L R (.int .u64 (a/2^k)):=by
 intro a' w o ho _ hs _;simp[execOp,ho,hs.ev hx,hs.ev hy,binOp,eqGuard,aRb a h0 h1 j k (ak hk)]
end
end Go.Eng
