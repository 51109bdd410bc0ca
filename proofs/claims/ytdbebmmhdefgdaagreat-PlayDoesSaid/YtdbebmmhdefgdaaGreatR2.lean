/- Own work. -/
import Derived.Lib.BytesEntry
import Derived.Lib.AppendZeros
import Derived.Lib.MakeNoZero
import Derived.Laws.Externs
import Derived.Stop.BytesEq
import Derived.LoopNIn
import Derived.Test.YtdbebmmhdefgdaaGreatR1
set_option linter.unusedVariables false
set_option linter.unusedSimpArgs false
namespace Go.Pure
open Go Go.Eng
variable {ws:List (List Int)} {w k j:Int} {U:List (Int × Int)}
theorem aTy {u:Int × Int} (wb:0<=w) (hw:w<ws.length) (hk:k<=(rdl ws w).length) (h:u∈fT ws w.toNat++turnsOf w k.toNat):TV ws u/\ltI u (w,k):=by
 rcases gp.1 h with h|h
 ·obtain ⟨⟨a,b⟩,c,d⟩:=xN.1 h;exact⟨⟨a,G,c,d⟩, .inl (by simp only;omega)⟩
 ·obtain ⟨a,b,c⟩:=wE.1 h;obtain⟨u1,u2⟩:=u;simp only at a b c;subst a;exact⟨⟨wb,hw,b,by simp only;omega⟩, .inr ⟨rfl,by simp only;omega⟩⟩
theorem KJ (wb:0<=w) (hw:w<ws.length) (hk:k<=(rdl ws w).length) (hp:U.Perm (fT ws w.toNat++turnsOf w k.toNat)) (i:Int) (h0:0<=i) (h:i<U.length):TV ws (rdp U i)/\ltI (rdp U i) (w,k):=
 aTy wb hw hk (hp.subset (kN h0 h))
def aHp (ws:List (List Int)) (t:Int × Int):List Int:=(rdl ws t.1).drop t.2.toNat++(rdl ws t.1).take t.2.toNat
theorem aUv (wb:0<=w) (hw:w<ws.length) (li:0<=k) (hk:k<(rdl ws w).length) (hp:U.Perm (fT ws w.toNat++turnsOf w k.toNat)) (tz:0<=j) (hj:j<=U.length)
  (vf: ∀i:Int,j<=i->i<U.length->jB ws (w,k) (rdp U i)) (h:0<j/\MZ (aHp ws (w,k)) (aHp ws (rdp U (j-1)))<0): ∀i:Int,j-1<=i->i<U.length->jB ws (w,k) (rdp U i):=by
 intro i h1 h2;rcases bi i j with a|a
 ·have:i=j-1:=G
  subst this;exact .inl ((aBt ⟨wb,hw,li,hk⟩ (KJ wb hw G hp (j-1) G h2).1).1 h.2)
 ·exact vf i a h2
theorem bBw (wb:0<=w) (hw:w<ws.length) (li:0<=k) (hk:k<(rdl ws w).length) (hp:U.Perm (fT ws w.toNat++turnsOf w k.toNat)) (hs:U.Pairwise (jB ws)) (tz:0<=j) (hj:j<=U.length)
  (vf: ∀i:Int,j<=i->i<U.length->jB ws (w,k) (rdp U i)) (h: ¬(0<j/\MZ (aHp ws (w,k)) (aHp ws (rdp U (j-1)))<0)):
  (U.take j.toNat++[(w,k)]++U.drop j.toNat).Perm (fT ws w.toNat++turnsOf w (k+1).toNat)/\(U.take j.toNat++[(w,k)]++U.drop j.toNat).Pairwise (jB ws):=by
 refine⟨?_,aFe hs ?_ ?_⟩
 ·rw [zT w li,<-gy];exact ZZ.trans (Dc _ hp)
 ·rcases bi 0 j with a|a
  ·have hq:=KJ wb hw G hp (j-1) G G;refine aPu hs a hj (ZE (λhl=>h ⟨a,(aBt ⟨wb,hw,li,hk⟩ hq.1).2 hl⟩) hq.2)
  ·intro y hy;rw[show j.toNat=0 by omega,xw] at hy;cases hy
 ·intro y hy;obtain⟨i,hi,rfl⟩:=gz.1 hy;rw[ay] at hi;have bc:j.toNat+i<U.length:=G
  rw[Be];have:=vf (j+(i:Int)) G G
  have e:rdp U (j+(i:Int))=U[j.toNat+i]:=by
   unfold rdp;rw[show(j+(i:Int)).toNat=j.toNat+i by omega,ai,av bc];rfl
  rwa[e] at this
variable {L s:List Int} {k:Int} {ws:List (List Int)} {l:List (Int × Int)}
def ps (L:List Int) (k:Int):Int:=(L.take k.toNat).sum
theorem lJ (h0:0<=k) (h:k<L.length):ps L (k+1)=ps L k+rd L k:=by
 unfold ps;rw[dH h0 h,Cm];simp
theorem aEf (h:L.length<=k):ps L k=L.sum:=by
 unfold ps;rw[bn G]
def gM (s L:List Int) (k:Int):List (List Int):=(List.range k.toNat).map λi:Nat=>(s.drop (ps L i).toNat).take (rd L i).toNat
theorem uY (h0:0<=k):gM s L (k+1)=gM s L k++[(s.drop (ps L k).toNat).take (rd L k).toNat]:=by
 unfold gM;rw[show(k+1).toNat=k.toNat+1 by omega,zq,jo];simp only[lm,ry];rw[show((k.toNat:Nat):Int)=k by omega]
theorem tF (s L:List Int) (k:Int):(gM s L k).length=k.toNat:=by simp[gM]
theorem IC: ∀ {L:List Int},(∀x∈L,0<x)->(L.length:Int)<=L.sum
 |[],_=>cD
 |x::L,h=>by
  have a:=h x cD;have b:=IC (L:=L) λy hy=>h y (ek _ hy);simp only[dh,yj];omega
theorem XE {L:List Int} (h: ∀x∈L,0<x) (k:Nat):(L.take k).sum<=L.sum:=by
 have e:L.sum=(L.take k).sum+(L.drop k).sum:=by rw[<-Cm,gu]
 have:=IC (L:=L.drop k) λy hy=>h y (pg hy);omega
theorem EH {L:List Int} (h: ∀x∈L,0<x) (k:Int):0<=ps L k:=by
 have:=IC (L:=L.take k.toNat) λy hy=>h y (lv hy);unfold ps;omega
theorem bN (h0:0<=k) (h:k<L.length):rd L k∈L:=by
 unfold rd;rw[ai,av G];exact lu _
theorem FK {s L:List Int} (hL: ∀x∈L,0<x) (hs:L.sum<=s.length): ∀k:Nat,k<=L.length->(gM s L k).flatten=s.take (ps L k).toNat
 |0,_=>rfl
 |k+1,hk=>by
  have h0:(0:Int)<=(k:Int):=G
  have ob:(k:Int)<L.length:=G
  have hp:=EH hL k;have hr:=hL _ (bN h0 ob);have e:((k+1:Nat):Int)=(k:Int)+1:=G
  rw[e,uY h0,qg,FK hL hs k G,lJ h0 ob,show(ps L k+rd L k).toNat=(ps L k).toNat+(rd L k).toNat by omega,Hq];simp
theorem aAn: ∀(f:Nat) (s:List Int),∀x∈OS f s,0<x
 |0,s,x,h=>by cases h
 | f+1,s,x,h=>by
  unfold OS at h;cases s with
  |nil=>cases h
  | cons a s=>
   simp only[Dh,wh,xe] at h;rcases jm.1 h with rfl|h
   ·have:=qL (s:=a::s) cD (a::s).length cD;omega
   ·exact aAn f _ x h
theorem qO (s:List Int): ∀x∈dM s,0<x:=aAn _ _
theorem aAm: ∀(f:Nat) (s:List Int),s.length<=f->(OS f s).sum=s.length
 |0,s,h=>by
  have:s=[]:=Aj.1 G;subst this;rfl
 | f+1,s,h=>by
  unfold OS;cases s with
  |nil=>rfl
  |cons a s=>
   simp only[Dh,wh,xe];have h1:=qL (s:=a::s) cD (a::s).length cD;have h2:=QY (a::s) (a::s).length;rw[yj,aAm f _ (by rw[ay];omega),ay];omega
theorem CF (s:List Int):(dM s).sum=s.length:=aAm _ _ (di _)
theorem CG (s:List Int):(dM s).length<=s.length:=by
 have:=IC (qO s);have:=CF s;omega
theorem bDu (s:List Int) (k:Int):ps (dM s) k<=s.length:=by
 have:=XE (qO s) k.toNat;have:=CF s;unfold ps;omega
def bws (s:List Int):List (List Int):=gM s (dM s) (dM s).length
theorem lI (s:List Int):(bws s).flatten=s:=by
 unfold bws;rw[FK (qO s) (by rw[CF];omega) _ (di _),aEf (lq _),CF];simp
theorem aKa (s:List Int):(bws s).length=(dM s).length:=by unfold bws;rw[tF];omega
theorem aKh (hp:l.Perm (fT ws ws.length)):l.length=ws.flatten.length:=by
 rw[hp.length_eq,xC ws _ (di _)];unfold nS;rw[uz]
theorem xW (hp:l.Perm (fT (bws s) (bws s).length)):l.length=s.length:=by rw[aKh hp,lI]
def lastB (ws:List (List Int)) (t:Int × Int):Int:=rd (rdl ws t.1) ((t.2+(rdl ws t.1).length-1)%((rdl ws t.1).length:Int))
theorem aNj {t:Int × Int} (h:TV ws t):lastB ws t∈ws.flatten:=by
 obtain⟨a,b,c,d⟩:=h;have hn:(0:Int)<(rdl ws t.1).length:=G
 have h1:=ko (t.2+(rdl ws t.1).length-1) (Int.ne_of_gt hn);have h2:=ja (t.2+(rdl ws t.1).length-1) hn;exact Br.2 ⟨_,bAc a b,bN h1 h2⟩
theorem kG (hp:l.Perm (fT ws ws.length)) (hb:aR ws.flatten):aR (l.map (lastB ws)):=by
 intro x hx;obtain⟨t,ht,rfl⟩:=iy.1 hx;exact hb _ (aNj (xO.1 (hp.subset ht)))
variable {l ks order keys at_:List Int} {n:Nat} {i k c x m:Int}
theorem bQ {m:List Int} (hl:l.length=m.length) (h: ∀j:Int,0<=j->j<l.length->rd l j=rd m j):l=m:=by
 apply wz hl;intro i h1 h2;have:=h i G G;unfold rd at this;rw[cu,ai,ai,av h1,av h2] at this;exact this
theorem iB {f:Nat->Int} (h0:0<=i) (h:i<n):rd ((List.range n).map f) i=f i.toNat:=by
 unfold rd;rw[ai,sj,Af G];rfl
theorem tY:rd (List.replicate n 0) i=0:=by
 unfold rd;rw[ai,Ai];split<;>rfl
def eD (ks:List Int) (k:Int):List Int:=(List.range k.toNat).map λc:Nat=>((ks.filter λx=>decide (x=(c:Int))).length:Int)
theorem dY (ks:List Int) (k:Int):(eD ks k).length=k.toNat:=by simp[eD]
theorem aBs (k:Int):eD [] k=List.replicate k.toNat 0:=by
 unfold eD;simp only[List.filter_nil,jl];apply wz cD;intro i h1 h2;simp
theorem BC (h0:0<=c) (h:c<k):rd (eD ks k) c=((ks.filter λx=>decide (x=c)).length:Int):=by
 unfold eD;rw[iB h0 G];rw[show((c.toNat:Nat):Int)=c by omega]
theorem RV (h0:0<=x) (h:x<k):upd (eD ks k) x (rd (eD ks k) x+1)=eD (ks++[x]) k:=by
 refine bQ (by rw[bD,dY,dY]) λj h1 h2=> ?_;rw[bD,dY] at h2;rw[fV h0 h1 (by rw[dY];omega),BC (ks:=ks++[x]) h1 G,ug,ah];by_cases e:j=x
 ·subst e;rw[df rfl,BC h1 G];simp
 ·rw [bu e,BC h1 G]
  have:([x].filter λy=>decide (y=j))=[]:=by
   rw[ll (by simp;exact λh=>e h.symm)];rfl
  rw[this];simp
def dE (cs:List Int):List Int:=(List.range cs.length).map λi:Nat=>ps cs i
theorem fE (cs:List Int):(dE cs).length=cs.length:=by simp[dE]
theorem nK {cs:List Int} (h0:0<=i) (h:i<cs.length):rd (dE cs) i=ps cs i:=by
 unfold dE;rw[iB h0 h];rw[show((i.toNat:Nat):Int)=i by omega]
def dX (order keys:List Int) (c:Int):List Int:=order.filter λi=>decide (rd keys i=c)
def dC (order keys:List Int):Nat->List Int
 |0=>[]
 |c+1=>dC order keys c++dX order keys c
theorem lK (h:rd keys i=c):dX (order++[i]) keys c=dX order keys c++[i]:=by
 unfold dX;rw[ug,pz (by simpa using h)];rfl
theorem nT (h:rd keys i≠c):dX (order++[i]) keys c=dX order keys c:=by
 unfold dX;rw[ug,ll (by simpa using h)];simp
theorem yD (order keys:List Int) (c:Int) (m:Nat):(dX (order.take m) keys c).length<=(dX order keys c).length:=
 ((List.take_sublist m order).filter _).length_le
theorem aOx (order keys:List Int) (h0:0<=c) (h:c<k):rd (eD (order.map (rd keys)) k) c=(dX order keys c).length:=by
 rw[BC h0 h,List.filter_map,bz];rfl
theorem EK (order keys:List Int) {k:Int}: ∀c:Nat,(c:Int)<=k->ps (eD (order.map (rd keys)) k) c=(dC order keys c).length
 |0,_=>rfl
 |c+1,h=>by
  rw[show((c+1:Nat):Int)=(c:Int)+1 by omega,lJ G (by rw[dY];omega),EK order keys c G,aOx order keys G G];rw[dC,ah];omega
theorem yV (order keys:List Int) {c d:Nat} (h:c<d):(dC order keys c).length+(dX order keys c).length<=(dC order keys d).length:=by
 induction d with
 |zero=>omega
 | succ d ih=>
  rw[dC,ah];rcases fe c d with a|a
  ·have:=ih a;omega
  ·have:c=d:=G
   subst this;omega
theorem nN {order:List Int} {k:Nat} (hk: ∀i∈order,0<=rd keys i/\rd keys i<k):(dC order keys k).Perm order:=by
 have Wd: ∀c:Nat,(dC order keys c).Perm (order.filter λi=>decide (0<=rd keys i/\rd keys i<c)):=by
  intro c
  induction c with
  | zero=>
   have:(order.filter λi=>decide (0<=rd keys i/\rd keys i<(0:Nat)))=[]:=by
    rw[List.filter_eq_nil_iff];intro i _;simp only[zy];omega
   rw[this];exact .refl _
  | succ c ih=>
   rw[dC];refine(ih.append_right _).trans ?_;unfold dX
   have e:order.filter (λi=>decide (rd keys i=(c:Int)))=(order.filter λi=>decide (0<=rd keys i/\rd keys i<(c+1:Nat))).filter (λi=> ! decide (0<=rd keys i/\rd keys i<(c:Int))):=by
    rw[List.filter_filter];refine List.filter_congr λi _=> ?_;by_cases h:rd keys i=(c:Int)
    ·rw [nk h,nk (show 0<=rd keys i/\rd keys i<((c+1:Nat):Int) by omega),oh (show¬(0<=rd keys i/\rd keys i<(c:Int)) by omega)];rfl
    ·rw [oh h];by_cases h2:0<=rd keys i/\rd keys i<(c:Int)
     ·rw[nk h2];simp
     ·rw[oh (show¬(0<=rd keys i/\rd keys i<((c+1:Nat):Int)) by omega)];simp
   have e2:order.filter (λi=>decide (0<=rd keys i/\rd keys i<(c:Nat)))=(order.filter λi=>decide (0<=rd keys i/\rd keys i<(c+1:Nat))).filter (λi=>decide (0<=rd keys i/\rd keys i<(c:Int))):=by
    rw[List.filter_filter];refine List.filter_congr λi _=> ?_;by_cases h2:0<=rd keys i/\rd keys i<(c:Int)
    ·rw[nk h2,nk (show 0<=rd keys i/\rd keys i<((c+1:Nat):Int) by omega)];rfl
    ·rw[oh h2];rfl
   rw[e,e2];exact List.filter_append_perm _ _
 have:=Wd k;rwa[Fe.2 (λi hi=>by rw[iv];exact hk i hi)] at this
theorem ZB {order keys l:List Int}: ∀k:Nat,(dC order keys k).length<=l.length->(∀c:Nat,c<k-> ∀t:Nat,t<(dX order keys c).length->rd l ((dC order keys c).length+t)=rd (dX order keys c) t)->l.take (dC order keys k).length=dC order keys k
 |0,_,_=>rfl
 |k+1,hl,h=>by
  have ih:=ZB (order:=order) (keys:=keys) (l:=l) k (by rw[dC,ah] at hl;omega) λc hc=>h c G;rw[dC,ah] at hl ⊢;rw[Hq,ih];congr 1;refine bQ (by rw[ax,ay];omega) λj h1 h2=> ?_;rw[ax,ay] at h2;have:=h k G j.toNat G;rw[show((j.toNat:Nat):Int)=j by omega] at this;rw[<-this];unfold rd;rw[ai,ai,ny,df G,ql];congr 2;omega
structure DJ (order keys at_ l:List Int) (k:Int) (m:Int):Prop where
 len:l.length=order.length
 alen:at_.length=k.toNat
 at_: ∀c:Int,0<=c->c<k->rd at_ c=(dC order keys c.toNat).length+(dX (order.take m.toNat) keys c).length
 row: ∀c:Int,0<=c->c<k-> ∀t:Int,0<=t->t<(dX (order.take m.toNat) keys c).length->rd l ((dC order keys c.toNat).length+t)=rd (dX (order.take m.toNat) keys c) t
theorem aEh:DJ order keys (dE (eD (order.map (rd keys)) k)) (List.replicate order.length 0) k 0:=by
 refine⟨cD,by rw[fE,dY],λc h0 h=> ?_,λc _ _ t _ ht=> ?_⟩
 ·rw [nK h0 (by rw[dY];omega)];have:=EK order keys (k:=k) c.toNat G;rw[show((c.toNat:Nat):Int)=c by omega] at this;rw[this];simp[dX]
 ·simp [dX] at ht;omega
theorem xL {order:List Int} (hk: ∀i∈order,0<=rd keys i/\rd keys i<k):(dC order keys k.toNat).length=order.length:=(nN (k:=k.toNat) λi hi=>by have:=hk i hi;omega).length_eq
theorem DJ.lt {order:List Int} (h:DJ order keys at_ l k m) (hk: ∀i∈order,0<=rd keys i/\rd keys i<k) (h0:0<=m) (hm:m<order.length):0<=rd at_ (rd keys (rd order m))/\rd at_ (rd keys (rd order m))<l.length:=by
 have hi:=hk _ (bN h0 hm);rw[h.at_ _ hi.1 hi.2,h.len];have e:order.take (m+1).toNat=order.take m.toNat++[rd order m]:=dH h0 hm;have h1:=yD order keys (rd keys (rd order m)) (m+1).toNat;rw[e,lK rfl,ah,gq] at h1;have h2:=yV order keys (c:=(rd keys (rd order m)).toNat) (d:=k.toNat) G;rw[xL hk,show(((rd keys (rd order m)).toNat:Nat):Int)=rd keys (rd order m) by omega] at h2;omega
theorem DJ.step {order:List Int} (h:DJ order keys at_ l k m) (hk: ∀i∈order,0<=rd keys i/\rd keys i<k) (h0:0<=m) (hm:m<order.length):DJ order keys (upd at_ (rd keys (rd order m)) (rd at_ (rd keys (rd order m))+1)) (upd l (rd at_ (rd keys (rd order m))) (rd order m)) k (m+1):=by
 have hi:=hk _ (bN h0 hm);have bc:=h.lt hk h0 hm;have e:order.take (m+1).toNat=order.take m.toNat++[rd order m]:=dH h0 hm;have sk:=h.at_ _ hi.1 hi.2;refine⟨by rw[bD];exact h.len,by rw[bD];exact h.alen,λc c0 c1=> ?_,λc c0 c1 t t0 t1=> ?_⟩
 ·rw [fV hi.1 c0 (by rw[h.alen];omega),e];by_cases hc:c=rd keys (rd order m)
  ·rw [df hc,sk,lK hc.symm,ah,hc];simp only[gq];omega
  ·rw[bu hc,h.at_ c c0 c1,nT λh=>hc h.symm]
 ·rw [e] at t1 ⊢;have Ml: ∀c:Int,(dX (order.take m.toNat++[rd order m]) keys c).length<=(dX order keys c).length:=λc=>by rw[<-e];exact yD _ _ _ _
  rw[fV bc.1 G bc.2,sk];by_cases hc:c=rd keys (rd order m)
  ·subst hc;rw[lK rfl] at t1 ⊢;rw[ah,gq] at t1;by_cases ht:t=(dX (order.take m.toNat) keys (rd keys (rd order m))).length
   ·rw[df G,OM ht]
   ·rw [bu G,KN t0 G];exact h.row _ c0 c1 t t0 G
  ·rw [nT λh=>hc h.symm] at t1 ⊢;rw[bu,h.row c c0 c1 t t0 t1];intro g7;have f1:=Ml c;rw[nT λh=>hc h.symm] at f1;have f2:=Ml (rd keys (rd order m));rw[lK rfl,ah,gq] at f2;rcases Int.lt_or_lt_of_ne hc with a|a
   ·have:=yV order keys (c:=c.toNat) (d:=(rd keys (rd order m)).toNat) G;rw[show((c.toNat:Nat):Int)=c by omega] at this;omega
   ·have:=yV order keys (c:=(rd keys (rd order m)).toNat) (d:=c.toNat) G;rw[show(((rd keys (rd order m)).toNat:Nat):Int)=rd keys (rd order m) by omega] at this;omega
theorem DJ.done {order:List Int} (h:DJ order keys at_ l k m) (hk: ∀i∈order,0<=rd keys i/\rd keys i<k) (hm:m=order.length):l=dC order keys k.toNat:=by
 have ht:order.take m.toNat=order:=bn G
 have:=ZB (order:=order) (keys:=keys) (l:=l) k.toNat (by rw[xL hk,h.len];exact di _) λc hc t Vf=>by
  have hr:=h.row c G G t G;rw[ht] at hr;exact hr G
 rw[xL hk,<-h.len,uz] at this;exact this
theorem gV {order keys:List Int} {r:Int->Int->Prop} (ho:order.Pairwise r): ∀k:Nat,(dC order keys k).Pairwise λx y=>rd keys x<rd keys y\/rd keys x=rd keys y/\r x y
 |0=> .nil
 | k +1=>by
  rw[dC];refine kz.2 ⟨gV ho k,?_,λx hx y hy=> ?_⟩
  ·refine ((ho.sublist (uj ..)).imp_of_mem λ{x y} hx hy h=> ?_:(dX order keys k).Pairwise _);have h1:=(og.1 hx).2;have h2:=(og.1 hy).2;rw[iv] at h1 h2;exact .inr ⟨G,h⟩
  ·have h2:=(og.1 hy).2;rw[iv] at h2
   have: ∀c:Nat,∀z∈dC order keys c,rd keys z<c:=by
    intro c
    induction c with
    |zero=>intro z hz;cases hz
    | succ c ih=>
     intro z hz;rw[dC] at hz;rcases gp.1 hz with hz|hz
     ·have:=ih z hz;omega
     ·have h3:=(og.1 hz).2;rw[iv] at h3;omega
   have:=this k x hx;exact .inl G
theorem MU:0<=rd (eD ks k) x/\rd (eD ks k) x<=ks.length:=by
 by_cases h:x.toNat<k.toNat
 ·have e:rd (eD ks k) x=((ks.filter λy=>decide (y=(x.toNat:Int))).length:Int):=by
   unfold rd eD;rw[ai,sj,Af h];rfl
  have:=zm (λy=>decide (y=(x.toNat:Int))) ks;omega
 ·have e:rd (eD ks k) x=0:=by
   unfold rd;rw[ai,mf (by rw[dY];omega)];rfl
  omega
theorem yO: ∀ {L:List Int},(∀x∈L,0<=x)->0<=L.sum
 |[],_=>cD
 |x::L,h=>by
  have a:=h x cD;have b:=yO (L:=L) λy hy=>h y (ek _ hy);rw[yj];omega
theorem vU {L:List Int} (h: ∀x∈L,0<=x) (k:Int):0<=ps L k/\ps L k<=L.sum:=by
 have e:L.sum=(L.take k.toNat).sum+(L.drop k.toNat).sum:=by rw[<-Cm,gu]
 have a:=yO (L:=L.take k.toNat) λy hy=>h y (lv hy);have b:=yO (L:=L.drop k.toNat) λy hy=>h y (pg hy);unfold ps;omega
theorem lY (ks:List Int) (k:Int): ∀x∈eD ks k,0<=x:=by
 intro x hx;obtain⟨c,_,rfl⟩:=iy.1 hx;omega
theorem MS {order:List Int} (h0:0<=k) (hk: ∀i∈order,0<=rd keys i/\rd keys i<k):(eD (order.map (rd keys)) k).sum=order.length:=by
 have:=EK order keys (k:=k) k.toNat G;rw[aEf (by rw[dY];omega),xL hk] at this;exact this
theorem eX {V:List Int} {f:Int->Int} {v:Int} (h0:0<=i) (hi:i<V.length) (h: ∀j:Int,0<=j->j<i->rd V j=f j) (hv:v=f i): ∀j:Int,0<=j->j<i+1->rd (upd V i v) j=f j:=by
 intro j j0 j1;rw[fV h0 j0 hi];by_cases e:j=i
 ·rw[df e,e,hv]
 ·rw [bu e];exact h j j0 G
variable {n k b h:Nat} {x i y j:Int} {s U out:List Int}
def iota (n:Nat):List Int:=(List.range n).map λi:Nat=>(i:Int)
theorem bI (n:Nat):(iota n).length=n:=by simp[iota]
theorem bE:x∈iota n↔0<=x/\x<n:=by
 unfold iota;rw[iy];constructor
 ·rintro ⟨i,hi,rfl⟩;have:=jq.1 hi;omega
 ·intro h;exact⟨x.toNat,jq.2 G,G⟩
theorem ER {n:Int} (h:0<=n):iota (n+1).toNat=iota n.toNat++[n]:=by
 unfold iota;rw[show(n+1).toNat=n.toNat+1 by omega,zq,jo];simp only[lm,ry];rw[show((n.toNat:Nat):Int)=n by omega]
theorem aFd (n:Nat):(iota n).map Int.toNat=List.range n:=by
 unfold iota;rw[yz];have:(Int.toNat ∘ λi:Nat=>(i:Int))=id:=by funext i;simp
 rw[this,List.map_id]
def bX (s:List Int) (x y:Int):Prop:=LtH s.length (eu s x.toNat) (eu s y.toNat)
theorem fZ (x y:Int) (h:bX s x y): ¬bX s y x:=h.asymm
theorem yX (x y z:Int) (h:bX s x y) (h':bX s y z):bX s x z:=LtH.trans h h'
theorem aFo {i:Nat} (hi:i<s.length) (hk:k<s.length) (h:EqH s.length (eu s i) (eu s k)):i=k:=by
 rcases xx i k with a|a|a
 ·have:=h (s.length-k) G;rw[jE (s:=s) (i:=k) G] at this;have:=rQ (s:=s) (i:=i) (d:=s.length-k) G;omega
 ·exact a
 ·have:=h (s.length-i) G;rw[jE (s:=s) (i:=i) G] at this;have:=rQ (s:=s) (i:=k) (d:=s.length-i) G;omega
theorem BI (hx:0<=x/\x<s.length) (hy:0<=y/\y<s.length) (h:x≠y):bX s x y\/bX s y x:=by
 rcases tri s.length (eu s x.toNat) (eu s y.toNat) with a|a|a
 ·exact .inl a
 ·have:=aFo G G a;omega
 ·exact .inr a
theorem gT:cmpL (s.drop x.toNat) (s.drop y.toNat)<0↔bX s x y:=by
 unfold bX;rw[<-wP];unfold sK;rw[bn (by rw[ay];omega),bn (by rw[ay];omega)]
theorem aAa {r:Int->Int->Prop} (tr: ∀x y z,r x y->r y z->r x z) {l:List Int} (hs:l.Pairwise r) (tz:0<=j) (hj:j<=l.length) (vf: ∀i:Int,j<=i->i<l.length->r x (rd l i)) (h:0<j->r (rd l (j-1)) x):(l.take j.toNat++[x]++l.drop j.toNat).Pairwise r:=by
 have ij: ∀i:Nat,∀h:i<l.length,rd l i=l[i]:=λi h=>by
  unfold rd;rw[cu,ai,av h];rfl
 have ef:(l.take j.toNat++l.drop j.toNat).Pairwise r:=by rw[gu];exact hs
 obtain⟨a,b,c⟩:=kz.1 ef;refine kz.2 ⟨kz.2 ⟨a,qa _ _,λy hy z hz=> ?_⟩,b,λy hy z hz=> ?_⟩
 ·obtain rfl:=ib.1 hz;obtain⟨i,hi,rfl⟩:=gz.1 hy;rw[ax] at hi;rw[ym];have hl:=h G;rw[show j-1=((j.toNat-1:Nat):Int) by omega,ij _ G] at hl;rcases fe i (j.toNat-1) with d|d
  ·exact tr _ _ _ (dn.1 hs i (j.toNat-1) G G d) hl
  ·have:i=j.toNat-1:=G
   subst this;exact hl
 ·rcases gp.1 hy with hy|hy
  ·exact c y hy z hz
  ·obtain rfl:=ib.1 hy;obtain⟨i,hi,rfl⟩:=gz.1 hz;rw[ay] at hi;rw[Be];have:=vf ((j.toNat+i:Nat):Int) G G;rwa[ij _ G] at this
theorem aUw (ar:0<=i) (hi:i<s.length) (hp:U.Perm (iota i.toNat)) (hs:U.Pairwise (bX s)) (tz:0<=j) (hj:j<=U.length) (vf: ∀q:Int,j<=q->q<U.length->bX s i (rd U q))
  (h: ¬(0<j/\cmpL (s.drop i.toNat) (s.drop (rd U (j-1)).toNat)<0)):(U.take j.toNat++[i]++U.drop j.toNat).Perm (iota (i+1).toNat)/\(U.take j.toNat++[i]++U.drop j.toNat).Pairwise (bX s):=by
 refine⟨?_,aAa (λx y z=>yX x y z) hs tz hj vf λh0=> ?_⟩
 ·rw [ER ar];exact ZZ.trans (Dc _ hp)
 ·have hm:=bE.1 (hp.subset (bN (L:=U) (k:=j-1) G G));rcases BI (s:=s) (x:=rd U (j-1)) (y:=i) G G G with a|a
  ·exact a
  ·exact absurd ⟨h0,gT.2 a⟩ h
theorem aNr (vf: ∀q:Int,j<=q->q<U.length->bX s i (rd U q)) (h:0<j/\cmpL (s.drop i.toNat) (s.drop (rd U (j-1)).toNat)<0): ∀q:Int,j-1<=q->q<U.length->bX s i (rd U q):=by
 intro q h1 h2;rcases bi q j with a|a
 ·have:q=j-1:=G
  subst this;exact gT.1 h.2
 ·exact vf q a h2
theorem aEl {a b:List Int} (ha:a.Perm (iota s.length)) (hb:b.Perm (iota s.length)) (sa:a.Pairwise (bX s)) (sb:b.Pairwise (bX s)):a=b:=
 EM fZ (ha.trans hb.symm) sa sb
theorem AU {i:Nat} (hi:i<s.length):rkS s h i<s.length:=by
 have:rkS s h i<(List.range s.length).countP λ_=>true:=rT (λ_ _ _=>rfl) ⟨i,jq.2 hi,by rw[uo,wP];exact λh=>h.asymm h,rfl⟩;simpa using this
theorem aZx {i:Nat} (hi:i<s.length) (hk:k<s.length) (h:rkS s s.length i=rkS s s.length k):i=k:=aFo hi hk ((aIb hi hk).1 h)
theorem aIa {o:List Int} (hp:o.Perm (iota s.length)) (hs:o.Pairwise λx y=>rkS s h x.toNat<=rkS s h y.toNat) (h0:0<=i) (hi:i<o.length) (Oi:0<i->rkS s h (rd o (i-1)).toNat≠rkS s h (rd o i).toNat):(rkS s h (rd o i).toNat:Int)=i:=by
 have ij: ∀j:Nat,∀h:j<(o.map Int.toNat).length,(o.map Int.toNat)[j]=(rd o j).toNat:=λj h=>by
  rw[bz] at h;unfold rd;rw[cu,ai,av h];simp
 have hl:i.toNat<(o.map Int.toNat).length:=by rw[bz];omega
 have ci:(o.map Int.toNat).Perm (List.range s.length):=by
  have:=hp.map Int.toNat;rwa[aFd] at this
 have:=bGa (s:=s) (h:=h) (o:=o.map Int.toNat) (i:=i.toNat) ci (iw.2 hs) hl λhz=>by
  rw[ij _ G,ij _ hl];have:=Oi G;rwa[show((i.toNat-1:Nat):Int)=i-1 by omega,show((i.toNat:Nat):Int)=i by omega]
 rw[ij _ hl,show((i.toNat:Nat):Int)=i by omega] at this;omega
theorem places {b:List Int} (hp:b.Perm (iota s.length)) (hs:b.Pairwise (bX s)) (hl:out.length=s.length) (h: ∀i:Nat,i<s.length->rd out (rkS s s.length i)=i):out=b:=by
 have f9:b.length=s.length:=by rw[hp.length_eq,bI]
 refine bQ (hl.trans f9.symm) λj h0 h1=> ?_;have hm: ∀q:Int,0<=q->q<b.length->0<=rd b q/\rd b q<s.length:=λq a c=>bE.1 (hp.subset (bN a c))
 have ph:b.Pairwise λx y=>rkS s s.length x.toNat<=rkS s s.length y.toNat:=hs.imp_of_mem λ{x y} hx hy h=>by
  have:=bE.1 (hp.subset hx);exact Nat.le_of_lt ((vP G).2 h)
 have bc: ∀q:Int,0<q->q<b.length->bX s (rd b (q-1)) (rd b q):=λq a c=>by
  have:=dn.1 hs (q-1).toNat q.toNat G G G;unfold rd;rw[ai,ai,av G,av G];exact this
 have hr:=aIa (i:=j) hp ph h0 G λhz=>by
  have:=(vP (by have:=hm (j-1) G G;omega)).2 (bc j hz G);omega
 have hj:=hm j h0 G;have:=h (rd b j).toNat G;rw[hr] at this;rw[this];omega
theorem YT {m:Nat} (hm:m<s.length) (hl:out.length=s.length) (h: ∀i:Nat,i<m->rd out (rkS s s.length i)=i): ∀i:Nat,i<m+1->rd (upd out (rkS s s.length m) m) (rkS s s.length i)=i:=by
 intro i hi;have ht:=AU (h:=s.length) hm;rw[fV G G G];by_cases e:i=m
 ·subst e;rw[df rfl]
 ·rw[bu λhh=>e (aZx G hm G),h i G]
theorem bFz {i:Nat} (hi:i<s.length):rkS s 1 i=s.countP λx=>decide (x<lt s i):=by
 unfold rkS
 have e: ∀k,k<s.length->sK s k 1=[lt s k]:=λk hk=>by
  unfold sK;rw[ku hk,Ff,xw];unfold lt;rw[ai,av hk];rfl
 have h1:(List.range s.length).countP (λk=>decide (cmpL (sK s k 1) (sK s i 1)<0))=(List.range s.length).countP ((λx=>decide (x<lt s i)) ∘ lt s):=by
  refine Gr λk hk=> ?_;rw[e k (jq.1 hk),e i hi];show decide (cmpL [lt s k] [lt s i]<0)=true↔decide (lt s k<lt s i)=true;rw[iv,iv];simp only[cmpL];by_cases a:lt s k<lt s i
  ·rw [df a];exact⟨λ_=>a,λ_=>G⟩
  ·rw [bu a];by_cases b:lt s i<lt s k
   ·rw [df b];exact⟨λh=>G,λh=>absurd h a⟩
   ·rw [bu b];exact⟨λh=>G,λh=>absurd h a⟩
 rw[h1,<-List.countP_map];congr 1;apply wz cD;intro k h1 h2;simp[lt,ai,av h2]
def rkL (s:List Int) (h:Nat):List Int:=(List.range s.length).map λi=>(rkS s h i:Int)
theorem AY (s:List Int) (h:Nat):(rkL s h).length=s.length:=by simp[rkL]
theorem qI (h0:0<=i) (hi:i<s.length):rd (rkL s h) i=rkS s h i.toNat:=iB h0 G
def onL (s:List Int) (n b:Nat):List Int:=(List.range s.length).map λi=>(rY s n (i+b):Int)
theorem aIq (s:List Int) (n b:Nat):(onL s n b).length=s.length:=by simp[onL]
theorem vQ (h0:0<=i) (hi:i<s.length):rd (onL s n b) i=rY s n (i.toNat+b):=iB h0 G
theorem aIc {i:Nat}:rY s n i<=s.length:=by
 unfold rY;split
 ·rename_i h;have:=AU (h:=n) h;omega
 ·omega
def dF (s:List Int) (n b:Nat):List Int:=dC (dC (iota s.length) (onL s n b) (s.length+1)) (rkL s n) s.length
theorem uF (s:List Int) (n b:Nat):(dC (iota s.length) (onL s n b) (s.length+1)).Perm (iota s.length):=
 nN λi hi=>by
  have:=bE.1 hi;rw[vQ this.1 this.2];have:=aIc (s:=s) (n:=n) (i:=i.toNat+b);omega
theorem gB (s:List Int) (n b:Nat):(dF s n b).Perm (iota s.length):=
 (nN λi hi=>by
  have:=bE.1 ((uF s n b).subset hi);rw[qI this.1 this.2];have:=AU (s:=s) (h:=n) (i:=i.toNat) G
  omega).trans (uF s n b)
theorem FZ (hn:0<n) (hb:b<=n):(dF s n b).Pairwise λx y=>rkS s (n+b) x.toNat<=rkS s (n+b) y.toNat:=by
 have h1:(dC (iota s.length) (onL s n b) (s.length+1)).Pairwise λx y=>rd (onL s n b) x<rd (onL s n b) y\/rd (onL s n b) x=rd (onL s n b) y/\True:=
  gV (r:=λ_ _=>True) (List.pairwise_of_forall λ_ _=>trivial) _
 have h2:=gV (keys:=rkL s n) h1 s.length;refine h2.imp_of_mem λ{x y} hx hy h=> ?_;have mx:=bE.1 ((gB s n b).subset hx);have my:=bE.1 ((gB s n b).subset hy);rw[qI mx.1 mx.2,qI my.1 my.2,vQ mx.1 mx.2,vQ my.1 my.2] at h;refine Io.1 λbc=> ?_;rw[aDu hn hb G G] at bc;omega
theorem join_step {v:Int} (hn:0<n) (hb:b<=n) (h0:0<=i) (hi:i<s.length) (hl:out.length=s.length) (h: ∀p:Int,0<=p->p<i->rd out (rd (dF s n b) p)=rkS s (n+b) (rd (dF s n b) p).toNat)
  (hv:(0<i/\rd (rkL s n) (rd (dF s n b) (i-1))=rd (rkL s n) (rd (dF s n b) i)/\rd (onL s n b) (rd (dF s n b) (i-1))=rd (onL s n b) (rd (dF s n b) i)/\v=rkS s (n+b) (rd (dF s n b) (i-1)).toNat)\/
   (¬(0<i/\rd (rkL s n) (rd (dF s n b) (i-1))=rd (rkL s n) (rd (dF s n b) i)/\rd (onL s n b) (rd (dF s n b) (i-1))=rd (onL s n b) (rd (dF s n b) i))/\v=i)):
  ∀p:Int,0<=p->p<i+1->rd (upd out (rd (dF s n b) i) v) (rd (dF s n b) p)=rkS s (n+b) (rd (dF s n b) p).toNat:=by
 have hlen:(dF s n b).length=s.length:=by rw[(gB s n b).length_eq,bI]
 have hm: ∀q:Int,0<=q->q<s.length->0<=rd (dF s n b) q/\rd (dF s n b) q<s.length:=λq a c=>bE.1 ((gB s n b).subset (bN a G))
 have hnd:(dF s n b).Nodup:=(gB s n b).symm.nodup (by
  unfold iota
  exact iw.2 (xc.imp λ{x y} h hh=>h G))
 have hval:v=rkS s (n+b) (rd (dF s n b) i).toNat:=by
  have mi:=hm i h0 hi;rcases hv with⟨hz,e1,e2,e3⟩|⟨mw,e3⟩
  ·have mp:=hm (i-1) G G;rw[qI mp.1 mp.2,qI mi.1 mi.2] at e1;rw[vQ mp.1 mp.2,vQ mi.1 mi.2] at e2;rw[e3];have:=(KE (s:=s) (n:=n) (b:=b) (i:=(rd (dF s n b) (i-1)).toNat) (k:=(rd (dF s n b) i).toNat) hn hb G G).2 ⟨G,G⟩;omega
  ·rw [e3];refine(aIa (gB s n b) (FZ hn hb) h0 G λhz he=>mw ⟨hz,?_⟩).symm;have mp:=hm (i-1) G G;have:=(KE (s:=s) (n:=n) (b:=b) (i:=(rd (dF s n b) (i-1)).toNat) (k:=(rd (dF s n b) i).toNat) hn hb G G).1 he;rw[qI mp.1 mp.2,qI mi.1 mi.2,vQ mp.1 mp.2,vQ mi.1 mi.2];exact⟨G,G⟩
 intro p p0 p1;have mi:=hm i h0 hi;have mp:=hm p p0 G;rw[fV mi.1 mp.1 G];by_cases e:p=i
 ·subst e;rw[df rfl,hval]
 ·rw [bu,h p p0 G];intro he;have ci:p.toNat<(dF s n b).length:=G
  have Mm:i.toNat<(dF s n b).length:=G
  unfold rd at he;rw[ai,ai,av ci,av Mm] at he;simp only[nz] at he;exact(dn.1 hnd p.toNat i.toNat ci Mm G) he
theorem aNo (hl:out.length=s.length) (h: ∀p:Int,0<=p->p<s.length->rd out (rd (dF s n b) p)=rkS s (n+b) (rd (dF s n b) p).toNat):out=rkL s (n+b):=by
 refine bQ (hl.trans (AY _ _).symm) λj h0 h1=> ?_;have fi:=(gB s n b).symm.subset (bE.2 ⟨h0,G⟩:j∈iota s.length);obtain⟨q,hq,e⟩:=gz.1 fi;have hlen:(dF s n b).length=s.length:=by rw[(gB s n b).length_eq,bI]
 have:=h q G G
 have e2:rd (dF s n b) q=j:=by
  unfold rd;rw[cu,ai,av hq];exact e
 rw[e2] at this;rw[this,qI h0 G]
def onF (l:List Int) (i h:Int):Int:=if (l.length:Int)<=i+h then 0 else rd l (i+h)+1
theorem bGp {s:List Int} {n b:Nat} {i:Int} (h0:0<=i) (hi:i<s.length):onF (rkL s n) i b=rY s n (i.toNat+b):=by
 unfold onF rY;rw[AY];by_cases h:(s.length:Int)<=i+b
 ·rw [df h,bu G];rfl
 ·rw [bu h,df G,qI G G,show(i+(b:Int)).toNat=i.toNat+b by omega];rfl
theorem aRz {s:List Int} {h:Nat}: ∀x∈rkL s h,0<=x/\x<s.length:=by
 intro x hx;obtain⟨i,hi,rfl⟩:=iy.1 hx;have:=AU (h:=h) (jq.1 hi);omega
theorem bGo {s:List Int} {n b:Nat}: ∀x∈onL s n b,0<=x/\x<(s.length:Int)+1:=by
 intro x hx;obtain⟨i,hi,rfl⟩:=iy.1 hx;have:=aIc (s:=s) (n:=n) (i:=i+b);omega
theorem aIy {O:List Int} {n:Nat} (hl:O.length=n) (h: ∀j:Int,0<=j->j<n->rd O j=j):O=iota n:=by
 refine bQ (by rw[hl,bI]) λj h0 h1=> ?_;rw[h j h0 G];unfold iota;rw[iB h0 G];omega
theorem bGn {s O:List Int} {n b:Nat} (hl:O.length=s.length) (h: ∀j:Int,0<=j->j<s.length->rd O j=rY s n (j.toNat+b)):O=onL s n b:=by
 refine bQ (by rw[hl,aIq]) λj h0 h1=> ?_;rw[h j h0 G,vQ h0 G]
theorem RD (s:List Int) (n b:Nat):(dF s n b).length=s.length:=by rw[(gB s n b).length_eq,bI]
theorem gD {s:List Int} {n b:Nat} {p:Int} (h0:0<=p) (h:p<s.length):0<=rd (dF s n b) p/\rd (dF s n b) p<s.length:=
 bE.1 ((gB s n b).subset (bN h0 (by rw[RD];exact h)))
theorem aNp {s:List Int} {n b:Nat} {p q:Int} (p0:0<=p) (p1:p<s.length) (q0:0<=q) (q1:q<s.length) (h:rd (dF s n b) p=rd (dF s n b) q):p=q:=by
 have hl:=RD s n b
 have hnd:(dF s n b).Nodup:=(gB s n b).symm.nodup (by
  unfold iota
  exact iw.2 (xc.imp λ{x y} h hh=>h G))
 have hp:p.toNat<(dF s n b).length:=G
 have hq:q.toNat<(dF s n b).length:=G
 unfold rd at h;rw[ai,ai,av hp,av hq] at h;simp only[nz] at h;rcases jd p q with a|a|a
 ·exact absurd h (dn.1 hnd p.toNat q.toNat hp hq G)
 ·exact a
 ·exact absurd h.symm (dn.1 hnd q.toNat p.toNat hq hp G)
theorem aYy {l:List Int} {i a b:Int}:upd (upd l i a) i b=upd l i b:=by simp[upd]
section
variable {s V:List Int} {n b:Nat} {p:Int}
theorem aFc (hn:0<n) (hb:b<=n) (h0:0<=p) (hp:p<s.length) (hl:V.length=s.length) (h: ∀q:Int,0<=q->q<p->rd V (rd (dF s n b) q)=rkS s (n+b) (rd (dF s n b) q).toNat)
  (hc: ¬((0<p/\rd (rkL s n) (rd (dF s n b) (p-1))=rd (rkL s n) (rd (dF s n b) p))/\rd (onL s n b) (rd (dF s n b) (p-1))=rd (onL s n b) (rd (dF s n b) p))):
  ∀q:Int,0<=q->q<p+1->rd (upd V (rd (dF s n b) p) p) (rd (dF s n b) q)=rkS s (n+b) (rd (dF s n b) q).toNat:=
 join_step hn hb h0 hp hl h (.inr ⟨λ⟨a,c,d⟩=>hc ⟨⟨a,c⟩,d⟩,rfl⟩)
theorem aNn (hn:0<n) (hb:b<=n) (h0:0<=p) (hp:p<s.length) (hl:V.length=s.length) (h: ∀q:Int,0<=q->q<p->rd V (rd (dF s n b) q)=rkS s (n+b) (rd (dF s n b) q).toNat)
  (hc:(0<p/\rd (rkL s n) (rd (dF s n b) (p-1))=rd (rkL s n) (rd (dF s n b) p))/\rd (onL s n b) (rd (dF s n b) (p-1))=rd (onL s n b) (rd (dF s n b) p)):
  ∀q:Int,0<=q->q<p+1->rd (upd (upd V (rd (dF s n b) p) p) (rd (dF s n b) p) (rd (upd V (rd (dF s n b) p) p) (rd (dF s n b) (p-1)))) (rd (dF s n b) q)=rkS s (n+b) (rd (dF s n b) q).toNat:=by
 obtain⟨⟨a,c⟩,d⟩:=hc;have m1:=gD (s:=s) (n:=n) (b:=b) h0 hp;have m2:=gD (s:=s) (n:=n) (b:=b) (p:=p-1) G G;rw[aYy,fV m1.1 m2.1 G,bu λe=>by have:=aNp G G h0 hp e;omega];exact join_step hn hb h0 hp hl h (.inl ⟨a,c,d,h (p-1) G G⟩)
end
theorem aZv (s:List Int) (i:Nat):rkS s 0 i=0:=by
 unfold rkS;rw[Bz];intro k _;simp[sK,cmpL]
theorem aRx (s:List Int):rkL s 0=List.replicate s.length 0:=by
 unfold rkL;apply wz cD;intro i h1 h2;simp[aZv]
theorem bGb {s:List Int} {h:Nat} (hh:s.length<=h):rkL s h=rkL s s.length:=by
 have e: ∀k,sK s k h=sK s k s.length:=λk=>by
  unfold sK;rw[bn (by rw[ay];omega),bn (by rw[ay];omega)]
 unfold rkL rkS;simp only[e]
theorem aRy {s:List Int} (h:s.length=0) (a b:Nat):rkL s a=rkL s b:=by
 unfold rkL;rw[h];rfl
theorem eO (n:Nat):(iota n).Nodup:=by
 unfold iota;exact iw.2 (xc.imp λ{x y} h hh=>h G)
theorem pJ (s:List Int): ∃b:List Int,b.Perm (iota s.length)/\b.Pairwise (bX s):=by
 rcases dz s.length with z|z
 ·rw [z];exact⟨[], .refl _, .nil⟩
 ·refine ⟨dF s s.length 0,gB s _ 0,?_⟩;have h1:=FZ (s:=s) (n:=s.length) (b:=0) z (uf _);have h2:(dF s s.length 0).Nodup:=(gB s _ 0).symm.nodup (eO _);refine(h1.and h2).imp_of_mem λ{x y} hx hy h=> ?_;have mx:=bE.1 ((gB s _ 0).subset hx);have my:=bE.1 ((gB s _ 0).subset hy);rcases BI mx my h.2 with a|a
  ·exact a
  ·exfalso;have:=(vP (s:=s) (h:=s.length) (i:=y.toNat) (k:=x.toNat) G).2 a;have:=h.1;simp only[qm] at this;omega
end Go.Pure
namespace Go.Eng
open Go Go.RowKit
def bools (l:List Bool):List Value:=l.map Value.bool
def rdb (l:List Bool) (i:Int):Bool:=l.getD i.toNat false
def qB (l:List Bool) (i:Int) (v:Bool):List Bool:=l.set i.toNat v
theorem VO (l:List Bool):(bools l).length=l.length:=by simp[bools]
theorem aPh (l:List Bool) (i:Int) (v:Bool):(bools l).set i.toNat (.bool v)=bools (qB l i v):=by simp[bools,qB,List.map_set]
theorem aXu {l:List Bool} {i:Int} (h0:0<=i) (h:i<l.length):(bools l)[i.toNat]? =some (.bool (rdb l i)):=by
 have hl:i.toNat<l.length:=G
 simp[bools,rdb,ai,av hl]
theorem aLy (m:Nat) (x:Bool):List.replicate m (Value.bool x)=bools (List.replicate m x):=by simp[bools]
theorem lC (l:List Bool) (i:Int) (v:Bool):(qB l i v).length=l.length:=by simp[qB]
theorem xI {l:List Bool} {i j:Int} {v:Bool} (h0:0<=i) (h:i<l.length) (j0:0<=j):rdb (qB l i v) j=if j=i then v else rdb l j:=by
 unfold rdb qB;rw[ai,xq,ai];by_cases e:j=i
 ·subst e;rw[df rfl,df G,df rfl];rfl
 ·rw[bu G,bu e]
theorem IL (m:Nat) (i:Int):rdb (List.replicate m false) i=false:=by
 unfold rdb;rw[ai,Ai];split<;>rfl
theorem aPi {l m:List Bool} (hl:l.length=m.length) (h: ∀i:Int,0<=i->i<l.length->rdb l i=rdb m i):l=m:=by
 apply wz hl;intro i h1 h2;have:=h i G G;simpa [rdb,ai,av h1,av h2] using this
section
variable {P:Program} {n:Nd} {B:Nat} {w0:World} {L:Env} {R:List Row} {ty:TypeId}
theorem Rd.lenB {w:World} {A:Option Addr} {m c:Nat} {l:List Bool} (h:Rd w A m c 1 (bools l)):m=l.length:=by
 have:=h.len;rw[VO] at this;omega
theorem FJ {x:Operand} {t:TypeId} {d:TypeDesc} {A:Option Addr} {m c:Nat} {l:List Bool} {i:Int} (hu:P.underlying t=some d) (hd:DC d=false) (hx:ev L x=some (.pointer (pat A i.toNat))) (hr:RdC B w0 R A m c 1 (bools l)) (h0:0<=i:=by omega) (h1:i<m:=by omega):
  Yl P n B w0 (.load t x) ty L R (.bool (decide (rdb l i=true))):=by
 intro a w o ho i7 hs hw;have hl:=(hr w hw).lenB;rw[show decide (rdb l i=true)=rdb l i by cases rdb l i<;>rfl];exact qV hu hd hx rfl hr (aXu h0 G) a w o ho i7 hs hw
theorem wU {x y:Operand} {t e:TypeId} {j:Int} {v:Bool} {A:Option Addr} {m c:Nat} {l:List Bool} (i:Nat) (hi:R[i]? =some ⟨e,1,A,m,c,bools l,false⟩) (gv:(P.info? t).map (·.size)=some 1) (hx:ev L x=some (.pointer (pat A j.toNat))) (hy:ev L y=some (.bool v)) (h0:0<=j:=by omega) (h1:j<m:=by omega):
  Ac P n B w0 (.store t x y) ty L R (λ_ R'=>R'=R.set i ⟨e,1,A,m,c,bools (qB l j v),false⟩):=by
 intro a w o K Q ho i7 hs hp hk;have gr:=Row.lies_w (hp.own _ (gm hi)) rfl;have ij:=Row.rd (hp.own _ (gm hi));have hl:=ij.len
 obtain⟨g,hA⟩: ∃g,A=some ⟨g,0,none⟩:=by
  rcases gr.2 with⟨_,hn⟩|⟨g,cap,cur,hv,_⟩
  ·simp only at hn;omega
  ·simp only[kv] at hv;exact⟨g,hv.1⟩
 have:=VU (P:=P) (n:=n) (B:=B) (w0:=w0) (ty:=ty) i hi rfl hA gv hx rfl hy rfl rfl (by rw[hl];simp only;omega);simp only[aPh] at this;exact this a w o K Q ho i7 hs hp hk
theorem VV {x y:Operand} {t e:TypeId} {bytes:Nat} {m:Int} (ht:P.underlying t=some (.slice e)) (db:(P.info? e).map (λi=>(i.zero,i.size,i.bytes))=some (some (.bool false),1,bytes))
  (hx:ev L x=some (.int .i64 m)) (hy:ev L y=some (.int .i64 m)) (h0:0<=m) (hm:m*bytes<=281474976710656) (Ix:m<=9223372036854775807):
  Ac P n B w0 (.makeSlice t x y) ty L R (λv R'=> ∃g,v= .slice (some ⟨g,0,none⟩) m.toNat m.toNat/\R'=⟨e,1,some ⟨g,0,none⟩,m.toNat,m.toNat,bools (List.replicate m.toNat false),false⟩::R):=by
 have:=aKi (P:=P) (n:=n) (B:=B) (w0:=w0) (L:=L) (R:=R) (ty:=ty) ht db rfl hx hy h0 hm Ix;simpa only[aLy] using this
end
end Go.Eng
namespace Go.Pure
open Go Go.Eng
def smB (s:List Int) (i:Int):Bool:=decide (cmpL (s.drop i.toNat) (s.drop (i+1).toNat)<0)
theorem yG {a b:Int} {u v:List Int}:cmpL (a::u) (b::v)<0↔a<b\/a=b/\cmpL u v<0:=by
 rw[cmpL];rcases jd a b with c|c|c
 ·rw[df c];exact⟨λ_=> .inl c,λ_=>G⟩
 ·subst c;rw[bu G,bu G];exact⟨λh=> .inr ⟨rfl,h⟩,λh=>h.elim (λh=>G) λh=>h.2⟩
 ·rw [bu G,df c];exact⟨λh=>G,λh=>h.elim (λh=>G) λh=>G⟩
theorem gK {s:List Int} {i:Int} (h0:0<=i) (h:i<s.length):s.drop i.toNat=rd s i::s.drop (i+1).toNat:=iT h0 h
theorem wM {s:List Int} {i:Int} (h:(s.length:Int)<=i):s.drop i.toNat=[]:=oq G
theorem mV {s:List Int} {p q:Int} (p0:0<=p) (hp:p<s.length) (q0:0<=q) (hq:q<s.length):bX s p q↔rd s p<rd s q\/rd s p=rd s q/\cmpL (s.drop (p+1).toNat) (s.drop (q+1).toNat)<0:=by
 rw[<-gT,gK p0 hp,gK q0 hq,yG]
theorem qF {s:List Int} {i:Int} (h0:0<=i) (h:(s.length:Int)<=i+1):smB s i=false:=by
 unfold smB;rw[wM h,uo];by_cases a:i<s.length
 ·rw[gK h0 a];simp[cmpL]
 ·rw[wM G];simp[cmpL]
theorem vL {s:List Int} {i:Int} (h0:0<=i) (h:i+1<s.length):smB s i=true↔rd s i<rd s (i+1)\/rd s i=rd s (i+1)/\smB s (i+1)=true:=by
 unfold smB;rw[iv,iv,gK h0 G,gK (s:=s) (i:=i+1) G h,yG]
def isL (s:List Int) (p:Int):Prop:=(0<=p/\p<s.length)/\smB s p=false
def isS (s:List Int) (p:Int):Prop:=(0<=p/\p<s.length)/\smB s p=true
theorem qM {s:List Int} {p:Int} (h:0<=p/\p<s.length):isL s p\/isS s p:=by
 cases e:smB s p with
 |false=>exact .inl ⟨h,e⟩
 |true=>exact .inr ⟨h,e⟩
theorem isL.not_S {s:List Int} {p:Int} (h:isL s p): ¬isS s p:=λh'=>by
 have a:=h'.2;rw[h.2] at a;cases a
theorem isL.next {s:List Int} {p:Int} (h:isL s p) (hp:p+1<s.length):rd s (p+1)<=rd s p/\(rd s p=rd s (p+1)->isL s (p+1)):=by
 have hn: ¬smB s p=true:=by rw[h.2];simp
 rw[vL h.1.1 hp] at hn;refine⟨Int.not_lt.1 λbc=>hn (.inl bc),λe=>⟨⟨by have:=h.1.1;omega,hp⟩,?_⟩⟩;cases e2:smB s (p+1) with
 |false=>rfl
 |true=>exact absurd (.inr ⟨e,e2⟩) hn
theorem isS.next {s:List Int} {p:Int} (h:isS s p):p+1<s.length/\rd s p<=rd s (p+1)/\(rd s p=rd s (p+1)->isS s (p+1)):=by
 have hp:p+1<s.length:=by
  rcases bi (p+1) s.length with a|a
  ·exact a
  ·have:=qF h.1.1 a;rw[h.2] at this;cases this
 have hs:=(vL h.1.1 hp).1 h.2;have h0:=h.1.1;refine⟨hp,G,λe=>⟨⟨G,hp⟩,?_⟩⟩;rcases hs with a|a
 ·omega
 ·exact a.2
theorem FX {s:List Int}: ∀(m:Nat) (p q:Int),s.length-p<=m->isL s p->isS s q->rd s p=rd s q->bX s p q
 |0,p,q,hm,hp,_,_=>by have:=hp.1;omega
 | m+1,p,q,hm,hp,hq,e=>by
  rw[mV hp.1.1 hp.1.2 hq.1.1 hq.1.2];refine .inr ⟨e,?_⟩;obtain⟨yp,Vc,Ps⟩:=hq.next;have q0:=hq.1.1;have p0:=hp.1.1;rcases bi (p+1) s.length with a|a
  ·obtain ⟨pd,vx⟩:=hp.next a;rw[gT (s:=s),mV G a G yp];rcases bi (rd s (p+1)) (rd s (q+1)) with b|b
   ·exact .inl b
   ·have e1:rd s p=rd s (p+1):=G
    have e2:rd s q=rd s (q+1):=G
    have:=FX m (p+1) (q+1) G (vx e1) (Ps e2) G;rw[mV G a G yp] at this;exact this
  ·rw [wM a,gK G yp];simp[cmpL]
theorem aEs {s:List Int} {p q:Int} (hp:isL s p) (hq:isS s q) (e:rd s p=rd s q):bX s p q:=FX (s.length-p).toNat p q G hp hq e
theorem LD {s:List Int} {p q:Int} (p0:0<=p) (hp:p+1<s.length) (q0:0<=q) (hq:q+1<s.length) (e:rd s p=rd s q) (h:bX s (p+1) (q+1)):bX s p q:=by
 rw[mV p0 G q0 G];exact .inr ⟨e,gT.2 h⟩
theorem sD {s:List Int} {p q:Int} (hp:0<=p/\p<s.length) (hq:0<=q/\q<s.length) (h:rd s p<rd s q):bX s p q:=by
 rw[mV hp.1 hp.2 hq.1 hq.2];exact .inl h
theorem aTi {s:List Int} {q:Int} (hn:0<s.length) (q0:0<=q) (hq:q+1<s.length) (e:rd s (s.length-1)=rd s q):bX s (s.length-1) q:=by
 rw[mV G G q0 G];refine .inr ⟨e,?_⟩;rw[wM G,gK G hq];simp[cmpL]
def gF (s:List Int) (i:Int):Bool:=decide (0<i) && smB s i && !smB s (i-1)
theorem mX {s:List Int} {i:Int}:gF s i=true↔0<i/\smB s i=true/\smB s (i-1)=false:=by
 unfold gF;rw[pq,pq,iv];simp only[Bool.not_eq_true',and_assoc]
def bU (s:List Int):List Int:=(iota s.length).filter λi=>gF s i
theorem sJ {s:List Int} {i:Int}:i∈bU s↔(0<=i/\i<s.length)/\gF s i=true:=by
 unfold bU;rw[og,bE]
theorem zA (s:List Int):(bU s).Nodup:=(eO _).sublist uj
theorem nY {α:Type} [DecidableEq α]: ∀ {l m:List α},l.Nodup->(∀x∈l,x∈m)->l.length<=m.length
 |[],_,_,_=>uf _
 | a::l,m,hd,h=>by
  obtain⟨h1,h2⟩:=vw.1 hd;have ha:=h a cD
  have:=nY (l:=l) (m:=m.erase a) h2 λx hx=>by
   have Zi:x≠a:=λe=>h1 (e▸hx);exact(En Zi).2 (h x (ek _ hx))
  rw[Cf ha] at this;have hp:=Di ha;simp only[dh];omega
theorem qJ {α:Type} [DecidableEq α]: ∀ {l m:List α},l.Nodup->(∀x∈l,x∈m)->m.length<=l.length->l.Perm m
 |[],m,_,_,h=>by
  have:m=[]:=ed (by simpa using h);rw[this]
 | a::l,m,hd,h,hl=>by
  obtain⟨h1,h2⟩:=vw.1 hd;have ha:=h a cD;have hp:=Di ha
  have:=qJ (l:=l) (m:=m.erase a) h2 (λx hx=>by
   have Zi:x≠a:=λe=>h1 (e▸hx)
   exact(En Zi).2 (h x (ek _ hx))) (by
   rw[Cf ha];simp only[dh] at hl
   omega)
  exact(this.cons a).trans (List.perm_cons_erase ha).symm
def seg (row:List Int) (a b:Int):List Int:=(List.range (b-a).toNat).map λt:Nat=>rd row (a+t)
theorem aHv (row:List Int) (a b:Int):(seg row a b).length=(b-a).toNat:=by simp[seg]
theorem IU {row:List Int} {a b x:Int}:x∈seg row a b↔ ∃q,a<=q/\q<b/\rd row q=x:=by
 unfold seg;rw[iy];constructor
 ·rintro ⟨t,ht,rfl⟩;have:=jq.1 ht;exact⟨a+t,G,G,rfl⟩
 ·rintro ⟨q,h1,h2,rfl⟩;exact⟨(q-a).toNat,jq.2 G,by rw[show a+((q-a).toNat:Int)=q by omega]⟩
def Once (row:List Int):Prop:= ∀q r:Int,0<=q->q<row.length->0<=r->r<row.length->0<=rd row q->rd row q=rd row r->q=r
theorem QE {row:List Int} (h:Once row) {a b:Int} (ha:0<=a) (hb:b<=row.length) (hp: ∀q,a<=q->q<b->0<=rd row q):(seg row a b).Nodup:=by
 unfold seg;refine iw.2 (ol (λ{x y} hx hy dv he=> ?_) xc);have Zg:=jq.1 hx;have Pz:=jq.1 hy;have:=h (a+x) (a+y) G G G G (hp _ G G) he;exact dv G
section
variable (s:List Int) (k:Int)
def st (c:Int):Int:=ps (eD s k) c
def GR (c:Int):List Int:=(iota s.length).filter λp=>decide (rd s p=c) && !smB s p
def GQ (c:Int):List Int:=(iota s.length).filter λp=>decide (rd s p=c) && smB s p
end
section
variable {s:List Int} {k:Int}
theorem LU {c p:Int}:p∈GR s c↔isL s p/\rd s p=c:=by
 unfold GR isL;rw[og,bE,pq,iv];simp only[Bool.not_eq_true'];exact⟨λ⟨a,b,c⟩=>⟨⟨a,c⟩,b⟩,λ⟨⟨a,c⟩,b⟩=>⟨a,b,c⟩⟩
theorem LQ {c p:Int}:p∈GQ s c↔isS s p/\rd s p=c:=by
 unfold GQ isS;rw[og,bE,pq,iv];exact⟨λ⟨a,b,c⟩=>⟨⟨a,c⟩,b⟩,λ⟨⟨a,c⟩,b⟩=>⟨a,b,c⟩⟩
theorem aZf:st s k 0=0:=rfl
theorem lX (s:List Int):(iota s.length).map (rd s)=s:=by
 refine bQ (by rw[bz,bI]) λj h0 h1=> ?_;rw[bz,bI] at h1;have:(iota s.length).map (rd s)=(List.range s.length).map λi:Nat=>rd s i:=by unfold iota;rw[yz];rfl
 rw[this,iB h0 h1,show((j.toNat:Nat):Int)=j by omega]
theorem kL {c:Int} (h0:0<=c) (h:c<k):st s k (c+1)=st s k c+(GR s c).length+(GQ s c).length:=by
 unfold st;rw[lJ h0 (by rw[dY];omega),BC h0 h]
 have e:(s.filter λx=>decide (x=c)).length=((iota s.length).filter λp=>decide (rd s p=c)).length:=by
  conv=>lhs;rw[<-lX s]
  rw[List.filter_map,bz];rfl
 have e2:((iota s.length).filter λp=>decide (rd s p=c)).length=(GR s c).length+(GQ s c).length:=by
  unfold GR GQ;generalize iota s.length=l
  induction l with
  |nil=>rfl
  | cons a l ih=>
   by_cases h:rd s a=c
   ·cases hb:smB s a with
    |true=>rw[pz (by simpa using h),ll (by simp[hb]),pz (by simp[h,hb])];simp only[dh];omega
    |false=>rw[pz (by simpa using h),pz (by simp[h,hb]),ll (by simp[hb])];simp only[dh];omega
   ·rw [ll (by simpa using h),ll (by simp[h]),ll (by simp[h])];exact ih
 rw[e,e2];omega
theorem kM {c d:Int} (h0:0<=c) (Is:c<d) (hd:d<=k):st s k (c+1)<=st s k d:=by
 obtain⟨m,rfl⟩: ∃m:Nat,d=c+1+m:=⟨(d-c-1).toNat,G⟩
 induction m with
 |zero=>simp
 |succ m ih=>
  have:=ih G G;have e:=kL (s:=s) (k:=k) (c:=c+1+m) G G;rw[show c+1+((m+1:Nat):Int)=c+1+m+1 by omega];omega
theorem fK {c:Int}:0<=st s k c:=(vU (lY s k) c).1
theorem aDj (hk:0<=k) (hs: ∀x∈s,0<=x/\x<k):st s k k=s.length:=by
 unfold st;rw[aEf (by rw[dY];omega)]
 have:=MS (order:=iota s.length) (keys:=s) (k:=k) hk λi hi=>by
  have:=bE.1 hi;exact hs _ (bN this.1 this.2)
 rw[lX,bI] at this;exact this
theorem yB (hk:0<=k) (hs: ∀x∈s,0<=x/\x<k) {c:Int} (h0:0<=c) (h:c<=k):st s k c<=s.length:=by
 rcases bi c k with a|a
 ·have h1:=kL (s:=s) h0 a;have h2:=kM (s:=s) h0 a (lq k);rw[aDj hk hs] at h2;omega
 ·rw [show c=k by omega,aDj hk hs];omega
theorem gL (hk:0<=k) (hs: ∀x∈s,0<=x/\x<k) {q:Int} (q0:0<=q) (hq:q<s.length): ∃c,(0<=c/\c<k)/\st s k c<=q/\q<st s k (c+1):=by
 have Wd: ∀m:Nat,(m:Int)<=k->q<st s k m-> ∃c,(0<=c/\c<k)/\st s k c<=q/\q<st s k (c+1):=by
  intro m
  induction m with
  |zero=>intro _ h;rw[show((0:Nat):Int)=0 from rfl,aZf] at h;omega
  |succ m ih=>
   intro hm h;rcases bi q (st s k m) with a|a
   ·exact ih G a
   ·exact⟨m,G,a,by rw[show((m:Int)+1)=((m+1:Nat):Int) by omega];exact h⟩
 have:=Wd k.toNat G;rw[show((k.toNat:Nat):Int)=k by omega,aDj hk hs] at this;exact this hq
theorem oC {c d q:Int} (c0:0<=c) (ck:c<k) (d0:0<=d) (dk:d<k) (h1:st s k c<=q) (h2:q<st s k (c+1)) (h3:st s k d<=q) (h4:q<st s k (d+1)):c=d:=by
 rcases jd c d with a|a|a
 ·have:=kM (s:=s) c0 a (by omega:d<=k);omega
 ·exact a
 ·have:=kM (s:=s) d0 a (by omega:c<=k);omega
end
end Go.Pure
namespace Go.Pure
open Go Go.Eng
section
variable {s:List Int} {k:Int} {R:Int->Int->Prop}
structure aYq (s:List Int) (R:Int->Int->Prop):Prop where
 char: ∀ {p q:Int},0<=p/\p<s.length->0<=q/\q<s.length->rd s p<rd s q->R p q
 ls: ∀ {p q:Int},isL s p->isS s q->rd s p=rd s q->R p q
 last: ∀ {q:Int},0<s.length->0<=q->q+1<s.length->rd s (s.length-1)=rd s q->isL s q->R (s.length-1) q
 backL: ∀ {p q:Int},isL s p->isL s q->p+1<s.length->q+1<s.length->rd s p=rd s q->R (p+1) (q+1)->R p q
structure uP (s:List Int) (k:Int) (R:Int->Int->Prop) (mF:Int->Int) (row:List Int):Prop where
 len:row.length=s.length
 m0: ∀c,0<=c->c<k->0<=mF c/\mF c<=(GQ s c).length
 some_: ∀c q,0<=c->c<k->st s k (c+1)-mF c<=q->q<st s k (c+1)->isS s (rd row q)/\rd s (rd row q)=c
 none_: ∀c q,0<=c->c<k->st s k c<=q->q<st s k (c+1)-mF c->rd row q= -1
 once:Once row
 all: ∀p:Int,0<=p->p<s.length->gF s p=true-> ∃q:Int,0<=q/\q<s.length/\rd row q=p
 sorted: ∀a b:Int,0<=a->a<b->b<s.length->0<=rd row a->0<=rd row b->R (rd row a) (rd row b)
structure jL (s:List Int) (k:Int) (R:Int->Int->Prop) (mF:Int->Int) (row0 row H:List Int) (C:Int->Prop):Prop where
 len:row.length=s.length
 hlen:H.length=k.toNat
 hH: ∀c,0<=c->c<k->st s k c<=rd H c/\rd H c<=st s k c+(GR s c).length
 placed: ∀c q,0<=c->c<k->st s k c<=q->q<rd H c->isL s (rd row q)/\rd s (rd row q)=c
 rest: ∀c q,0<=c->c<k->rd H c<=q->q<st s k (c+1)->rd row q=rd row0 q
 once:Once row
 closed: ∀p,isL s p->((∃q:Int,0<=q/\q<s.length/\rd row q=p)↔C p)
 sorted: ∀a b:Int,0<=a->a<b->b<s.length->0<=rd row a->0<=rd row b->R (rd row a) (rd row b)
variable (hk:0<=k) (hs: ∀x∈s,0<=x/\x<k) (hR:aYq s R)
theorem nA (hs: ∀x∈s,0<=x/\x<k) {p:Int} (h:0<=p/\p<s.length):0<=rd s p/\rd s p<k:=hs _ (bN h.1 h.2)
variable {mF:Int->Int} {row0 row H:List Int} {C:Int->Prop}
theorem jL.at_ (h:jL s k R mF row0 row H C) (b:uP s k R mF row0) {c q:Int} (c0:0<=c) (ck:c<k) (h1:st s k c<=q) (h2:q<st s k (c+1)):
  (q<rd H c/\isL s (rd row q)/\rd s (rd row q)=c)\/(rd H c<=q/\isS s (rd row q)/\rd s (rd row q)=c)\/(rd H c<=q/\rd row q= -1):=by
 rcases bi q (rd H c) with a|a
 ·exact .inl ⟨a,h.placed c q c0 ck h1 a⟩
 ·rw [h.rest c q c0 ck a h2];rcases bi q (st s k (c+1)-mF c) with d|d
  ·exact .inr (.inr ⟨a,b.none_ c q c0 ck h1 d⟩)
  ·exact .inr (.inl ⟨a,b.some_ c q c0 ck d h2⟩)
include hk hs in
theorem jL.entry (h:jL s k R mF row0 row H C) (b:uP s k R mF row0) {q:Int} (q0:0<=q) (hq:q<s.length):rd row q= -1\/(0<=rd row q/\rd row q<s.length):=by
 obtain⟨c,⟨c0,ck⟩,h1,h2⟩:=gL hk hs q0 hq;rcases h.at_ b c0 ck h1 h2 with a|a|a
 ·exact .inr a.2.1.1
 ·exact .inr a.2.1.1
 ·exact .inl a.2
theorem IE {b:uP s k R mF row0} {c:Int} (c0:0<=c) (ck:c<k):st s k c+(GR s c).length<=st s k (c+1)-mF c:=by
 have:=kL (s:=s) c0 ck;have:=b.m0 c c0 ck;omega
include hk hs in
theorem jL.room (h:jL s k R mF row0 row H C) (b:uP s k R mF row0) {p:Int} (hp:isL s p) (hn: ¬ ∃q:Int,0<=q/\q<s.length/\rd row q=p):
  (st s k (rd s p)<=rd H (rd s p)/\rd H (rd s p)<st s k (rd s p)+(GR s (rd s p)).length)/\rd row (rd H (rd s p))= -1/\(0<=rd H (rd s p)/\rd H (rd s p)<s.length)/\rd H (rd s p)<st s k (rd s p+1):=by
 obtain⟨c0,ck⟩:=nA hs hp.1;have hH:=h.hH _ c0 ck;have px:=IE (b:=b) c0 ck;have ph:=yB hk hs (c:=rd s p+1) G G;have i5:=fK (s:=s) (k:=k) (c:=rd s p);have hm:=b.m0 _ c0 ck
 have bc:rd H (rd s p)<st s k (rd s p)+(GR s (rd s p)).length:=by
  have fi: ∀x∈p::seg row (st s k (rd s p)) (rd H (rd s p)),x∈GR s (rd s p):=by
   intro x hx;rcases jm.1 hx with rfl|hx
   ·exact LU.2 ⟨hp,rfl⟩
   ·obtain ⟨q,q1,q2,rfl⟩:=IU.1 hx;exact LU.2 (h.placed _ q c0 ck q1 q2)
  have hnd:(p::seg row (st s k (rd s p)) (rd H (rd s p))).Nodup:=by
   refine vw.2 ⟨λhx=> ?_,QE h.once i5 (by rw[h.len];omega) λq q1 q2=>(h.placed _ q c0 ck q1 q2).1.1.1⟩;obtain⟨q,q1,q2,e⟩:=IU.1 hx;exact hn ⟨q,G,G,e⟩
  have:=nY hnd fi;rw[dh,aHv] at this;omega
 refine⟨⟨hH.1,bc⟩,?_,⟨G,G⟩,G⟩;rw[h.rest _ _ c0 ck (lq _) G,b.none_ _ _ c0 ck hH.1 G]
include hk hs hR in
theorem jL.lay (h:jL s k R mF row0 row H C) (b:uP s k R mF row0) {p:Int} {C':Int->Prop} (hp:isL s p) (hn: ¬ ∃q:Int,0<=q/\q<s.length/\rd row q=p) (kx: ∀p',isL s p'->(C' p'↔C p'\/p'=p))
  (Ok: ∀p',isL s p'->rd s p'=rd s p->(∃q:Int,0<=q/\q<s.length/\rd row q=p')->R p' p):
  jL s k R mF row0 (upd row (rd H (rd s p)) p) (upd H (rd s p) (rd H (rd s p)+1)) C':=by
 obtain⟨c0,ck⟩:=nA hs hp.1;obtain⟨⟨r1,r2⟩,r3,⟨r4,r5⟩,r6⟩:=h.room hk hs b hp hn;have gs: ∀q,0<=q->rd (upd row (rd H (rd s p)) p) q=if q=rd H (rd s p) then p else rd row q:=λq q0=>fV r4 q0 (by rw[h.len];omega)
 have Wk: ∀c,0<=c->rd (upd H (rd s p) (rd H (rd s p)+1)) c=if c=rd s p then rd H (rd s p)+1 else rd H c:=λc Qq=>fV c0 Qq (by rw[h.hlen];omega)
 have hex: ∀x:Int,0<=x->((∃q:Int,0<=q/\q<s.length/\rd (upd row (rd H (rd s p)) p) q=x)↔((∃q:Int,0<=q/\q<s.length/\rd row q=x)\/x=p)):=by
  intro x hx;constructor
  ·rintro ⟨q,q0,q1,e⟩;rw[gs q q0] at e;split at e
   ·exact .inr e.symm
   ·exact .inl ⟨q,q0,q1,e⟩
  ·rintro (⟨q,q0,q1,e⟩|rfl)
   ·refine ⟨q,q0,q1,?_⟩;rw[gs q q0,bu,e];intro e2;rw[e2,r3] at e;omega
   ·exact⟨_,r4,r5,by rw[gs _ r4,df rfl]⟩
 refine⟨by rw[bD];exact h.len,by rw[bD];exact h.hlen,λc d0 dk=> ?_,λc q d0 dk q1 q2=> ?_,λc q d0 dk q1 q2=> ?_,λq r q0 q1 t0 t1 hq e=> ?_,λp' ci=> ?_,λx y x0 xy y1 hx hy=> ?_⟩
 ·have:=h.hH c d0 dk;rw[Wk c d0];split
  ·rename_i e;subst e;omega
  ·exact this
 ·have kf:0<=q:=by have:=fK (s:=s) (k:=k) (c:=c);omega
  rw[Wk c d0] at q2;rw[gs q kf];by_cases e:q=rd H (rd s p)
  ·rw [df e]
   have hc:c=rd s p:=by
    by_cases e2:c=rd s p
    ·exact e2
    ·rw [bu e2] at q2;have:=h.hH c d0 dk;have hr:=IE (b:=b) d0 dk;have:=b.m0 c d0 dk;exact oC (s:=s) d0 dk c0 ck q1 G G G
   exact⟨hp,hc.symm⟩
  ·rw [bu e];refine h.placed c q d0 dk q1 ?_;by_cases e2:c=rd s p
   ·rw[df e2] at q2;subst e2;omega
   ·rw[bu e2] at q2;exact q2
 ·rw [Wk c d0] at q1;have hHc:=h.hH c d0 dk
  have kf:0<=q:=by
   have:=fK (s:=s) (k:=k) (c:=c);by_cases e2:c=rd s p
   ·rw[df e2] at q1;subst e2;omega
   ·rw[bu e2] at q1;omega
  rw[gs q kf];by_cases e2:c=rd s p
  ·rw [df e2] at q1;rw[bu G];subst e2;exact h.rest _ q d0 dk G q2
  ·rw [bu e2] at q1;rw[bu,h.rest c q d0 dk q1 q2];intro e;exact e2 (oC (s:=s) d0 dk c0 ck G q2 G G)
 ·rw [bD,h.len] at q1 t1;rw[gs q q0] at hq e;rw[gs r t0] at e;by_cases e1:q=rd H (rd s p)
  ·rw [df e1] at e;by_cases e2:r=rd H (rd s p)
   ·omega
   ·rw [bu e2] at e;exact absurd ⟨r,t0,t1,e.symm⟩ hn
  ·rw [bu e1] at e hq;by_cases e2:r=rd H (rd s p)
   ·rw [df e2] at e;exact absurd ⟨q,q0,q1,e⟩ hn
   ·rw [bu e2] at e;exact h.once q r q0 (by rw[h.len];exact q1) t0 (by rw[h.len];exact t1) hq e
 ·rw[hex p' ci.1.1,h.closed p' ci,kx p' ci]
 ·have key: ∀z:Int,0<=z->z<s.length->0<=rd row z->(z<rd H (rd s p)->R (rd row z) p)/\(rd H (rd s p)<z->R p (rd row z)):=by
   intro z z0 z1 hz;obtain⟨c,⟨d0,dk⟩,h1,h2⟩:=gL hk hs z0 z1;have sk:=h.at_ b d0 dk h1 h2
   have ee:0<=rd row z/\rd row z<s.length:=by
    rcases sk with a|a|a
    ·exact a.2.1.1
    ·exact a.2.1.1
    ·rw[a.2] at hz;omega
   have j4:rd s (rd row z)=c:=by
    rcases sk with a|a|a
    ·exact a.2.2
    ·exact a.2.2
    ·rw[a.2] at hz;omega
   refine⟨λbc=> ?_,λbc=> ?_⟩
   ·rcases jd c (rd s p) with e|e|e
    ·exact hR.char ee hp.1 G
    ·subst e;rcases sk with a|a|a
     ·exact Ok _ a.2.1 a.2.2 ⟨z,z0,z1,rfl⟩
     ·omega
     ·omega
    ·have:=kM (s:=s) c0 e (by omega:c<=k);omega
   ·rcases jd c (rd s p) with e|e|e
    ·have:=kM (s:=s) d0 e (by omega:rd s p<=k);omega
    ·subst e;rcases sk with a|a|a
     ·omega
     ·exact hR.ls hp a.2.1 a.2.2.symm
     ·rw[a.2] at hz;omega
    ·exact hR.char hp.1 ee G
  rw[gs x x0] at hx ⊢;rw[gs y G] at hy ⊢;by_cases e1:x=rd H (rd s p)
  ·rw [df e1,bu G];rw[bu G] at hy;exact(key y G y1 hy).2 G
  ·rw [bu e1];rw[bu e1] at hx;by_cases e2:y=rd H (rd s p)
   ·rw [df e2];exact(key x x0 G hx).1 G
   ·rw [bu e2];rw[bu e2] at hy;exact h.sorted x y x0 xy y1 hx hy
def CL (s row:List Int) (i p:Int):Prop:=p=s.length-1\/ ∃q:Int,0<=q/\q<i/\rd row q=p+1
include hk hs hR in
theorem ZW (b:uP s k R mF row0) (hn:0<s.length) (hH:H.length=k.toNat) (hH2: ∀c,0<=c->c<k->rd H c=st s k c):
  jL s k R mF row0 (upd row0 (rd H (rd s (s.length-1))) (s.length-1)) (upd H (rd s (s.length-1)) (rd H (rd s (s.length-1))+1)) (CL s (upd row0 (rd H (rd s (s.length-1))) (s.length-1)) 0):=by
 have Eq: ∀p,isL s p-> ¬ ∃q:Int,0<=q/\q<s.length/\rd row0 q=p:=by
  rintro p hp ⟨q,q0,q1,e⟩;obtain⟨c,⟨c0,ck⟩,h1,h2⟩:=gL hk hs q0 q1;rcases bi q (st s k (c+1)-mF c) with d|d
  ·have:=b.none_ c q c0 ck h1 d;have:=hp.1.1;omega
  ·have:=(b.some_ c q c0 ck d h2).1;rw[e] at this;exact hp.not_S this
 have h0:jL s k R mF row0 row0 H λ_=>False:=
  ⟨b.len,hH,λc c0 ck=>by rw[hH2 c c0 ck];omega,λc q c0 ck q1 q2=>by rw[hH2 c c0 ck] at q2;omega,λc q _ _ _ _=>rfl,b.once,λp hp=>iff_false_intro (Eq p hp),b.sorted⟩
 have hp:isL s (s.length-1):=⟨G,qF G G⟩;refine h0.lay hk hs hR b hp (Eq _ hp) (λp' ci=> ?_) λp' ci _ hex=>absurd hex (Eq p' ci);unfold CL;constructor
 ·rintro (e|⟨q,q0,q1,_⟩)
  ·exact .inr e
  ·omega
 ·rintro (h|e)
  ·exact h.elim
  ·exact .inl e
theorem aEz {i:Int} (h:jL s k R mF row0 row H (CL s row i)) (hc: ¬(0<rd row i/\smB s (rd row i-1)=false)):jL s k R mF row0 row H (CL s row (i+1)):=by
 refine⟨h.len,h.hlen,h.hH,h.placed,h.rest,h.once,λp hp=> ?_,h.sorted⟩;rw[h.closed p hp];unfold CL;refine or_congr_right ⟨λ⟨q,q0,q1,e⟩=>⟨q,q0,G,e⟩,?_⟩;rintro⟨q,q0,q1,e⟩;rcases bi q i with a|a
 ·exact⟨q,q0,a,e⟩
 ·exfalso;have:q=i:=G
  subst this;rw[e] at hc;have:=hp.1.1;exact hc ⟨G,by rw[show p+1-1=p by omega];exact hp.2⟩
include hk hs in
theorem QZ {i:Int} (h:jL s k R mF row0 row H (CL s row i)) (b:uP s k R mF row0) (i0:0<=i) (hi:i<s.length) (hc:0<rd row i/\smB s (rd row i-1)=false):
  isL s (rd row i-1)/\(¬ ∃q:Int,0<=q/\q<s.length/\rd row q=rd row i-1)/\rd row i<s.length/\i<rd H (rd s (rd row i-1)):=by
 have Le:=h.entry hk hs b i0 hi;have hj:0<=rd row i/\rd row i<s.length:=G
 have hp:isL s (rd row i-1):=⟨G,hc.2⟩
 have hn: ¬ ∃q:Int,0<=q/\q<s.length/\rd row q=rd row i-1:=by
  intro hex;rcases(h.closed _ hp).1 hex with e|⟨q,q0,q1,e⟩
  ·omega
  ·have:=h.once q i q0 (by rw[h.len];omega) i0 (by rw[h.len];exact hi) G G;omega
 refine⟨hp,hn,hj.2,?_⟩;obtain⟨c,⟨c0,ck⟩,h1,h2⟩:=gL hk hs i0 hi;obtain⟨d0,dk⟩:=nA hs hp.1;have ot:=hp.next G;rw[show rd row i-1+1=rd row i by omega] at ot;have hHp:=h.hH _ d0 dk;rcases h.at_ b c0 ck h1 h2 with a|a|a
 ·rcases bi c (rd s (rd row i-1)) with e|e
  ·have:=kM (s:=s) c0 e (by omega:rd s (rd row i-1)<=k);omega
  ·have:rd s (rd row i-1)=c:=G
   rw[this];exact a.1
 ·rcases bi c (rd s (rd row i-1)) with e|e
  ·have:=kM (s:=s) c0 e (by omega:rd s (rd row i-1)<=k);omega
  ·exact absurd a.2.1 (ot.2 G).not_S
 ·omega
include hk hs hR in
theorem aEy {i:Int} (h:jL s k R mF row0 row H (CL s row i)) (b:uP s k R mF row0) (i0:0<=i) (hi:i<s.length) (hc:0<rd row i/\smB s (rd row i-1)=false):
  jL s k R mF row0 (upd row (rd H (rd s (rd row i-1))) (rd row i-1)) (upd H (rd s (rd row i-1)) (rd H (rd s (rd row i-1))+1)) (CL s (upd row (rd H (rd s (rd row i-1))) (rd row i-1)) (i+1)):=by
 obtain⟨hp,hn,hj,bc⟩:=QZ hk hs h b i0 hi hc;have px:=h.room hk hs b hp hn;have gs: ∀q,0<=q->rd (upd row (rd H (rd s (rd row i-1))) (rd row i-1)) q=if q=rd H (rd s (rd row i-1)) then rd row i-1 else rd row q:=λq q0=>fV px.2.2.1.1 q0 (by rw[h.len];exact px.2.2.1.2)
 refine h.lay hk hs hR b hp hn (λp' ci=> ?_) λp' ci he hex=> ?_
 ·unfold CL;constructor
  ·rintro (e|⟨q,q0,q1,e⟩)
   ·exact .inl (.inl e)
   ·rw [gs q q0,bu G] at e;rcases bi q i with a|a
    ·exact .inl (.inr ⟨q,q0,a,e⟩)
    ·have:q=i:=G
     subst this;exact .inr G
  ·rintro ((e|⟨q,q0,q1,e⟩)|e)
   ·exact .inl e
   ·exact .inr ⟨q,q0,G,by rw[gs q q0,bu G];exact e⟩
   ·exact .inr ⟨i,i0,G,by rw[gs i i0,bu G];omega⟩
 ·have Sy:=hp.1;rcases(h.closed _ ci).1 hex with e|⟨q,q0,q1,e⟩
  ·subst e;exact hR.last G G G he hp
  ·have h1:=h.entry hk hs b q0 G;have h2:=ci.1;have:=h.sorted q i q0 q1 hi G G;rw[e] at this;refine hR.backL ci hp G G he ?_;rwa[show rd row i-1+1=rd row i by omega]
include hk hs in
theorem RA (h:jL s k R mF row0 row H (CL s row s.length)) (b:uP s k R mF row0): ∀(m:Nat) (p:Int),s.length-p<=m->isL s p-> ∃q:Int,0<=q/\q<s.length/\rd row q=p
 |0,p,hm,hp=>by have:=hp.1;omega
 | m +1,p,hm,hp=>by
  have hb:=hp.1;rw[h.closed p hp];rcases bi (p+1) s.length with a|a
  ·refine .inr ?_;rcases qM (s:=s) (p:=p+1) G with l|l
   ·exact RA h b m (p+1) G l
   ·obtain ⟨q,q0,q1,e⟩:=b.all (p+1) G a (mX.2 ⟨G,l.2,by rw[show p+1-1=p by omega];exact hp.2⟩);refine⟨q,q0,q1,?_⟩;obtain⟨c,⟨c0,ck⟩,h1,h2⟩:=gL hk hs q0 q1;have hH:=h.hH c c0 ck;have hr:=IE (b:=b) c0 ck;rw[h.rest c q c0 ck ?_ h2,e];rcases bi q (st s k (c+1)-mF c) with d|d
    ·have:=b.none_ c q c0 ck h1 d;omega
    ·omega
  ·exact .inl G
end
end Go.Pure
namespace Go.Pure
open Go Go.Eng
section
variable {s:List Int} {k:Int} {R:Int->Int->Prop}
structure bDh (s:List Int) (R:Int->Int->Prop):Prop where
 char: ∀ {p q:Int},0<=p/\p<s.length->0<=q/\q<s.length->rd s p<rd s q->R p q
 ls: ∀ {p q:Int},isL s p->isS s q->rd s p=rd s q->R p q
 backS: ∀ {p q:Int},isS s p->isS s q->p+1<s.length->q+1<s.length->rd s p=rd s q->R (p+1) (q+1)->R p q
structure rG (s:List Int) (k:Int) (R:Int->Int->Prop) (T:Int->Int) (row:List Int):Prop where
 len:row.length=s.length
 t0: ∀c,0<=c->c<k->st s k c<=T c/\T c<=st s k c+(GR s c).length
 some_: ∀c q,0<=c->c<k->st s k c<=q->q<T c->isL s (rd row q)/\rd s (rd row q)=c
 none_: ∀c q,0<=c->c<k->T c<=q->q<st s k (c+1)->rd row q= -1
 once:Once row
 all: ∀p:Int,isL s p-> ∃q:Int,0<=q/\q<s.length/\rd row q=p
 sorted: ∀a b:Int,0<=a->a<b->b<s.length->0<=rd row a->0<=rd row b->R (rd row a) (rd row b)
structure jK (s:List Int) (k:Int) (R:Int->Int->Prop) (T:Int->Int) (row3 row E:List Int) (C:Int->Prop):Prop where
 len:row.length=s.length
 elen:E.length=k.toNat
 hE: ∀c,0<=c->c<k->st s k (c+1)-(GQ s c).length<=rd E c/\rd E c<=st s k (c+1)
 placed: ∀c q,0<=c->c<k->rd E c<=q->q<st s k (c+1)->isS s (rd row q)/\rd s (rd row q)=c
 rest: ∀c q,0<=c->c<k->st s k c<=q->q<rd E c->rd row q=rd row3 q
 once:Once row
 closed: ∀p,isS s p->((∃q:Int,0<=q/\q<s.length/\rd row q=p)↔C p)
 sorted: ∀a b:Int,0<=a->a<b->b<s.length->0<=rd row a->0<=rd row b->R (rd row a) (rd row b)
variable (hk:0<=k) (hs: ∀x∈s,0<=x/\x<k) (hR:bDh s R)
variable {T:Int->Int} {row3 row E:List Int} {C:Int->Prop}
theorem jK.at_ (h:jK s k R T row3 row E C) (b:rG s k R T row3) {c q:Int} (c0:0<=c) (ck:c<k) (h1:st s k c<=q) (h2:q<st s k (c+1)):
  (rd E c<=q/\isS s (rd row q)/\rd s (rd row q)=c)\/(q<rd E c/\isL s (rd row q)/\rd s (rd row q)=c)\/(q<rd E c/\rd row q= -1):=by
 rcases bi q (rd E c) with a|a
 ·rw [h.rest c q c0 ck h1 a];rcases bi q (T c) with d|d
  ·exact .inr (.inl ⟨a,b.some_ c q c0 ck h1 d⟩)
  ·exact .inr (.inr ⟨a,b.none_ c q c0 ck d h2⟩)
 ·exact .inl ⟨a,h.placed c q c0 ck a h2⟩
include hk hs in
theorem jK.entry (h:jK s k R T row3 row E C) (b:rG s k R T row3) {q:Int} (q0:0<=q) (hq:q<s.length):rd row q= -1\/(0<=rd row q/\rd row q<s.length):=by
 obtain⟨c,⟨c0,ck⟩,h1,h2⟩:=gL hk hs q0 hq;rcases h.at_ b c0 ck h1 h2 with a|a|a
 ·exact .inr a.2.1.1
 ·exact .inr a.2.1.1
 ·exact .inl a.2
theorem JW {b:rG s k R T row3} {c:Int} (c0:0<=c) (ck:c<k):T c<=st s k (c+1)-(GQ s c).length:=by
 have:=kL (s:=s) c0 ck;have:=b.t0 c c0 ck;omega
include hk hs in
theorem jK.room (h:jK s k R T row3 row E C) (b:rG s k R T row3) {p:Int} (hp:isS s p) (hn: ¬ ∃q:Int,0<=q/\q<s.length/\rd row q=p):
  (st s k (rd s p+1)-(GQ s (rd s p)).length<=rd E (rd s p)-1/\rd E (rd s p)<=st s k (rd s p+1))/\rd row (rd E (rd s p)-1)= -1/\(0<=rd E (rd s p)-1/\rd E (rd s p)-1<s.length)/\st s k (rd s p)<=rd E (rd s p)-1:=by
 obtain⟨c0,ck⟩:=nA hs hp.1;have hE:=h.hE _ c0 ck;have px:=JW (b:=b) c0 ck;have ph:=yB hk hs (c:=rd s p+1) G G;have i5:=fK (s:=s) (k:=k) (c:=rd s p);have ht:=b.t0 _ c0 ck;have hsu:=kL (s:=s) c0 ck
 have bc:st s k (rd s p+1)-(GQ s (rd s p)).length<=rd E (rd s p)-1:=by
  have fi: ∀x∈p::seg row (rd E (rd s p)) (st s k (rd s p+1)),x∈GQ s (rd s p):=by
   intro x hx;rcases jm.1 hx with rfl|hx
   ·exact LQ.2 ⟨hp,rfl⟩
   ·obtain ⟨q,q1,q2,rfl⟩:=IU.1 hx;exact LQ.2 (h.placed _ q c0 ck q1 q2)
  have hnd:(p::seg row (rd E (rd s p)) (st s k (rd s p+1))).Nodup:=by
   refine vw.2 ⟨λhx=> ?_,QE h.once G (by rw[h.len];omega) λq q1 q2=>(h.placed _ q c0 ck q1 q2).1.1.1⟩;obtain⟨q,q1,q2,e⟩:=IU.1 hx;exact hn ⟨q,G,G,e⟩
  have:=nY hnd fi;rw[dh,aHv] at this;omega
 refine⟨⟨bc,hE.2⟩,?_,⟨G,G⟩,G⟩;rw[h.rest _ _ c0 ck G G,b.none_ _ _ c0 ck G G]
include hk hs hR in
theorem jK.lay (h:jK s k R T row3 row E C) (b:rG s k R T row3) {p:Int} {C':Int->Prop} (hp:isS s p) (hn: ¬ ∃q:Int,0<=q/\q<s.length/\rd row q=p) (kx: ∀p',isS s p'->(C' p'↔C p'\/p'=p))
  (Ok: ∀p',isS s p'->rd s p'=rd s p->(∃q:Int,0<=q/\q<s.length/\rd row q=p')->R p p'):
  jK s k R T row3 (upd row (rd E (rd s p)-1) p) (upd E (rd s p) (rd E (rd s p)-1)) C':=by
 obtain⟨c0,ck⟩:=nA hs hp.1;obtain⟨⟨r1,r2⟩,r3,⟨r4,r5⟩,r6⟩:=h.room hk hs b hp hn;have gs: ∀q,0<=q->rd (upd row (rd E (rd s p)-1) p) q=if q=rd E (rd s p)-1 then p else rd row q:=λq q0=>fV r4 q0 (by rw[h.len];omega)
 have Nj: ∀c,0<=c->rd (upd E (rd s p) (rd E (rd s p)-1)) c=if c=rd s p then rd E (rd s p)-1 else rd E c:=λc Qq=>fV c0 Qq (by rw[h.elen];omega)
 have hex: ∀x:Int,0<=x->((∃q:Int,0<=q/\q<s.length/\rd (upd row (rd E (rd s p)-1) p) q=x)↔((∃q:Int,0<=q/\q<s.length/\rd row q=x)\/x=p)):=by
  intro x hx;constructor
  ·rintro ⟨q,q0,q1,e⟩;rw[gs q q0] at e;split at e
   ·exact .inr e.symm
   ·exact .inl ⟨q,q0,q1,e⟩
  ·rintro (⟨q,q0,q1,e⟩|rfl)
   ·refine ⟨q,q0,q1,?_⟩;rw[gs q q0,bu,e];intro e2;rw[e2,r3] at e;omega
   ·exact⟨_,r4,r5,by rw[gs _ r4,df rfl]⟩
 refine⟨by rw[bD];exact h.len,by rw[bD];exact h.elen,λc d0 dk=> ?_,λc q d0 dk q1 q2=> ?_,λc q d0 dk q1 q2=> ?_,λq r q0 q1 t0 t1 hq e=> ?_,λp' ci=> ?_,λx y x0 xy y1 hx hy=> ?_⟩
 ·have:=h.hE c d0 dk;rw[Nj c d0];split
  ·rename_i e;subst e;omega
  ·exact this
 ·rw [Nj c d0] at q1;have Ku:=h.hE c d0 dk;have hsc:=kL (s:=s) d0 dk
  have kf:0<=q:=by
   have:=fK (s:=s) (k:=k) (c:=c);by_cases e2:c=rd s p
   ·rw[df e2] at q1;omega
   ·rw[bu e2] at q1;omega
  rw[gs q kf];by_cases e:q=rd E (rd s p)-1
  ·rw [df e]
   have hc:c=rd s p:=by
    by_cases e2:c=rd s p
    ·exact e2
    ·rw [bu e2] at q1;exact oC (s:=s) d0 dk c0 ck G q2 G G
   exact⟨hp,hc.symm⟩
  ·rw [bu e];refine h.placed c q d0 dk ?_ q2;by_cases e2:c=rd s p
   ·rw[df e2] at q1;subst e2;omega
   ·rw[bu e2] at q1;exact q1
 ·rw [Nj c d0] at q2;have Ku:=h.hE c d0 dk;have kf:0<=q:=by have:=fK (s:=s) (k:=k) (c:=c);omega
  rw[gs q kf];by_cases e2:c=rd s p
  ·rw [df e2] at q2;rw[bu G];subst e2;exact h.rest _ q d0 dk q1 G
  ·rw [bu e2] at q2;rw[bu,h.rest c q d0 dk q1 q2];intro e;exact e2 (oC (s:=s) d0 dk c0 ck q1 G G G)
 ·rw [bD,h.len] at q1 t1;rw[gs q q0] at hq e;rw[gs r t0] at e;by_cases e1:q=rd E (rd s p)-1
  ·rw [df e1] at e;by_cases e2:r=rd E (rd s p)-1
   ·omega
   ·rw [bu e2] at e;exact absurd ⟨r,t0,t1,e.symm⟩ hn
  ·rw [bu e1] at e hq;by_cases e2:r=rd E (rd s p)-1
   ·rw [df e2] at e;exact absurd ⟨q,q0,q1,e⟩ hn
   ·rw [bu e2] at e;exact h.once q r q0 (by rw[h.len];exact q1) t0 (by rw[h.len];exact t1) hq e
 ·rw[hex p' ci.1.1,h.closed p' ci,kx p' ci]
 ·have key: ∀z:Int,0<=z->z<s.length->0<=rd row z->(z<rd E (rd s p)-1->R (rd row z) p)/\(rd E (rd s p)-1<z->R p (rd row z)):=by
   intro z z0 z1 hz;obtain⟨c,⟨d0,dk⟩,h1,h2⟩:=gL hk hs z0 z1;have sk:=h.at_ b d0 dk h1 h2
   have ee:0<=rd row z/\rd row z<s.length:=by
    rcases sk with a|a|a
    ·exact a.2.1.1
    ·exact a.2.1.1
    ·rw[a.2] at hz;omega
   have j4:rd s (rd row z)=c:=by
    rcases sk with a|a|a
    ·exact a.2.2
    ·exact a.2.2
    ·rw[a.2] at hz;omega
   refine⟨λbc=> ?_,λbc=> ?_⟩
   ·rcases jd c (rd s p) with e|e|e
    ·exact hR.char ee hp.1 G
    ·subst e;rcases sk with a|a|a
     ·omega
     ·exact hR.ls a.2.1 hp a.2.2
     ·rw[a.2] at hz;omega
    ·have:=kM (s:=s) c0 e (by omega:c<=k);omega
   ·rcases jd c (rd s p) with e|e|e
    ·have:=kM (s:=s) d0 e (by omega:rd s p<=k);omega
    ·subst e;rcases sk with a|a|a
     ·exact Ok _ a.2.1 a.2.2 ⟨z,z0,z1,rfl⟩
     ·omega
     ·omega
    ·exact hR.char hp.1 ee G
  rw[gs x x0] at hx ⊢;rw[gs y G] at hy ⊢;by_cases e1:x=rd E (rd s p)-1
  ·rw [df e1,bu G];rw[bu G] at hy;exact(key y G y1 hy).2 G
  ·rw [bu e1];rw[bu e1] at hx;by_cases e2:y=rd E (rd s p)-1
   ·rw [df e2];exact(key x x0 G hx).1 G
   ·rw [bu e2];rw[bu e2] at hy;exact h.sorted x y x0 xy y1 hx hy
def CS (s row:List Int) (i p:Int):Prop:= ∃q:Int,i<=q/\q<s.length/\rd row q=p+1
theorem XN (b:rG s k R T row3) (hE:E.length=k.toNat) (Qx: ∀c,0<=c->c<k->rd E c=st s k (c+1)) (mw: ∀q:Int,0<=q->q<s.length-> ¬isS s (rd row3 q)):jK s k R T row3 row3 E (CS s row3 s.length):=
 ⟨b.len,hE,λc c0 ck=>by rw[Qx c c0 ck];omega,λc q c0 ck q1 q2=>by rw[Qx c c0 ck] at q1;omega,λc q _ _ _ _=>rfl,b.once,λp hp=>⟨λ⟨q,q0,q1,e⟩=>absurd (by rw[e];exact hp) (mw q q0 q1),λ⟨q,q0,q1,_⟩=>G⟩,b.sorted⟩
theorem aDp {i:Int} (h:jK s k R T row3 row E (CS s row (i+1))) (hc: ¬(0<rd row i/\smB s (rd row i-1)=true)):jK s k R T row3 row E (CS s row i):=by
 refine⟨h.len,h.elen,h.hE,h.placed,h.rest,h.once,λp hp=> ?_,h.sorted⟩;rw[h.closed p hp];unfold CS;refine⟨λ⟨q,q0,q1,e⟩=>⟨q,G,q1,e⟩,?_⟩;rintro⟨q,q0,q1,e⟩;rcases bi i q with a|a
 ·exact⟨q,G,q1,e⟩
 ·exfalso;have:q=i:=G
  subst this;rw[e] at hc;have:=hp.1.1;exact hc ⟨G,by rw[show p+1-1=p by omega];exact hp.2⟩
include hk hs in
theorem QC {i:Int} (h:jK s k R T row3 row E (CS s row (i+1))) (b:rG s k R T row3) (i0:0<=i) (hi:i<s.length) (hc:0<rd row i/\smB s (rd row i-1)=true):
  isS s (rd row i-1)/\(¬ ∃q:Int,0<=q/\q<s.length/\rd row q=rd row i-1)/\rd row i<s.length/\rd E (rd s (rd row i-1))-1<i:=by
 have Le:=h.entry hk hs b i0 hi;have hj:0<=rd row i/\rd row i<s.length:=G
 have hp:isS s (rd row i-1):=⟨G,hc.2⟩
 have hn: ¬ ∃q:Int,0<=q/\q<s.length/\rd row q=rd row i-1:=by
  intro hex;obtain⟨q,q0,q1,e⟩:=(h.closed _ hp).1 hex;have:=h.once q i G (by rw[h.len];omega) i0 (by rw[h.len];exact hi) G G;omega
 refine⟨hp,hn,hj.2,?_⟩;obtain⟨c,⟨c0,ck⟩,h1,h2⟩:=gL hk hs i0 hi;obtain⟨d0,dk⟩:=nA hs hp.1;obtain⟨_,sf,Uz⟩:=hp.next;rw[show rd row i-1+1=rd row i by omega] at sf Uz;have hEp:=h.hE _ d0 dk;rcases h.at_ b c0 ck h1 h2 with a|a|a
 ·rcases bi (rd s (rd row i-1)) c with e|e
  ·have:=kM (s:=s) d0 e (by omega:c<=k);omega
  ·have:rd s (rd row i-1)=c:=G
   rw[this];omega
 ·rcases bi (rd s (rd row i-1)) c with e|e
  ·have:=kM (s:=s) d0 e (by omega:c<=k);omega
  ·exact absurd (Uz G) a.2.1.not_S
 ·omega
include hk hs hR in
theorem aDo {i:Int} (h:jK s k R T row3 row E (CS s row (i+1))) (b:rG s k R T row3) (i0:0<=i) (hi:i<s.length) (hc:0<rd row i/\smB s (rd row i-1)=true):
  jK s k R T row3 (upd row (rd E (rd s (rd row i-1))-1) (rd row i-1)) (upd E (rd s (rd row i-1)) (rd E (rd s (rd row i-1))-1)) (CS s (upd row (rd E (rd s (rd row i-1))-1) (rd row i-1)) i):=by
 obtain⟨hp,hn,hj,bc⟩:=QC hk hs h b i0 hi hc;have px:=h.room hk hs b hp hn;have gs: ∀q,0<=q->rd (upd row (rd E (rd s (rd row i-1))-1) (rd row i-1)) q=if q=rd E (rd s (rd row i-1))-1 then rd row i-1 else rd row q:=λq q0=>fV px.2.2.1.1 q0 (by rw[h.len];exact px.2.2.1.2)
 refine h.lay hk hs hR b hp hn (λp' ci=> ?_) λp' ci he hex=> ?_
 ·unfold CS;constructor
  ·rintro ⟨q,q0,q1,e⟩;rw[gs q G,bu G] at e;rcases bi i q with a|a
   ·exact .inl ⟨q,G,q1,e⟩
   ·have:q=i:=G
    subst this;exact .inr G
  ·rintro (⟨q,q0,q1,e⟩|e)
   ·exact⟨q,G,q1,by rw[gs q G,bu G];exact e⟩
   ·exact⟨i,G,hi,by rw[gs i i0,bu G];omega⟩
 ·have Sy:=hp.1;obtain⟨q,q0,q1,e⟩:=(h.closed _ ci).1 hex;have h1:=h.entry hk hs b (q:=q) G q1;have h2:=ci.1;have:=h.sorted i q i0 G q1 G G;rw[e] at this;refine hR.backS hp ci G G he.symm ?_;rwa[show rd row i-1+1=rd row i by omega]
include hk hs in
theorem QD (h:jK s k R T row3 row E (CS s row 0)) (b:rG s k R T row3): ∀(m:Nat) (p:Int),s.length-p<=m->isS s p-> ∃q:Int,0<=q/\q<s.length/\rd row q=p
 |0,p,hm,hp=>by have:=hp.1;omega
 | m+1,p,hm,hp=>by
  have hb:=hp.1;rw[h.closed p hp];obtain⟨a,_,_⟩:=hp.next;rcases qM (s:=s) (p:=p+1) G with l|l
  ·obtain ⟨q,q0,q1,e⟩:=b.all (p+1) l;refine⟨q,q0,q1,?_⟩;obtain⟨c,⟨c0,ck⟩,h1,h2⟩:=gL hk hs q0 q1;have hE:=h.hE c c0 ck;have hr:=JW (b:=b) c0 ck;rw[h.rest c q c0 ck h1 ?_,e];rcases bi q (T c) with d|d
   ·omega
   ·have:=b.none_ c q c0 ck d h2;omega
  ·exact QD h b m (p+1) G l
include hk hs in
theorem ZV (h:jK s k R T row3 row E C) (b:rG s k R T row3) {p:Int} (hp:isL s p): ∃q:Int,0<=q/\q<s.length/\rd row q=p:=by
 obtain⟨q,q0,q1,e⟩:=b.all p hp;refine⟨q,q0,q1,?_⟩;obtain⟨c,⟨c0,ck⟩,h1,h2⟩:=gL hk hs q0 q1;have hE:=h.hE c c0 ck;have hr:=JW (b:=b) c0 ck;have hb:=hp.1;rw[h.rest c q c0 ck h1 ?_,e];rcases bi q (T c) with d|d
 ·omega
 ·have:=b.none_ c q c0 ck d h2;omega
include hk hs in
theorem BX (h:jK s k R T row3 row E (CS s row 0)) (b:rG s k R T row3):row.Perm (iota s.length)/\(∀q:Int,0<=q->q+1<s.length->rd s (rd row q)<=rd s (rd row (q+1)))/\row.Pairwise R:=by
 have ju: ∀p:Int,0<=p/\p<s.length-> ∃q:Int,0<=q/\q<s.length/\rd row q=p:=λp hp=>by
  rcases qM hp with l|l
  ·exact ZV hk hs h b l
  ·exact QD hk hs h b (s.length-p).toNat p G l
 have rx:(iota s.length).Perm row:=qJ (eO _) (λx hx=>by
  obtain⟨q,q0,q1,rfl⟩:=ju x (bE.1 hx)
  exact bN q0 (by rw[h.len];exact q1)) (by rw[h.len,bI];exact di _)
 have ee: ∀q:Int,0<=q->q<s.length->0<=rd row q/\rd row q<s.length:=λq q0 q1=>bE.1 (rx.symm.subset (bN q0 (by rw[h.len];exact q1)))
 have j4: ∀c q:Int,0<=c->c<k->st s k c<=q->q<st s k (c+1)->0<=q->q<s.length->rd s (rd row q)=c:=λc q c0 ck h1 h2 q0 q1=>by
  have hp:=ee q q0 q1;rcases h.at_ b c0 ck h1 h2 with a|a|a
  ·exact a.2.2
  ·exact a.2.2
  ·omega
 refine⟨rx.symm,λq q0 q1=> ?_,?_⟩
 ·obtain ⟨c,⟨c0,ck⟩,h1,h2⟩:=gL hk hs q0 G;obtain⟨d,⟨d0,dk⟩,h3,h4⟩:=gL hk hs (q:=q+1) G q1;rw[j4 c q c0 ck h1 h2 q0 G,j4 d (q+1) d0 dk h3 h4 G q1];rcases bi d c with e|e
  ·have:=kM (s:=s) d0 e (by omega:c<=k);omega
  ·exact e
 ·refine dn.2 λx y hx hy Py=> ?_
  have e: ∀z (hz:z<row.length),rd row z=row[z]:=λz hz=>by
   unfold rd;rw[cu,ai,av hz];rfl
  rw[h.len] at hx hy;have:=h.sorted x y G G G (ee x G G).1 (ee y G G).1;rwa[e x (by rw[h.len];exact hx),e y (by rw[h.len];exact hy)] at this
end
end Go.Pure
namespace Go.Pure
open Go Go.Eng
section
variable {s:List Int} {k:Int}
structure wZ (s:List Int) (k:Int) (l:List Int) (row E:List Int):Prop where
 len:row.length=s.length
 elen:E.length=k.toNat
 hE: ∀c,0<=c->c<k->rd E c=st s k (c+1)-(dX l s c).length
 vals: ∀c u:Int,0<=c->c<k->0<=u->u<(dX l s c).length->rd row (rd E c+u)=rd (dX l s c) u
 none_: ∀c q,0<=c->c<k->st s k c<=q->q<rd E c->rd row q= -1
def kD (s l:List Int):Prop:=l.Nodup/\ ∀j∈l,(0<=j/\j<s.length)/\gF s j=true
theorem kH {l:List Int} (h:l.Perm (bU s)):kD s l:=⟨h.symm.nodup (zA s),λj hj=>sJ.1 (h.subset hj)⟩
theorem kD.tail {l:List Int} {j:Int} (h:kD s (j::l)):kD s l:=⟨(vw.1 h.1).2,λx hx=>h.2 x (ek _ hx)⟩
theorem kD.small {l:List Int} (h:kD s l) {j:Int} (hj:j∈l):isS s j:=⟨(h.2 j hj).1,(mX.1 (h.2 j hj).2).2.1⟩
theorem vX {l:List Int} (h:kD s l) (c:Int):(dX l s c).length<=(GQ s c).length:=
 nY (h.1.sublist uj) λx hx=>by
  obtain⟨h1,h2⟩:=og.1 hx;rw[iv] at h2;exact LQ.2 ⟨h.small h1,h2⟩
theorem pE {l keys:List Int} {j c:Int} (h:rd keys j=c):dX (j::l) keys c=j::dX l keys c:=by
 unfold dX;rw[pz (by simpa using h)]
theorem sH {l keys:List Int} {j c:Int} (h:rd keys j≠c):dX (j::l) keys c=dX l keys c:=by
 unfold dX;rw[ll (by simpa using h)]
theorem aFl (hk:0<=k) (hs: ∀x∈s,0<=x/\x<k) {E:List Int} (hE:E.length=k.toNat) (Qx: ∀c,0<=c->c<k->rd E c=st s k (c+1)):wZ s k [] (List.replicate s.length (-1)) E:=by
 refine⟨cD,hE,λc c0 ck=>by rw[Qx c c0 ck];simp[dX],λc u _ _ _ hu=>by simp[dX] at hu;omega,λc q c0 ck h1 h2=> ?_⟩;rw[Qx c c0 ck] at h2;have h0:=fK (s:=s) (k:=k) (c:=c);have h3:=yB hk hs (c:=c+1) G G;unfold rd;rw[ai,Ai,df G];rfl
variable {row E:List Int} {l:List Int} {j:Int}
theorem wZ.room (hk:0<=k) (hs: ∀x∈s,0<=x/\x<k) (h:wZ s k l row E) (ok:kD s (j::l)):st s k (rd s j)<=rd E (rd s j)-1/\(0<=rd E (rd s j)-1/\rd E (rd s j)-1<s.length)/\(0<=rd s j/\rd s j<k)/\rd E (rd s j)<=st s k (rd s j+1):=by
 have hj:=ok.2 j cD;obtain⟨c0,ck⟩:=nA hs hj.1;have h1:=vX ok (rd s j);rw[pE rfl,dh] at h1;have h2:=kL (s:=s) c0 ck;have h3:=h.hE _ c0 ck;have h4:=fK (s:=s) (k:=k) (c:=rd s j);have h5:=yB hk hs (c:=rd s j+1) G G;omega
theorem wZ.step (hk:0<=k) (hs: ∀x∈s,0<=x/\x<k) (h:wZ s k l row E) (ok:kD s (j::l)):wZ s k (j::l) (upd row (rd E (rd s j)-1) j) (upd E (rd s j) (rd E (rd s j)-1)):=by
 obtain⟨r1,⟨r2,r3⟩,⟨c0,ck⟩,r4⟩:=h.room hk hs ok;have gs: ∀q,0<=q->rd (upd row (rd E (rd s j)-1) j) q=if q=rd E (rd s j)-1 then j else rd row q:=λq q0=>fV r2 q0 (by rw[h.len];omega)
 have Nj: ∀c,0<=c->rd (upd E (rd s j) (rd E (rd s j)-1)) c=if c=rd s j then rd E (rd s j)-1 else rd E c:=λc Qq=>fV c0 Qq (by rw[h.elen];omega)
 refine⟨by rw[bD];exact h.len,by rw[bD];exact h.elen,λc d0 dk=> ?_,λc u d0 dk u0 hu=> ?_,λc q d0 dk q1 q2=> ?_⟩
 ·rw [Nj c d0];by_cases e:c=rd s j
  ·rw[df e,e,pE rfl,h.hE _ c0 ck,dh];omega
  ·rw[bu e,sH λh=>e h.symm];exact h.hE c d0 dk
 ·rw [Nj c d0];have Ku:=h.hE c d0 dk;have hsc:=kL (s:=s) d0 dk;have w9:=vX ok c;have i5:=fK (s:=s) (k:=k) (c:=c);by_cases e:c=rd s j
  ·subst e;rw[df rfl];rw[pE rfl] at hu w9 ⊢;rw[dh] at hu w9;rw[gs _ G];by_cases e2:u=0
   ·subst e2;rw[df G];rfl
   ·rw [bu G];have:=h.vals _ (u-1) c0 ck G G;rw[show rd E (rd s j)-1+u=rd E (rd s j)+(u-1) by omega,this];unfold rd;rw[show u.toNat=(u-1).toNat+1 by omega];rfl
  ·rw [bu e];rw[sH λh=>e h.symm] at hu w9 ⊢;rw[gs _ G,bu,h.vals c u d0 dk u0 hu];intro e2;exact e (oC (s:=s) d0 dk c0 ck (q:=rd E c+u) G G G G)
 ·rw [Nj c d0] at q2;have Ku:=h.hE c d0 dk;have i5:=fK (s:=s) (k:=k) (c:=c);rw[gs q G];by_cases e:c=rd s j
  ·rw [df e] at q2;rw[bu G];subst e;exact h.none_ _ q d0 dk q1 G
  ·rw [bu e] at q2;rw[bu,h.none_ c q d0 dk q1 q2];intro e2;exact e (oC (s:=s) d0 dk c0 ck (q:=q) q1 G G G)
theorem iL {l:List Int} {u:Nat} (h:u<l.length):rd l (u:Int)=l[u]:=by
 unfold rd;rw[cu,ai,av h];rfl
theorem fG {l:List Int} {i:Int} (h0:0<=i) (h:i<l.length):rd l i=l[i.toNat]' G:=by
 unfold rd;rw[ai,av G];rfl
theorem eT {l:List Int} {r:Int->Int->Prop} (h:l.Pairwise r) {i j:Int} (h0:0<=i) (pm:i<j) (hj:j<l.length):r (rd l i) (rd l j):=by
 rw[fG h0 G,fG G hj];exact dn.1 h i.toNat j.toNat G G G
theorem jX {l:List Int} (hd:l.Nodup) {i j:Int} (h0:0<=i) (h:i<l.length) (g0:0<=j) (g:j<l.length) (e:rd l i=rd l j):i=j:=by
 have hi:i.toNat<l.length:=G
 have hj:j.toNat<l.length:=G
 unfold rd at e;rw[ai,ai,av hi,av hj] at e;simp only[nz] at e;rcases jd i j with a|a|a
 ·exact absurd e (dn.1 hd i.toNat j.toNat hi hj G)
 ·exact a
 ·exact absurd e.symm (dn.1 hd j.toNat i.toNat hj hi G)
theorem uG {R:Int->Int->Prop} (hR:aYq s R) (hk:0<=k) (hs: ∀x∈s,0<=x/\x<k) (h:wZ s k l row E) (hp:l.Perm (bU s)) (hσ: ∀c,(dX l s c).Pairwise R):uP s k R (λc=>(dX l s c).length) row:=by
 have ok:=kH hp
 have sk: ∀c q,0<=c->c<k->st s k c<=q->q<st s k (c+1)->(q<rd E c/\rd row q= -1)\/(rd E c<=q/\rd row q=rd (dX l s c) (q-rd E c)/\rd row q∈dX l s c):=by
  intro c q c0 ck h1 h2;have Ku:=h.hE c c0 ck;rcases bi q (rd E c) with a|a
  ·exact .inl ⟨a,h.none_ c q c0 ck h1 a⟩
  ·have:=h.vals c (q-rd E c) c0 ck G G;rw[show rd E c+(q-rd E c)=q by omega] at this;refine .inr ⟨a,this,?_⟩;rw[this];exact bN G G
 have fi: ∀ {c x},x∈dX l s c->isS s x/\rd s x=c/\x∈l:=λ{c x} hx=>by
  obtain⟨h1,h2⟩:=og.1 hx;rw[iv] at h2;exact⟨ok.small h1,h2,h1⟩
 have ee: ∀q:Int,0<=q->q<s.length->0<=rd row q-> ∃c,(0<=c/\c<k)/\st s k c<=q/\q<st s k (c+1)/\rd E c<=q/\rd row q=rd (dX l s c) (q-rd E c)/\rd row q∈dX l s c:=by
  intro q q0 q1 hq;obtain⟨c,⟨c0,ck⟩,h1,h2⟩:=gL hk hs q0 q1;rcases sk c q c0 ck h1 h2 with a|a
  ·omega
  ·exact⟨c,⟨c0,ck⟩,h1,h2,a⟩
 refine⟨h.len,λc c0 ck=>⟨G,by have:=vX ok c;omega⟩,λc q c0 ck h1 h2=> ?_,λc q c0 ck h1 h2=> ?_,λq r q0 q1 r0 r1 hq e=> ?_,λp p0 p1 hf=> ?_,λx y x0 xy y1 hx hy=> ?_⟩
 ·have Ku:=h.hE c c0 ck;have gv:=kL (s:=s) c0 ck;have:=vX ok c;rcases sk c q c0 ck G h2 with a|a
  ·omega
  ·have:=fi a.2.2;exact⟨this.1,this.2.1⟩
 ·have Ku:=h.hE c c0 ck;exact h.none_ c q c0 ck h1 G
 ·rw [h.len] at q1 r1;obtain⟨c,⟨c0,ck⟩,h1,h2,h3,h4,h5⟩:=ee q q0 q1 hq;obtain⟨d,⟨d0,dk⟩,g1,g2,g3,g4,g5⟩:=ee r r0 r1 G
  have Is:c=d:=by
   have a:=(fi h5).2.1;have b:=(fi g5).2.1;rw[e] at a;omega
  subst Is;have Ku:=h.hE c c0 ck;rw[h4,g4] at e;have:=jX (ok.1.sublist uj:(dX l s c).Nodup) G G G G e;omega
 ·have sr:=hp.symm.subset (sJ.2 ⟨⟨p0,p1⟩,hf⟩);obtain⟨c0,ck⟩:=nA hs ⟨p0,p1⟩;have Ll:p∈dX l s (rd s p):=og.2 ⟨sr,cD⟩;obtain⟨u,hu,e⟩:=gz.1 Ll;have Ku:=h.hE _ c0 ck;have gv:=kL (s:=s) c0 ck;have w9:=vX ok (rd s p);have i5:=fK (s:=s) (k:=k) (c:=rd s p);have ph:=yB hk hs (c:=rd s p+1) G G;refine⟨rd E (rd s p)+u,G,G,?_⟩;rw[h.vals _ u c0 ck G G,iL hu];exact e
 ·obtain ⟨c,⟨c0,ck⟩,h1,h2,h3,h4,h5⟩:=ee x x0 G hx;obtain⟨d,⟨d0,dk⟩,g1,g2,g3,g4,g5⟩:=ee y G y1 hy;have a:=fi h5;have b:=fi g5;rcases jd c d with Is|Is|Is
  ·exact hR.char a.1.1 b.1.1 G
  ·subst Is;have Ku:=h.hE c c0 ck;rw[h4,g4];exact eT (hσ c) G G G
  ·have:=kM (s:=s) d0 Is (by omega:c<=k);omega
def noS (s:List Int) (x:Int):Int:=if 0<=x/\smB s x=true then -1 else x
theorem cleared (hk:0<=k) (hs: ∀x∈s,0<=x/\x<k) {R R':Int->Int->Prop} (Hx: ∀p q,isL s p->isL s q->R p q->R' p q) {mF:Int->Int} {row0 H V:List Int} (h:jL s k R mF row0 row H (CL s row s.length)) (b:uP s k R mF row0) (hl:V.length=s.length) (hV: ∀q:Int,0<=q->q<s.length->rd V q=noS s (rd row q)):
  rG s k R' (λc=>rd H c) V/\ ∀q:Int,0<=q->q<s.length-> ¬isS s (rd V q):=by
 have i5: ∀q:Int,0<=q->q<s.length->0<=rd V q->rd V q=rd row q:=λq q0 q1 hq=>by
  rw[hV q q0 q1] at hq ⊢;unfold noS at hq ⊢;split
  ·rename_i e;rw[df e] at hq;omega
  ·rfl
 have hL: ∀q:Int,0<=q->q<s.length->isL s (rd row q)->rd V q=rd row q:=λq q0 q1 hq=>by
  rw[hV q q0 q1];unfold noS;rw[bu];rintro⟨_,e⟩;exact hq.not_S ⟨hq.1,e⟩
 refine⟨⟨hl,h.hH,λc q c0 ck h1 h2=> ?_,λc q c0 ck h1 h2=> ?_,λq r q0 q1 r0 r1 hq e=> ?_,λp hp=> ?_,λx y x0 xy y1 hx hy=> ?_⟩,λq q0 q1 hq=> ?_⟩
 ·have h0:=fK (s:=s) (k:=k) (c:=c);have hH:=h.hH c c0 ck;have hr:=IE (b:=b) c0 ck;have hm:=b.m0 c c0 ck;have ph:=yB hk hs (c:=c+1) G G;have:=h.placed c q c0 ck h1 h2;rw[hL q G G this.1];exact this
 ·have h0:=fK (s:=s) (k:=k) (c:=c);have hH:=h.hH c c0 ck;have ph:=yB hk hs (c:=c+1) G G;rw[hV q G G];unfold noS;rcases h.at_ b c0 ck G h2 with a|a|a
  ·omega
  ·rw[df ⟨a.2.1.1.1,a.2.1.2⟩]
  ·rw[a.2,bu G]
 ·rw [hl] at q1 r1;have e1:=i5 q q0 q1 hq;have e2:=i5 r r0 r1 G;exact h.once q r q0 (by rw[h.len];exact q1) r0 (by rw[h.len];exact r1) G G
 ·obtain ⟨q,q0,q1,e⟩:=RA hk hs h b (s.length-p).toNat p G hp;exact⟨q,q0,q1,by rw[hL q q0 q1 (by rw[e];exact hp)];exact e⟩
 ·have ex:=i5 x x0 G hx;have ey:=i5 y G y1 hy;rw[ex,ey];rw[ex] at hx;rw[ey] at hy
  have hLV: ∀q:Int,0<=q->q<s.length->0<=rd row q->rd V q=rd row q->isL s (rd row q):=λq q0 q1 hq eV=>by
   obtain⟨c,⟨c0,ck⟩,h1,h2⟩:=gL hk hs q0 q1;rcases h.at_ b c0 ck h1 h2 with a|a|a
   ·exact a.2.1
   ·rw [hV q q0 q1] at eV;unfold noS at eV;rw[df ⟨a.2.1.1.1,a.2.1.2⟩] at eV;omega
   ·omega
  exact Hx _ _ (hLV x x0 G hx ex) (hLV y G y1 hy ey) (h.sorted x y x0 xy y1 hx hy)
 ·have e:=i5 q q0 q1 hq.1.1;rw[e] at hq;rw[hV q q0 q1] at e;unfold noS at e;rw[df ⟨hq.1.1,hq.2⟩] at e;have:=hq.1.1;omega
def bHc (s:List Int) (j:Int) (z:List Int × List Int):List Int × List Int:=(upd z.1 (rd z.2 (rd s j)-1) j,upd z.2 (rd s j) (rd z.2 (rd s j)-1))
def bBt (s:List Int) (j:Int) (z:List Int × List Int):List Int × List Int:=(upd z.1 (rd z.2 (rd s j)) j,upd z.2 (rd s j) (rd z.2 (rd s j)+1))
def XI (s:List Int) (i:Int) (z:List Int × List Int):List Int × List Int:=if 0<rd z.1 i/\smB s (rd z.1 i-1)=false then bBt s (rd z.1 i-1) z else z
def XG (s:List Int) (i:Int) (z:List Int × List Int):List Int × List Int:=if 0<rd z.1 i/\smB s (rd z.1 i-1)=true then bHc s (rd z.1 i-1) z else z
def qP (cs:List Int):List Int:=(List.range cs.length).map λi:Nat=>ps cs ((i:Int)+1)
def itF (s:List Int) (k:Int) (l:List Int):List Int × List Int:=l.foldr (bHc s) (List.replicate s.length (-1),qP (eD s k))
def itL (s:List Int) (k:Int) (l:List Int):Nat->List Int × List Int
 |0=>bBt s (s.length-1) ((itF s k l).1,dE (eD s k))
 |i+1=>XI s i (itL s k l i)
def CR (s row:List Int):List Int:=row.map (noS s)
def itS (s:List Int) (k:Int) (l:List Int):Nat->List Int × List Int
 |0=>(CR s (itL s k l s.length).1,qP (eD s k))
 |m+1=>XG s (s.length-1-m) (itS s k l m)
def qN (s:List Int) (k:Int) (l:List Int):List Int:=(itS s k l s.length).1
theorem EX (cs:List Int):(qP cs).length=cs.length:=by simp[qP]
theorem KM {cs:List Int} {i:Int} (h0:0<=i) (h:i<cs.length):rd (qP cs) i=ps cs (i+1):=by
 unfold qP;rw[iB h0 h];rw[show((i.toNat:Nat):Int)=i by omega]
variable (hk:0<=k) (hs: ∀x∈s,0<=x/\x<k)
include hk hs in
theorem yZ: ∀ {l:List Int},kD s l->wZ s k l (itF s k l).1 (itF s k l).2
 |[],_=>aFl hk hs (by show(qP _).length=_;rw[EX,dY]) λc c0 ck=>by
  show rd (qP _) c=_;rw[KM c0 (by rw[dY];omega)];rfl
 |j::l,ok=>(yZ (l:=l) ok.tail).step hk hs ok
section
variable {R R':Int->Int->Prop} (hR:aYq s R) (Mc:bDh s R') (Hx: ∀p q,isL s p->isL s q->R p q->R' p q) (hσ: ∀c,(dX l s c).Pairwise R)
include hk hs hR hσ in
theorem UX (hp:l.Perm (bU s)) (hn:0<s.length): ∀i:Nat,i<=s.length->jL s k R (λc=>(dX l s c).length) (itF s k l).1 (itL s k l i).1 (itL s k l i).2 (CL s (itL s k l i).1 i)
 |0,_=>ZW hk hs hR (uG hR hk hs (yZ hk hs (kH hp)) hp hσ) hn (by rw[fE,dY]) λc c0 ck=>nK c0 (by rw[dY];omega)
 | i+1,hi=>by
  have ih:=UX hp hn i G;have b:=uG hR hk hs (yZ hk hs (kH hp)) hp hσ;rw[show((i+1:Nat):Int)=(i:Int)+1 by omega];rw[itL];unfold XI;split
  ·rename_i hc;exact aEy hk hs hR ih b G G hc
  ·rename_i hc;exact aEz ih hc
theorem bAi {row:List Int} {q:Int} (h0:0<=q) (h:q<row.length):rd (CR s row) q=noS s (rd row q):=by
 unfold CR rd;rw[ai,ai,sj,av G];rfl
include hk hs hR hσ Hx in
theorem rE (hp:l.Perm (bU s)) (hn:0<s.length):rG s k R' (λc=>rd (itL s k l s.length).2 c) (CR s (itL s k l s.length).1)/\ ∀q:Int,0<=q->q<s.length-> ¬isS s (rd (CR s (itL s k l s.length).1) q):=by
 have h:=UX hk hs hR hσ hp hn s.length (di _);exact cleared hk hs Hx h (uG hR hk hs (yZ hk hs (kH hp)) hp hσ) (by unfold CR;rw[bz];exact h.len) λq q0 q1=>bAi q0 (by rw[h.len];exact q1)
include hk hs hR Mc hσ Hx in
theorem UW (hp:l.Perm (bU s)) (hn:0<s.length): ∀m:Nat,m<=s.length->jK s k R' (λc=>rd (itL s k l s.length).2 c) (CR s (itL s k l s.length).1) (itS s k l m).1 (itS s k l m).2 (CS s (itS s k l m).1 (s.length-m))
 | 0,_=>by
  have b:=rE hk hs hR Hx hσ hp hn
  exact XN b.1 (by show(qP _).length=_;rw[EX,dY]) (λc c0 ck=>by
   show rd (qP _) c=_;rw[KM c0 (by rw[dY];omega)]
   rfl) b.2
 | m+1,hm=>by
  have ih:=UW hp hn m G;have b:=(rE hk hs hR Hx hσ hp hn).1;rw[show(s.length:Int)-(m:Nat)=(s.length-1-(m:Int))+1 by omega] at ih;rw[show(s.length:Int)-((m+1:Nat):Int)=s.length-1-(m:Int) by omega];rw[itS];unfold XG;split
  ·rename_i hc;exact aDo hk hs Mc ih b G G hc
  ·rename_i hc;exact aDp ih hc
include hk hs hR Mc hσ Hx in
theorem aAb (hp:l.Perm (bU s)) (hn:0<s.length):(qN s k l).Perm (iota s.length)/\(∀q:Int,0<=q->q+1<s.length->rd s (rd (qN s k l) q)<=rd s (rd (qN s k l) (q+1)))/\(qN s k l).Pairwise R':=by
 have h:=UW hk hs hR Mc Hx hσ hp hn s.length (di _);rw[show(s.length:Int)-(s.length:Nat)=0 by omega] at h;exact BX hk hs h (rE hk hs hR Hx hσ hp hn).1
end
def RO (s l:List Int) (x y:Int):Prop:=l.Pairwise (bX s)->bX s x y
theorem aYr:aYq s (RO s l):=⟨λhp hq h _=>sD hp hq h,λhp hq h _=>aEs hp hq h,λhn q0 hq e _ _=>aTi hn q0 hq e,λhp hq p1 q1 e h hσ=>LD hp.1.1 p1 hq.1.1 q1 e (h hσ)⟩
theorem bNt:bDh s (RO s l):=⟨λhp hq h _=>sD hp hq h,λhp hq h _=>aEs hp hq h,λhp hq p1 q1 e h hσ=>LD hp.1.1 p1 hq.1.1 q1 e (h hσ)⟩
theorem NV (c:Int):(dX l s c).Pairwise (RO s l):=by
 by_cases h:l.Pairwise (bX s)
 ·exact(h.sublist uj:(dX l s c).Pairwise (bX s)).imp λh _=>h
 ·exact List.pairwise_of_forall λ_ _ hσ=>absurd hσ h
include hk hs in
theorem wJ (hp:l.Perm (bU s)):uP s k (RO s l) (λc=>(dX l s c).length) (itF s k l).1:=uG aYr hk hs (yZ hk hs (kH hp)) hp NV
include hk hs in
theorem UY (hp:l.Perm (bU s)) (hn:0<s.length): ∀i:Nat,i<=s.length->jL s k (RO s l) (λc=>(dX l s c).length) (itF s k l).1 (itL s k l i).1 (itL s k l i).2 (CL s (itL s k l i).1 i):=UX hk hs aYr NV hp hn
include hk hs in
theorem NE (hp:l.Perm (bU s)) (hn:0<s.length):rG s k (RO s l) (λc=>rd (itL s k l s.length).2 c) (CR s (itL s k l s.length).1)/\ ∀q:Int,0<=q->q<s.length-> ¬isS s (rd (CR s (itL s k l s.length).1) q):=rE hk hs aYr (λ_ _ _ _ h=>h) NV hp hn
include hk hs in
theorem aUq (hp:l.Perm (bU s)) (hn:0<s.length): ∀m:Nat,m<=s.length->jK s k (RO s l) (λc=>rd (itL s k l s.length).2 c) (CR s (itL s k l s.length).1) (itS s k l m).1 (itS s k l m).2 (CS s (itS s k l m).1 (s.length-m)):=UW hk hs aYr bNt (λ_ _ _ _ h=>h) NV hp hn
include hk hs in
theorem aIz (hp:l.Perm (bU s)) (hn:0<s.length):(qN s k l).Perm (iota s.length)/\(∀q:Int,0<=q->q+1<s.length->rd s (rd (qN s k l) q)<=rd s (rd (qN s k l) (q+1)))/\(l.Pairwise (bX s)->(qN s k l).Pairwise (bX s)):=by
 have h:=aAb hk hs (l:=l) aYr bNt (λ_ _ _ _ h=>h) NV hp hn;exact⟨h.1,h.2.1,λhσ=>h.2.2.imp λh=>h hσ⟩
end
end Go.Pure
namespace Go.Pure
open Go Go.Eng
section
variable {s:List Int} {k:Int} {l row E H V:List Int}
theorem aUr {m:Nat} (hm:m<l.length):itF s k (l.drop m)=bHc s (rd l (m:Int)) (itF s k (l.drop (m+1))):=by
 unfold itF;rw[iL hm,ku hm,List.foldr_cons]
theorem CE (h:kD s l) (m:Nat):kD s (l.drop m):=⟨h.1.sublist (zw _ _),λj hj=>h.2 j (pg hj)⟩
variable (hk:0<=k) (hs: ∀x∈s,0<=x/\x<k)
include hk hs in
include hk hs in
theorem fF (hp:l.Perm (bU s)) {m:Nat} (hm:m<l.length) (hr:row=(itF s k (l.drop (m+1))).1) (hE:E=(itF s k (l.drop (m+1))).2):
  (0<=rd l (m:Int)/\rd l (m:Int)<s.length)/\(0<=rd s (rd l (m:Int))/\rd s (rd l (m:Int))<k)/\(0<=rd E (rd s (rd l (m:Int)))-1/\rd E (rd s (rd l (m:Int)))-1<s.length)/\(row.length=s.length/\E.length=k.toNat)/\
  upd row (rd E (rd s (rd l (m:Int)))-1) (rd l (m:Int))=(itF s k (l.drop m)).1/\upd E (rd s (rd l (m:Int))) (rd E (rd s (rd l (m:Int)))-1)=(itF s k (l.drop m)).2:=by
 have ok:=kH hp;have h:=yZ hk hs (CE ok (m+1))
 have ok2:kD s (rd l (m:Int)::l.drop (m+1)):=by
  have:=CE ok m;rwa[ku hm,<-iL hm] at this
 have r:=h.room hk hs ok2;rw[aUr hm];subst hr;subst hE;exact⟨(ok2.2 _ cD).1,r.2.2.1,r.2.1,⟨h.len,h.elen⟩,rfl,rfl⟩
include hk hs in
theorem fL0 (hp:l.Perm (bU s)) (hn:0<s.length) (hr:row=(itF s k l).1) (hH:H=dE (eD s k)):
  (0<=rd s ((s.length:Int)-1)/\rd s ((s.length:Int)-1)<k)/\(0<=rd H (rd s ((s.length:Int)-1))/\rd H (rd s ((s.length:Int)-1))<s.length)/\(row.length=s.length/\H.length=k.toNat)/\
  upd row (rd H (rd s ((s.length:Int)-1))) ((s.length:Int)-1)=(itL s k l 0).1/\upd H (rd s ((s.length:Int)-1)) (rd H (rd s ((s.length:Int)-1))+1)=(itL s k l 0).2/\smB s ((s.length:Int)-1)=false:=by
 have h:=yZ hk hs (kH hp);have hc:=nA hs (p:=(s.length:Int)-1) G;have gv:rd H (rd s ((s.length:Int)-1))=st s k (rd s ((s.length:Int)-1)):=by rw[hH,nK hc.1 (by rw[dY];omega)];rfl
 have h1:=fK (s:=s) (k:=k) (c:=rd s ((s.length:Int)-1));have h2:=kL (s:=s) hc.1 hc.2;have h3:=yB hk hs (c:=rd s ((s.length:Int)-1)+1) G G;have hl:isL s ((s.length:Int)-1):=⟨G,qF G G⟩;have h4:0<(GR s (rd s ((s.length:Int)-1))).length:=Di (LU.2 ⟨hl,rfl⟩);have Pu:=hl.2;subst hr;subst hH;exact⟨hc,G,⟨h.len,by rw[fE,dY]⟩,rfl,rfl,Pu⟩
include hk hs in
theorem fLe (hp:l.Perm (bU s)) (hn:0<s.length) {i:Nat} (hi:i<s.length) (hr:row=(itL s k l i).1) (hH:H=(itL s k l i).2):
  (rd row (i:Int)= -1\/(0<=rd row (i:Int)/\rd row (i:Int)<s.length))/\(row.length=s.length/\H.length=k.toNat):=by
 have h:=UY hk hs hp hn i G;have b:=wJ hk hs hp;subst hr;subst hH;exact⟨h.entry hk hs b G G,h.len,h.hlen⟩
include hk hs in
theorem fL (hp:l.Perm (bU s)) (hn:0<s.length) {i:Nat} (hi:i<s.length) (hr:row=(itL s k l i).1) (hH:H=(itL s k l i).2) (hc:0<rd row (i:Int)/\smB s (rd row (i:Int)-1)=false):
  rd row (i:Int)<s.length/\(0<=rd s (rd row (i:Int)-1)/\rd s (rd row (i:Int)-1)<k)/\(0<=rd H (rd s (rd row (i:Int)-1))/\rd H (rd s (rd row (i:Int)-1))<s.length)/\
  upd row (rd H (rd s (rd row (i:Int)-1))) (rd row (i:Int)-1)=(itL s k l (i+1)).1/\upd H (rd s (rd row (i:Int)-1)) (rd H (rd s (rd row (i:Int)-1))+1)=(itL s k l (i+1)).2:=by
 have h:=UY hk hs hp hn i G;have b:=wJ hk hs hp;subst hr;subst hH;obtain⟨h1,h2,h3,_⟩:=QZ hk hs h b G G hc;have hb:=nA hs h1.1;have hr:=h.room hk hs b h1 h2;have h4:=(h.hH _ hb.1 hb.2).1;have h5:=fK (s:=s) (k:=k) (c:=rd s (rd (itL s k l i).1 (i:Int)-1));have h6:=yB hk hs (c:=rd s (rd (itL s k l i).1 (i:Int)-1)+1) G G;have h7:=kL (s:=s) hb.1 hb.2;refine⟨h3,hb,⟨G,G⟩,?_,?_⟩
 ·rw[itL,XI,df hc];rfl
 ·rw[itL,XI,df hc];rfl
theorem fLs {i:Nat} (hr:row=(itL s k l i).1) (hH:H=(itL s k l i).2) (hc: ¬(0<rd row (i:Int)/\smB s (rd row (i:Int)-1)=false)):row=(itL s k l (i+1)).1/\H=(itL s k l (i+1)).2:=by
 subst hr;subst hH;rw[itL,XI,bu hc];exact⟨rfl,rfl⟩
def qR (s row:List Int) (i:Int):List Int:=(row.take i.toNat).map (noS s)++row.drop i.toNat
theorem aPa:qR s row 0=row:=by simp[qR]
theorem aBv (i:Int):(qR s row i).length=row.length:=by simp[qR];omega
theorem aXm {i:Int} (h:(row.length:Int)<=i):qR s row i=CR s row:=by
 unfold qR CR;rw[bn G,oq G,jk]
theorem UF {i q:Int} (q0:0<=q) (hq:i<=q) (h0:0<=i) (hl:i<=row.length):rd (qR s row i) q=rd row q:=by
 unfold qR rd;rw[ai,ai,ig cH,ql];simp only[bz,ax];congr 2;omega
theorem SB {i:Int} (h0:0<=i) (hi:i<row.length):qR s row (i+1)=upd (qR s row i) i (noS s (rd row i)):=by
 unfold qR upd;have bc:i.toNat<row.length:=G
 rw[show(i+1).toNat=i.toNat+1 by omega,su,av bc,Dv _ _ cH,jo];simp only[bz,ax,Cs,lm,ry,gy,qb];congr 1;rw[show i.toNat-min i.toNat row.length=0 by omega,ku bc,Ga,fG h0 hi]
theorem bCt {i:Int} (h0:0<=i) (hi:i<row.length) (h:0<=rd (qR s row i) i/\smB s (rd (qR s row i) i)=true):upd (qR s row i) i (-1)=qR s row (i+1):=by
 rw[UF h0 (lq _) h0 G] at h;rw[SB h0 hi,noS,df h]
theorem aQr {l:List Int} {i:Int} (h0:0<=i) (hi:i<l.length):upd l i (rd l i)=l:=by
 unfold upd;rw[fG h0 hi,List.set_getElem_self]
theorem bHu {i:Int} (h0:0<=i) (hi:i<row.length) (h: ¬(0<=rd (qR s row i) i/\smB s (rd (qR s row i) i)=true)):qR s row i=qR s row (i+1):=by
 have e:=UF (s:=s) (row:=row) h0 (lq _) h0 (by omega:i<=(row.length:Int));rw[e] at h;rw[SB h0 hi,noS,bu h];have:=aQr (l:=qR s row i) h0 (by rw[aBv];exact hi);rw[e] at this;exact this.symm
include hk hs in
theorem bCu (hp:l.Perm (bU s)) (hn:0<s.length) {q:Int} (q0:0<=q) (hq:q<s.length):rd (itL s k l s.length).1 q= -1\/(0<=rd (itL s k l s.length).1 q/\rd (itL s k l s.length).1 q<s.length):=
 (UY hk hs hp hn s.length (di _)).entry hk hs (wJ hk hs hp) q0 hq
include hk hs in
theorem IX (hp:l.Perm (bU s)) (hn:0<s.length):(itL s k l s.length).1.length=s.length:=(UY hk hs hp hn s.length (di _)).len
include hk hs in
theorem fSe (hp:l.Perm (bU s)) (hn:0<s.length) {m:Nat} (hm:m<s.length) {i:Int} (hi:i=s.length-1-(m:Int)) (hr:row=(itS s k l m).1) (hE:E=(itS s k l m).2):
  (rd row i= -1\/(0<=rd row i/\rd row i<s.length))/\(row.length=s.length/\E.length=k.toNat):=by
 have h:=aUq hk hs hp hn m G;have b:=(NE hk hs hp hn).1;subst hr;subst hE;exact⟨h.entry hk hs b G G,h.len,h.elen⟩
include hk hs in
theorem fS (hp:l.Perm (bU s)) (hn:0<s.length) {m:Nat} (hm:m<s.length) {i:Int} (hi:i=s.length-1-(m:Int)) (hr:row=(itS s k l m).1) (hE:E=(itS s k l m).2) (hc:0<rd row i/\smB s (rd row i-1)=true):
  rd row i<s.length/\(0<=rd s (rd row i-1)/\rd s (rd row i-1)<k)/\(0<=rd E (rd s (rd row i-1))-1/\rd E (rd s (rd row i-1))-1<s.length)/\
  upd row (rd E (rd s (rd row i-1))-1) (rd row i-1)=(itS s k l (m+1)).1/\upd E (rd s (rd row i-1)) (rd E (rd s (rd row i-1))-1)=(itS s k l (m+1)).2:=by
 have h:=aUq hk hs hp hn m G;have b:=(NE hk hs hp hn).1;subst hr;subst hE;have kp:CS s (itS s k l m).1 (s.length-(m:Int))=CS s (itS s k l m).1 (i+1):=by rw[hi];congr 1;omega
 rw[kp] at h;obtain⟨h1,h2,h3,_⟩:=QC hk hs h b G G hc;have hb:=nA hs h1.1;have hr:=h.room hk hs b h1 h2;have h4:=h.hE _ hb.1 hb.2;have h5:=fK (s:=s) (k:=k) (c:=rd s (rd (itS s k l m).1 i-1));have h6:=yB hk hs (c:=rd s (rd (itS s k l m).1 i-1)+1) G G;have h7:=kL (s:=s) hb.1 hb.2;refine⟨h3,hb,⟨G,G⟩,?_,?_⟩
 ·rw[itS,XG,<-hi,df hc];rfl
 ·rw[itS,XG,<-hi,df hc];rfl
theorem fSs {m:Nat} {i:Int} (hi:i=s.length-1-(m:Int)) (hr:row=(itS s k l m).1) (hE:E=(itS s k l m).2) (hc: ¬(0<rd row i/\smB s (rd row i-1)=true)):row=(itS s k l (m+1)).1/\E=(itS s k l (m+1)).2:=by
 subst hr;subst hE;rw[itS,XG,<-hi,bu hc];exact⟨rfl,rfl⟩
include hk hs in
theorem aUx (hp:l.Perm (bU s)):(qN s k l).length=s.length:=by
 rcases dz s.length with h|h
 ·have e:s=[]:=ed h;subst e;have hl:l=[]:=ed (by rw[hp.length_eq];rfl);subst hl;simp[qN,itS,CR,itL,bBt,itF,upd]
 ·rw[(aIz hk hs hp h).1.length_eq,bI]
theorem aAc (hl:l.Perm (bU [])):qN [] k l=[]:=by
 have hl:l=[]:=ed (by rw[hl.length_eq];rfl);subst hl;simp[qN,itS,CR,itL,bBt,itF,upd]
def smL (s:List Int):List Bool:=(List.range s.length).map λi:Nat=>smB s (i:Int)
theorem aZl (s:List Int):(smL s).length=s.length:=by simp[smL]
theorem mU {i:Int} (h0:0<=i) (hi:i<s.length):rdb (smL s) i=smB s i:=by
 unfold rdb smL;rw[ai,sj,Af G];simp only[ky,nz];congr 1;omega
theorem bFw {m:List Bool} (hl:m.length=s.length) (h: ∀j:Int,0<=j->j<s.length->rdb m j=smB s j):m=smL s:=
 aPi (by rw[hl,aZl]) λi h0 h1=>by rw[mU h0 G];exact h i h0 G
theorem TL {m:List Bool} {i:Int} {b:Bool} (h0:0<=i) (hi:i+1<s.length) (hl:m.length=s.length) (h: ∀j:Int,i<j->j<s.length->rdb m j=smB s j) (hb:b=true↔rd s i<rd s (i+1)\/rd s i=rd s (i+1)/\rdb m (i+1)=true): ∀j:Int,i-1<j->j<s.length->rdb (qB m i b) j=smB s j:=by
 intro j h1 h2;rw[xI h0 G G];split
 ·rename_i e;subst e;rw[h (j+1) G G,<-vL h0 hi] at hb;cases b<;>cases hh:smB s j<;>simp_all
 ·exact h j G h2
def ME (s:List Int) (i:Int):List Int:=(iota i.toNat).filter λi=>gF s i
theorem MC:ME s s.length=bU s:=by unfold ME bU;rw[cu]
theorem ES {i:Int} (h0:0<=i):ME s (i+1)=ME s i++(if gF s i=true then [i] else []):=by
 unfold ME;rw[ER h0,ug];congr 1;by_cases h:gF s i=true
 ·rw[df h,pz h];rfl
 ·rw[bu h,ll h];rfl
theorem aAg (i:Int):(ME s i).length<=i.toNat:=by
 unfold ME;refine qp (zm _ _) ?_;rw[bI];exact di _
theorem MF:(bU s).length<=s.length:=by rw[<-MC];have:=aAg (s:=s) s.length;omega
end
end Go.Pure
namespace Go.Pure
open Go Go.Eng
section
variable {s:List Int} {k:Int}
theorem BU (n:Nat):(iota n).Pairwise (· < ·):=by
 unfold iota;refine iw.2 (List.Pairwise.imp (λh=> ?_) List.pairwise_lt_range);omega
def kk (s:List Int) (p:Int):Int:=if p<s.length then 2*rd s p+(if smB s p=true then 1 else 0) else -1
theorem wF {p:Int} (h:(s.length:Int)<=p):kk s p= -1:=bu G
theorem BR {p:Int} (h:p<s.length):kk s p=2*rd s p+(if smB s p=true then 1 else 0):=df h
theorem UT {p:Int} (h:isL s p):kk s p=2*rd s p:=by rw[BR h.1.2,h.2];simp
theorem UR {p:Int} (h:isS s p):kk s p=2*rd s p+1:=by rw[BR h.1.2,h.2];simp
def Nn (s:List Int):Prop:= ∀x∈s,0<=x
theorem aUl (hs:Nn s) {p:Int} (h0:0<=p) (h:p<s.length):0<=kk s p:=by
 have:=hs _ (bN h0 h);rw[BR h];split<;>omega
theorem bJm (hs:Nn s) {p:Int} (h0:0<=p): -1<=kk s p:=by
 rcases bi p s.length with h|h
 ·have:=aUl hs h0 h;omega
 ·rw[wF h];omega
theorem pK (hs:Nn s) {p q:Int} (p0:0<=p) (q0:0<=q) (e:kk s p=kk s q) (h:p<s.length):q<s.length/\rd s p=rd s q/\smB s p=smB s q:=by
 have hq:q<s.length:=by
  rcases bi q s.length with a|a
  ·exact a
  ·have:=aUl hs p0 h;rw[wF a] at e;omega
 rw[BR h,BR hq] at e;cases a:smB s p<;>cases b:smB s q<;>simp[a,b] at e<;>exact⟨hq,G,by first|rfl|omega⟩
theorem bBu (hs:Nn s) {p q:Int} (p0:0<=p) (q0:0<=q) (h:kk s p<kk s q) (hp:p<s.length):bX s p q:=by
 have hq:q<s.length:=by
  rcases bi q s.length with a|a
  ·exact a
  ·have:=aUl hs p0 hp;rw[wF a] at h;omega
 rcases qM (s:=s) ⟨p0,hp⟩ with a|a<;>rcases qM (s:=s) ⟨q0,hq⟩ with b|b
 ·rw[UT a,UT b] at h;exact sD ⟨p0,hp⟩ ⟨q0,hq⟩ G
 ·rw [UT a,UR b] at h;by_cases e:rd s p=rd s q
  ·exact aEs a b e
  ·exact sD ⟨p0,hp⟩ ⟨q0,hq⟩ G
 ·rw[UR a,UT b] at h;exact sD ⟨p0,hp⟩ ⟨q0,hq⟩ G
 ·rw[UR a,UR b] at h;exact sD ⟨p0,hp⟩ ⟨q0,hq⟩ G
theorem BH {q:Int} (q0:0<=q) (hq:q<s.length) {p:Int} (hp:(s.length:Int)<=p):bX s p q:=by
 rw[<-gT,wM hp,gK q0 hq];simp[cmpL]
theorem aUk (hs:Nn s): ∀(d:Nat) (x y:Int),0<=x->0<=y->(∀i:Nat,i<d->kk s (x+i)=kk s (y+i))->kk s (x+d)<kk s (y+d)->bX s x y
 | 0,x,y,x0,y0,_,h=>by
  simp only[Bo,yh] at h;rcases bi x s.length with a|a
  ·exact bBu hs x0 y0 h a
  ·have hy:y<s.length:=by
    rcases bi y s.length with b|b
    ·exact b
    ·rw[wF a,wF b] at h;omega
   exact BH y0 hy a
 | d+1,x,y,x0,y0,he,h=>by
  have e0:=he 0 G;simp only[Bo,yh] at e0
  have ih:=aUk hs d (x+1) (y+1) G G (λi hi=>by
   have:=he (i+1) G
   rwa[show x+((i+1:Nat):Int)=x+1+i by omega,show y+((i+1:Nat):Int)=y+1+i by omega] at this) (by rwa[show x+((d+1:Nat):Int)=x+1+d by omega,show y+((d+1:Nat):Int)=y+1+d by omega] at h)
  rcases bi x s.length with a|a
  ·obtain ⟨hy,e,_⟩:=pK hs x0 y0 e0 a;rw[mV x0 a y0 hy];exact .inr ⟨e,gT.2 ih⟩
  ·have b:(s.length:Int)<=y:=by
    rcases bi y s.length with b|b
    ·have:=(pK hs y0 x0 e0.symm b).1;omega
    ·exact b
   rw[wF (by omega:(s.length:Int)<=x+((d+1:Nat):Int)),wF (by omega:(s.length:Int)<=y+((d+1:Nat):Int))] at h;omega
theorem NG: ∀(d:Nat) (x y:Int),0<=x->0<=y->x+d<s.length->y+d<s.length->(∀i:Nat,i<d->rd s (x+i)=rd s (y+i))->bX s (x+d) (y+d)->bX s x y
 |0,x,y,_,_,_,_,_,h=>by simpa using h
 | d+1,x,y,x0,y0,hx,hy,he,h=>by
  have e0:=he 0 G;simp only[Bo,yh] at e0;refine LD x0 G y0 G e0 (NG d (x+1) (y+1) G G G G (λi hi=> ?_) ?_)
  ·have:=he (i+1) G;rwa[show x+((i+1:Nat):Int)=x+1+i by omega,show y+((i+1:Nat):Int)=y+1+i by omega] at this
  ·rwa[show x+((d+1:Nat):Int)=x+1+d by omega,show y+((d+1:Nat):Int)=y+1+d by omega] at h
def pcL (s:List Int) (x y:Int):Prop:= ∀d:Nat,(∀i:Nat,i<d->kk s (x+i)=kk s (y+i)/\gF s (x+i)=false)->kk s (x+d)<=kk s (y+d)
def pcS (s:List Int) (x y:Int):Prop:= ∀d:Nat,(∀i:Nat,i<d->kk s (x+i)=kk s (y+i)/\(0<i->gF s (x+i)=false))->kk s (x+d)<=kk s (y+d)
def pcE (s:List Int) (x y:Int):Prop:= ∀d:Nat,(∀i:Nat,0<i->i<d->gF s (x+i)=false)->kk s (x+d)=kk s (y+d)
theorem pcS.toL {x y:Int} (h:pcS s x y):pcL s x y:=λd hd=>h d λi hi=>⟨(hd i hi).1,λ_=>(hd i hi).2⟩
theorem pcL.toS {x y:Int} (h:pcL s x y) (hx:gF s x=false):pcS s x y:=λd hd=>h d λi hi=>⟨(hd i hi).1,by
 rcases dz i with e|e
 ·subst e;simpa using hx
 ·exact(hd i hi).2 e⟩
theorem aTc {x y:Int} (h:kk s x<kk s y):pcS s x y:=λd hd=>by
 rcases dz d with e|e
 ·subst e;simp;omega
 ·have:=(hd 0 e).1;simp at this;omega
theorem LB {x y:Int} (e:kk s x=kk s y) (h:pcL s (x+1) (y+1)):pcS s x y:=λd hd=>by
 match d with
 |0=>simp;omega
 | d+1=>
  have:=h d λi hi=>by
   have:=hd (i+1) G;rw[show x+((i+1:Nat):Int)=x+1+i by omega,show y+((i+1:Nat):Int)=y+1+i by omega] at this;exact⟨this.1,this.2 G⟩
  rwa[show x+((d+1:Nat):Int)=x+1+d by omega,show y+((d+1:Nat):Int)=y+1+d by omega]
theorem isL.not_fst {x:Int} (h:isL s x):gF s x=false:=by
 cases e:gF s x with
 |false=>rfl
 |true=>have:=(mX.1 e).2.1;rw[h.2] at this;cases this
theorem ZA {p q:Int} (hp:0<=p/\p<s.length) (hq:0<=q/\q<s.length) (h:rd s p<rd s q):pcS s p q:=by
 refine aTc ?_;rw[BR hp.2,BR hq.2];split<;>split<;>omega
theorem aTd {p q:Int} (hp:isL s p) (hq:isS s q) (e:rd s p=rd s q):pcS s p q:=aTc (by rw[UT hp,UR hq];omega)
theorem bAq (hs:Nn s):aYq s (pcL s):=⟨λhp hq h=>(ZA hp hq h).toL,λhp hq e=>(aTd hp hq e).toL,λ{q} hn q0 hq e hL=>by
  have hl:isL s (s.length-1):=⟨G,qF G G⟩;refine(LB (by rw[UT hl,UT hL,e]) λd hd=> ?_).toL;rw[wF (by omega:(s.length:Int)<=s.length-1+1+d)]
  exact bJm hs G,λhp hq _ _ e h=>(LB (by rw[UT hp,UT hq,e]) h).toL⟩
theorem bAp:bDh s (pcS s):=⟨ZA,aTd,λhp hq _ _ e h=>LB (by rw[UR hp,UR hq,e]) h.toL⟩
theorem bGk (l:List Int) (ok:kD s l) (c:Int):(dX l s c).Pairwise (pcL s):=by
 refine dn.2 λi j hi hj _=> ?_;have hx:=og.1 (lu hi);have hy:=og.1 (lu hj);rw[iv] at hx hy;intro d hd
 match d with
 |0=>simp only[Bo,yh];rw[UR (ok.small hx.1),UR (ok.small hy.1)];omega
 |d+1=>
  have:=(hd 0 G).2;simp only[Bo,yh] at this;rw[(ok.2 _ hx.1).2] at this;cases this
theorem aFf (hk:0<=k) (hs: ∀x∈s,0<=x/\x<k) {l:List Int} (hp:l.Perm (bU s)) (hn:0<s.length):(qN s k l).Perm (iota s.length)/\(qN s k l).Pairwise (pcS s):=by
 have h:=aAb hk hs (bAq λx hx=>(hs x hx).1) bAp (λp q hp _ h=>h.toS hp.not_fst) (bGk l (kH hp)) hp hn;exact⟨h.1,h.2.2⟩
theorem bHg (hs:Nn s) {x y:Int} (x0:0<=x) (y0:0<=y) (e:kk s x=kk s y) (e1:kk s (x+1)=kk s (y+1)):gF s (x+1)=gF s (y+1):=by
 unfold gF;rw[show x+1-1=x by omega,show y+1-1=y by omega];rw[nk (by omega:0<x+1),nk (by omega:0<y+1)];rcases bi (x+1) s.length with a|a
 ·rw[(pK hs x0 y0 e G).2.2,(pK hs G G e1 a).2.2]
 ·have b:(s.length:Int)<=y+1:=by
   rcases bi (y+1) s.length with b|b
   ·have:=(pK hs G G e1.symm b).1;omega
   ·exact b
  rw[qF (i:=x+1) G G,qF (i:=y+1) G G];simp
theorem BZ (hs:Nn s) {x y:Int} (x0:0<=x) (y0:0<=y) {i:Nat} (hi:0<i) (e: ∀j:Nat,j<=i->kk s (x+j)=kk s (y+j)):gF s (x+i)=gF s (y+i):=by
 have h1:=e (i-1) G;have h2:=e i (di _);have:=bHg hs (x:=x+((i-1:Nat):Int)) (y:=y+((i-1:Nat):Int)) G G h1 (by rwa[show x+((i-1:Nat):Int)+1=x+i by omega,show y+((i-1:Nat):Int)+1=y+i by omega]);rwa[show x+((i-1:Nat):Int)+1=x+i by omega,show y+((i-1:Nat):Int)+1=y+i by omega] at this
theorem AQ (hs:Nn s) {x u v y:Int} (x0:0<=x) (u0:0<=u) (v0:0<=v) (h1:pcS s x u) (h2:pcS s u v) (h3:pcS s v y) (he:pcE s x y): ∀d:Nat,(∀i:Nat,0<i->i<d->gF s (u+i)=false)-> ∀i:Nat,i<=d->kk s (x+i)=kk s (u+i)/\kk s (u+i)=kk s (v+i)/\kk s (x+i)=kk s (y+i)
 |0,_,i,hi=>by
  obtain rfl:i=0:=G
  have a:=h1 0 (λi hi=>G);have b:=h2 0 (λi hi=>G);have c:=h3 0 (λi hi=>G);have d:=he 0 (λi _ hi=>G);omega
 | d+1,hd,i,hi=>by
  have ih:=AQ hs x0 u0 v0 h1 h2 h3 he d λi h0 hi=>hd i h0 G;rcases fe d i with g|g
  ·obtain rfl:i=d+1:=G
   have fu: ∀i:Nat,i<d+1->0<i->gF s (u+i)=false:=λi hi h0=>hd i h0 hi
   have fx: ∀i:Nat,i<d+1->0<i->gF s (x+i)=false:=λi hi h0=>by
    rw[BZ hs x0 u0 h0 λj hj=>(ih j G).1];exact fu i hi h0
   have vy: ∀i:Nat,i<d+1->kk s (v+i)=kk s (y+i):=λi hi=>by have:=ih i G;omega
   have a:=h1 (d+1) λi hi=>⟨(ih i G).1,fx i hi⟩;have b:=h2 (d+1) λi hi=>⟨(ih i G).2.1,fu i hi⟩;have e:=he (d+1) λi h0 hi=>fx i hi h0
   have c:kk s (v+((d+1:Nat):Int))<=kk s (y+((d+1:Nat):Int)):=by
    refine h3 (d+1) λi hi=>⟨vy i hi,λh0=> ?_⟩;rw[<-BZ hs u0 v0 h0 λj hj=>(ih j G).2.1];exact fu i hi h0
   omega
  ·exact ih i g
theorem aDq (hs:Nn s) {x u v y:Int} (x0:0<=x) (u0:0<=u) (v0:0<=v) (h1:pcS s x u) (h2:pcS s u v) (h3:pcS s v y) (he:pcE s x y):pcE s x u/\pcE s u v:=by
 refine⟨λd hd=> ?_,λd hd=>(AQ hs x0 u0 v0 h1 h2 h3 he d hd d (di _)).2.1⟩
 suffices h: ∀d:Nat,(∀i:Nat,0<i->i<d->gF s (x+i)=false)-> ∀i:Nat,i<=d->kk s (x+i)=kk s (u+i) from h d hd d (di _)
 intro d
 induction d with
 |zero=>intro _ i hi;obtain rfl:i=0:=G;exact(AQ hs x0 u0 v0 h1 h2 h3 he 0 (λi h0 hi=>G) 0 (di _)).1
 |succ d ih=>
  intro hd i hi;have Vj:=ih λi h0 hi=>hd i h0 G;refine(AQ hs x0 u0 v0 h1 h2 h3 he (d+1) (λj h0 hj=> ?_) i hi).1;rw[<-BZ hs x0 u0 h0 λm hm=>Vj m G];exact hd j h0 hj
theorem pcE.symm (hs:Nn s) {x y:Int} (x0:0<=x) (y0:0<=y) (h:pcE s x y):pcE s y x:=by
 intro d hd
 suffices g: ∀d:Nat,(∀i:Nat,0<i->i<d->gF s (y+i)=false)-> ∀i:Nat,i<=d->kk s (y+i)=kk s (x+i) from g d hd d (di _)
 intro d
 induction d with
 |zero=>intro _ i hi;obtain rfl:i=0:=G;exact(h 0 λi h0 hi=>G).symm
 | succ d ih=>
  intro hd i hi;have Vj:=ih λi h0 hi=>hd i h0 G;rcases fe d i with g|g
  ·obtain rfl:i=d+1:=G
   refine(h (d+1) λj h0 hj=> ?_).symm;rw[<-BZ hs y0 x0 h0 λm hm=>Vj m G];exact hd j h0 hj
  ·exact Vj i g
theorem bAr (hs:Nn s) {x y:Int} (x0:0<=x) (y0:0<=y) (h:pcS s x y) (dv: ¬pcE s x y):bX s x y:=by
 have key: ∀D:Nat,(∀i:Nat,0<i->i<D->gF s (x+i)=false)-> ¬kk s (x+D)=kk s (y+D)-> ∃d:Nat,(∀i:Nat,i<d->kk s (x+i)=kk s (y+i))/\kk s (x+d)<kk s (y+d):=by
  intro D
  induction D using Nat.strongRecOn with
  | ind D ih=>
   intro hD dv;by_cases he: ∀i:Nat,i<D->kk s (x+i)=kk s (y+i)
   ·have:=h D λi hi=>⟨he i hi,λh0=>hD i h0 hi⟩;exact⟨D,he,G⟩
   ·obtain ⟨i,hi⟩:=Eh.1 he;obtain⟨jj,Pg⟩:=Classical.not_imp.1 hi;exact ih i jj (λj h0 hj=>hD j h0 G) Pg
 obtain⟨D,hD⟩:=Eh.1 dv;obtain⟨hD1,hD2⟩:=Classical.not_imp.1 hD;obtain⟨d,h1,h2⟩:=key D hD1 hD2;exact aUk hs d x y x0 y0 h1 h2
structure NxI (s:List Int) (x z:Int):Prop where
 gt:x<z
 le:z<=s.length
 no: ∀q,x<q->q<z->gF s q=false
 is:z<s.length->gF s z=true
theorem NxI.one {x z w:Int} (h:NxI s x z) (g:NxI s x w):z=w:=by
 rcases jd z w with a|a|a
 ·have h1:=h.is (by have:=g.le;omega);rw[g.no z h.gt a] at h1;cases h1
 ·exact a
 ·have h1:=g.is (by have:=h.le;omega);rw[h.no w g.gt a] at h1;cases h1
def Peq (s nx:List Int) (x y:Int):Prop:=rd nx x<s.length/\rd nx y<s.length/\rd nx x-x=rd nx y-y/\ ∀i:Int,0<=i->i<=rd nx x-x->rd s (x+i)=rd s (y+i)
theorem Peq.symm {nx:List Int} {x y:Int} (h:Peq s nx x y):Peq s nx y x:=⟨h.2.1,h.1,h.2.2.1.symm,λi h0 h1=>(h.2.2.2 i h0 (by have:=h.2.2.1;omega)).symm⟩
theorem Peq.trans {nx:List Int} {x y z:Int} (h:Peq s nx x y) (g:Peq s nx y z):Peq s nx x z:=⟨h.1,g.2.1,h.2.2.1.trans g.2.2.1,λi h0 h1=>(h.2.2.2 i h0 h1).trans (g.2.2.2 i h0 (by have:=h.2.2.1;omega))⟩
theorem Peq.E {nx:List Int} {x y:Int} (x0:0<=x) (y0:0<=y) (hx:NxI s x (rd nx x)) (hy:NxI s y (rd nx y)) (h:Peq s nx x y):pcE s x y:=by
 obtain⟨h1,h2,h3,h4⟩:=h;have vf:=hx.gt;have fx:=mX.1 (hx.is h1);have fy:=mX.1 (hy.is h2)
 have kinds: ∀m:Nat,∀i:Int,0<=i->i<=rd nx x-x->rd nx x-x-i<=m->smB s (x+i)=smB s (y+i):=by
  intro m
  induction m with
  |zero=>
   intro i i0 i1 i2;obtain rfl:i=rd nx x-x:=G
   rw[show x+(rd nx x-x)=rd nx x by omega,show y+(rd nx x-x)=rd nx y by omega,fx.2.1,fy.2.1]
  | succ m ih=>
   intro i i0 i1 i2;rcases bi i (rd nx x-x) with g|g
   ·have e:=ih (i+1) G G G;have c0:=h4 i i0 i1;have c1:=h4 (i+1) G G;have a:=vL (s:=s) (i:=x+i) G G;have b:=vL (s:=s) (i:=y+i) G G;rw[show x+i+1=x+(i+1) by omega] at a;rw[show y+i+1=y+(i+1) by omega,<-c0,<-c1,<-e] at b;exact Bool.eq_iff_iff.2 (a.trans b.symm)
   ·exact ih i i0 i1 G
 intro d hd
 have hdL:(d:Int)<=rd nx x-x:=by
  rcases bi (rd nx x-x) d with g|g
  ·have:=hd (rd nx x-x).toNat G G;rw[show x+(((rd nx x-x).toNat:Nat):Int)=rd nx x by omega,hx.is h1] at this;cases this
  ·exact g
 rw[BR G,BR G,h4 d G hdL,kinds (rd nx x-x).toNat d G hdL G]
theorem Peq.of_E (hs:Nn s) {nx:List Int} {x y:Int} (x0:0<=x) (y0:0<=y) (dv:x≠y) (hx:NxI s x (rd nx x)) (hy:NxI s y (rd nx y)) (h:pcE s x y):Peq s nx x y:=by
 have vf:=hx.gt;have hgty:=hy.gt;have ph:=hx.le;have hley:=hy.le
 have he: ∀i:Int,0<=i->i<=rd nx x-x->kk s (x+i)=kk s (y+i):=λi i0 i1=>by
  have:=h i.toNat λj j0 j1=>hx.no _ G G;rwa[show((i.toNat:Nat):Int)=i by omega] at this
 have hL:=he (rd nx x-x) G (lq _);have v8:=he (rd nx x-x-1) G G;rw[show x+(rd nx x-x)=rd nx x by omega] at hL;have hb:=(pK hs G G v8 G).1
 have ot:rd nx x<s.length:=by
  rcases bi (rd nx x) s.length with g|g
  ·exact g
  ·have:(s.length:Int)<=y+(rd nx x-x):=by
    rcases bi (y+(rd nx x-x)) s.length with b|b
    ·have:=(pK hs G G hL.symm b).1;omega
    ·exact b
   omega
 have hyL:=(pK hs G G hL ot).1
 have Mb: ∀i:Int,0<i->i<=rd nx x-x->gF s (x+i)=gF s (y+i):=λi i0 i1=>by
  have:=BZ hs x0 y0 (i:=i.toNat) G λj hj=>he j G G;rwa[show((i.toNat:Nat):Int)=i by omega] at this
 have hny:NxI s y (y+(rd nx x-x)):=⟨G,G,λq h1 h2=>by
  have:=Mb (q-y) G G;rw[show y+(q-y)=q by omega] at this;rw[<-this];exact hx.no _ G G,λ_=>by
  rw[<-Mb _ G (lq _),show x+(rd nx x-x)=rd nx x by omega]
  exact hx.is ot⟩
 have e:=hy.one hny;refine⟨ot,G,G,λi i0 i1=>(pK hs G G (he i i0 i1) G).2.1⟩
end
end Go.Pure
namespace Go.Pure
open Go Go.Eng
section
variable {s:List Int} {k:Int}
theorem aVf (s:List Int):(bU s).Pairwise (· < ·):=(BU _).sublist uj
theorem oI {a:Int} (h0:0<=a) (h:a<(bU s).length):(0<=rd (bU s) a/\rd (bU s) a<s.length)/\gF s (rd (bU s) a)=true:=sJ.1 (bN h0 h)
theorem VB {x:Int} (h0:0<=x) (h:x<s.length) (hf:gF s x=true): ∃a:Int,0<=a/\a<(bU s).length/\rd (bU s) a=x:=by
 obtain⟨u,hu,e⟩:=gz.1 (sJ.2 ⟨⟨h0,h⟩,hf⟩);exact⟨u,G,G,by rw[iL hu];exact e⟩
theorem CB {a b:Int} (h0:0<=a) (vd:a<b) (h:b<(bU s).length):rd (bU s) a<rd (bU s) b:=eT (aVf s) h0 vd h
theorem aNv (hn:0<s.length):(bU s).length<s.length:=by
 have:(bU s).length<=((iota s.length).erase 0).length:=nY (zA s) λx hx=>by
  have h:=sJ.1 hx;have h0:=(mX.1 h.2).1;exact(En G).2 (bE.2 h.1)
 rw[Cf (bE.2 ⟨lq 0,G⟩),bI] at this;omega
structure sQ (s nx:List Int) (i:Int):Prop where
 len:nx.length=s.length
 at_: ∀a:Int,0<=a->a<i->rd nx (rd (bU s) a)=if a+1<(bU s).length then rd (bU s) (a+1) else s.length
 no: ∀j:Int,0<=j->j<s.length->gF s j=false->rd nx j=0
theorem bAz:sQ s (List.replicate s.length 0) 0:=⟨cD,λa h0 h=>G,λj _ _ _=>tY⟩
theorem sQ.step {nx Zs:List Int} {i v:Int} (h:sQ s nx i) (h0:0<=i) (hi:i<(bU s).length) (hv:v=if i+1<(bU s).length then rd (bU s) (i+1) else s.length) (hl:Zs.length=s.length)
  (he: ∀j:Int,0<=j->rd Zs j=if j=rd (bU s) i then v else rd nx j):sQ s Zs (i+1):=by
 have hf:=oI h0 hi;refine⟨hl,λa a0 a1=> ?_,λj j0 j1 hj=> ?_⟩
 ·have ha:=oI (s:=s) a0 G;rw[he _ ha.1.1];by_cases e:a=i
  ·subst e;rw[df rfl,hv]
  ·rw [bu,h.at_ a a0 G];have:=CB (s:=s) a0 (by omega:a<i) hi;omega
 ·rw [he j j0,bu,h.no j j0 j1 hj];intro e;rw[e,hf.2] at hj;cases hj
theorem sQ.step1 {nx:List Int} {i:Int} (h:sQ s nx i) (h0:0<=i) (hi:i<(bU s).length) (hc: ¬i+1<(bU s).length):sQ s (upd nx (rd (bU s) i) s.length) (i+1):=by
 have hf:=oI h0 hi;exact h.step h0 hi (by rw[bu hc]) (by rw[bD];exact h.len) λj j0=>fV hf.1.1 j0 (by rw[h.len];exact hf.1.2)
theorem sQ.step2 {nx:List Int} {i:Int} {w:Int} (h:sQ s nx i) (h0:0<=i) (hi:i<(bU s).length) (hc:i+1<(bU s).length):sQ s (upd (upd nx (rd (bU s) i) w) (rd (bU s) i) (rd (bU s) (i+1))) (i+1):=by
 have hf:=oI h0 hi;refine h.step h0 hi (by rw[df hc]) (by rw[bD,bD];exact h.len) λj j0=> ?_;rw[fV hf.1.1 j0 (by rw[bD,h.len];exact hf.1.2)];split
 ·rfl
 ·rename_i e;rw[fV hf.1.1 j0 (by rw[h.len];exact hf.1.2),bu e]
theorem sQ.nx {nx:List Int} (h:sQ s nx (bU s).length) {x:Int} (h0:0<=x) (hx:x<s.length) (hf:gF s x=true):NxI s x (rd nx x):=by
 obtain⟨a,a0,a1,rfl⟩:=VB h0 hx hf;rw[h.at_ a a0 a1];split
 ·rename_i e;have g:=oI (s:=s) (a:=a+1) G e;refine⟨CB a0 G e,G,λq h1 h2=> ?_,λ_=>g.2⟩;cases hq:gF s q with
  |false=>rfl
  | true=>
   obtain⟨b,b0,b1,rfl⟩:=VB (s:=s) (x:=q) G G hq;exfalso;rcases jd b a with d|d|d
   ·have:=CB (s:=s) b0 d a1;omega
   ·subst d;omega
   ·rcases bi (a+1) b with d2|d2
    ·have:=CB (s:=s) (a:=a+1) G d2 b1;omega
    ·obtain rfl:b=a+1:=G
     omega
 ·rename_i e;refine⟨hx,lq _,λq h1 h2=> ?_,λh=>G⟩;cases hq:gF s q with
  |false=>rfl
  |true=>
   obtain⟨b,b0,b1,rfl⟩:=VB (s:=s) (x:=q) G G hq;exfalso;rcases jd b a with d|d|d
   ·have:=CB (s:=s) b0 d a1;omega
   ·subst d;omega
   ·omega
theorem sQ.zero {nx:List Int} (h:sQ s nx (bU s).length) {x:Int} (h0:0<=x) (hx:x<s.length):rd nx x=0↔gF s x=false:=by
 cases hf:gF s x with
 |false=>exact⟨λ_=>rfl,λ_=>h.no x h0 hx hf⟩
 |true=>exact⟨λe=>by have:=(h.nx h0 hx hf).gt;omega,λe=>by cases e⟩
structure zK (s ord nx:List Int) (t:Int) (nm:List Int) (n last:Int):Prop where
 len:nm.length=s.length
 bd:0<=n/\n<=t
 start:last= -1->n=0/\ ∀q:Int,0<=q->q<t->gF s (rd ord q)=false
 last_:last= -1\/ ∃q:Int,0<=q/\q<t/\rd ord q=last/\gF s last=true/\rd nm last=n/\ ∀r:Int,q<r->r<t->gF s (rd ord r)=false
 rng: ∀q:Int,0<=q->q<t->gF s (rd ord q)=true->0<=rd nm (rd ord q)/\rd nm (rd ord q)<=n
 pair: ∀q r:Int,0<=q->q<r->r<t->gF s (rd ord q)=true->gF s (rd ord r)=true->rd nm (rd ord q)<=rd nm (rd ord r)/\(rd nm (rd ord q)=rd nm (rd ord r)->Peq s nx (rd ord q) (rd ord r))/\(rd nm (rd ord q)<rd nm (rd ord r)-> ¬pcE s (rd ord q) (rd ord r))
variable {ord nx nm:List Int} {t n last:Int}
theorem aTw:zK s ord nx 0 (List.replicate s.length 0) 0 (-1):=⟨cD,G,λ_=>⟨rfl,λq h0 h=>G⟩, .inl rfl,λq h0 h=>G,λq r h0 h h'=>G⟩
theorem zK.skip (h:zK s ord nx t nm n last) (hf:gF s (rd ord t)=false):zK s ord nx (t+1) nm n last:=by
 have mw: ∀ {q:Int},q<t+1->gF s (rd ord q)=true->q<t:=λ{q} h1 h2=>by
  rcases bi q t with a|a
  ·exact a
  ·obtain rfl:q=t:=G
   rw[hf] at h2;cases h2
 refine⟨h.len,by have:=h.bd;omega,λe=>⟨(h.start e).1,λq h0 h1=> ?_⟩,?_,λq h0 h1 h2=>h.rng q h0 (mw h1 h2) h2,λq r h0 h1 h2 f1 f2=>h.pair q r h0 h1 (mw h2 f2) f1 f2⟩
 ·rcases bi q t with a|a
  ·exact(h.start e).2 q h0 a
  ·obtain rfl:q=t:=G
   exact hf
 ·rcases h.last_ with e|⟨q,h1,h2,h3,h4,h5,h6⟩
  ·exact .inl e
  ·refine .inr ⟨q,h1,G,h3,h4,h5,λr r0 r1=> ?_⟩;rcases bi r t with a|a
   ·exact h6 r r0 a
   ·obtain rfl:r=t:=G
    exact hf
theorem zK.last_in (h:zK s ord nx t nm n last) (hp:ord.Perm (iota s.length)) (ht:t<=s.length):last= -1\/((0<=last/\last<s.length)/\gF s last=true):=by
 rcases h.last_ with e|⟨q,h1,h2,h3,h4,_⟩
 ·exact .inl e
 ·rw [<-h3];have hl:=hp.length_eq;rw[bI] at hl;exact .inr ⟨bE.1 (hp.subset (bN h1 G)),by rw[h3];exact h4⟩
theorem zK.step (hs:Nn s) (h:zK s ord nx t nm n last) (hp:ord.Perm (iota s.length)) (ho:ord.Pairwise (pcS s)) (hx:sQ s nx (bU s).length) (t0:0<=t) (ht:t<s.length) (hf:gF s (rd ord t)=true) {n':Int}
  (hn:(last= -1/\n'=n)\/(0<=last/\Peq s nx last (rd ord t)/\n'=n)\/(0<=last/\ ¬Peq s nx last (rd ord t)/\n'=n+1)):zK s ord nx (t+1) (upd nm (rd ord t) n') n' (rd ord t):=by
 have hl:ord.length=s.length:=by rw[hp.length_eq,bI]
 have hnd:ord.Nodup:=hp.symm.nodup (eO _);have cg: ∀q:Int,0<=q->q<s.length->0<=rd ord q/\rd ord q<s.length:=λq q0 q1=>bE.1 (hp.subset (bN q0 G));have rg:=cg t t0 ht
 have ij: ∀q:Int,0<=q->q<t->rd (upd nm (rd ord t) n') (rd ord q)=rd nm (rd ord q):=λq q0 q1=>by
  have hq:=cg q q0 G;rw[fV rg.1 hq.1 (by rw[h.len];exact rg.2),bu];intro e;have:=jX hnd q0 G t0 G e;omega
 have n9:rd (upd nm (rd ord t) n') (rd ord t)=n':=by rw[fV rg.1 rg.1 (by rw[h.len];exact rg.2),df rfl]
 have w9:=h.bd;have i5:n<=n':=by rcases hn with a|a|a<;>omega
 refine⟨by rw[bD];exact h.len,by rcases hn with a|a|a<;>omega,λe=>G, .inr ⟨t,t0,G,rfl,hf,n9,λr r0 r1=>G⟩,λq q0 q1 f=> ?_,λq r q0 qr r1 f1 f2=> ?_⟩
 ·rcases bi q t with a|a
  ·rw [ij q q0 a];have:=h.rng q q0 a f;omega
  ·obtain rfl:q=t:=G
   rw[n9];omega
 ·rcases bi r t with a|a
  ·rw [ij q q0 G,ij r G a];exact h.pair q r q0 qr a f1 f2
  ·obtain rfl:r=t:=G
   rw[ij q q0 qr,n9];have hq:=cg q q0 G;have hg:=h.rng q q0 qr f1;rcases h.last_ with e|⟨z,z0,z1,z2,z3,z4,z5⟩
   ·have:=(h.start e).2 q q0 qr;rw[f1] at this;cases this
   ·have hqz:q<=z:=by
     rcases bi z q with b|b
     ·have:=z5 q b qr;rw[f1] at this;cases this
     ·exact b
    have hz:=cg z z0 G;have hzr:pcS s (rd ord z) (rd ord r):=eT ho z0 z1 G;have hzx:=hx.nx hz.1 hz.2 (by rw[z2];exact z3);have hrx:=hx.nx rg.1 rg.2 hf;have hqx:=hx.nx hq.1 hq.2 f1;have dv:rd ord z≠rd ord r:=λe=>by have:=jX hnd z0 G t0 G e;omega
    have rv:(n'=n->Peq s nx (rd ord z) (rd ord r))/\(n<n'-> ¬Peq s nx (rd ord z) (rd ord r)):=by
     rw[z2];rcases hn with b|b|b
     ·omega
     ·exact⟨λ_=>b.2.1,λ_=>G⟩
     ·exact⟨λ_=>G,λ_=>b.2.1⟩
    have hE:pcE s (rd ord q) (rd ord r)->pcE s (rd ord z) (rd ord r)/\(q<z->pcE s (rd ord q) (rd ord z)):=λhe=>by
     rcases bi q z with b|b
     ·have:=aDq hs (u:=rd ord z) (v:=rd ord r) (y:=rd ord r) hq.1 hz.1 rg.1 (eT ho q0 b G) hzr (λd hd=>lq _) he;exact⟨this.2,λ_=>this.1⟩
     ·obtain rfl:q=z:=G
      exact⟨he,λh=>G⟩
    rcases bi q z with b|b
    ·have j7:=h.pair q z q0 b z1 f1 (by rw[z2];exact z3);have ez:rd nm (rd ord z)=n:=by rw[z2];exact z4
     rw[ez] at j7;refine⟨G,λe=>(j7.2.1 G).trans (rv.1 G),λe he=> ?_⟩;rcases bi n n' with g|g
     ·exact rv.2 g (Peq.of_E hs hz.1 rg.1 dv hzx hrx (hE he).1)
     ·exact j7.2.2 G ((hE he).2 b)
    ·obtain rfl:q=z:=G
     have ez:rd nm (rd ord q)=n:=by rw[z2];exact z4
     rw[ez];refine⟨i5,λe=>rv.1 e.symm,λe he=>rv.2 e (Peq.of_E hs hz.1 rg.1 dv hzx hrx he)⟩
theorem QT (hs:Nn s) (h:zK s ord nx s.length nm n last) (hp:ord.Perm (iota s.length)) (ho:ord.Pairwise (pcS s)) (hx:sQ s nx (bU s).length): ∀(m:Nat) (a b:Int),(bU s).length-a<=m->0<=a->a<(bU s).length->0<=b->b<(bU s).length->
  bX ((bU s).map (rd nm)) a b->bX s (rd (bU s) a) (rd (bU s) b)
 |0,a,b,hm,a0,a1,_,_,_=>G
 | m +1,a,b,hm,a0,a1,b0,b1,vd=>by
  have hl:ord.length=s.length:=by rw[hp.length_eq,bI]
  have Yc:((bU s).map (rd nm)).length=(bU s).length:=by rw[bz]
  have hnm: ∀c:Int,0<=c->c<(bU s).length->rd ((bU s).map (rd nm)) c=rd nm (rd (bU s) c):=λc c0 c1=>by
   rw[fG c0 G,Bq,<-fG c0 c1]
  have rr: ∀c:Int,0<=c->c<(bU s).length-> ∃q:Int,0<=q/\q<s.length/\rd ord q=rd (bU s) c:=λc c0 c1=>by
   have hc:=oI (s:=s) c0 c1;obtain⟨u,hu,e⟩:=gz.1 (hp.symm.subset (bE.2 hc.1));exact⟨u,G,G,by rw[iL hu];exact e⟩
  have dv:a≠b:=λe=>by rw[e] at vd;exact fZ _ _ vd vd
  have ha:=oI (s:=s) a0 a1;have hb:=oI (s:=s) b0 b1;have Py:rd (bU s) a≠rd (bU s) b:=λe=>dv (jX (zA s) a0 a1 b0 b1 e);obtain⟨q,q0,q1,eq⟩:=rr a a0 a1;obtain⟨r,r0,r1,er⟩:=rr b b0 b1;have hqr:q≠r:=λe=>Py (by rw[<-eq,<-er,e]);rw[mV a0 G b0 G,hnm a a0 a1,hnm b b0 b1] at vd;have It:gF s (rd ord q)=true:=by rw[eq];exact ha.2
  have Lf:gF s (rd ord r)=true:=by rw[er];exact hb.2
  rcases vd with bc|⟨he,Tf⟩
  ·rcases bi q r with c|c
   ·have j7:=h.pair q r q0 c r1 It Lf;rw[eq,er] at j7;have:=eT ho q0 c G;rw[eq,er] at this;exact bAr hs ha.1.1 hb.1.1 this (j7.2.2 bc)
   ·have j7:=h.pair r q r0 G q1 Lf It;rw[eq,er] at j7;omega
  ·have hpe:Peq s nx (rd (bU s) a) (rd (bU s) b):=by
    rcases bi q r with c|c
    ·have j7:=h.pair q r q0 c r1 It Lf;rw[eq,er] at j7;exact j7.2.1 he
    ·have j7:=h.pair r q r0 G q1 Lf It;rw[eq,er] at j7;exact(j7.2.1 he.symm).symm
   obtain⟨p1,p2,p3,p4⟩:=hpe;have gx:=(hx.nx ha.1.1 ha.1.2 ha.2).gt;have ea:=hx.at_ a a0 a1;have eb:=hx.at_ b b0 b1
   have Rk:a+1<(bU s).length:=by
    rcases bi (a+1) (bU s).length with c|c
    ·exact c
    ·rw[bu G] at ea;omega
   have hbc:b+1<(bU s).length:=by
    rcases bi (b+1) (bU s).length with c|c
    ·exact c
    ·rw[bu G] at eb;omega
   rw[df Rk] at ea;rw[df hbc] at eb;have ih:=QT hs h hp ho hx m (a+1) (b+1) G G Rk G hbc (gT.1 Tf);rw[<-ea,<-eb] at ih;refine NG (rd nx (rd (bU s) a)-rd (bU s) a).toNat _ _ ha.1.1 hb.1.1 G G (λi hi=>p4 i G G) ?_;rwa[show rd (bU s) a+(((rd nx (rd (bU s) a)-rd (bU s) a).toNat:Nat):Int)=rd nx (rd (bU s) a) by omega,show rd (bU s) b+(((rd nx (rd (bU s) a)-rd (bU s) a).toNat:Nat):Int)=rd nx (rd (bU s) b) by omega]
theorem aTs (h:zK s ord nx s.length nm n last) (hp:ord.Perm (iota s.length)): ∀x∈(bU s).map (rd nm),0<=x/\x<n+1:=by
 intro x hx;obtain⟨y,hy,rfl⟩:=iy.1 hx;obtain⟨Zk,hy2⟩:=sJ.1 hy;have hl:ord.length=s.length:=by rw[hp.length_eq,bI]
 obtain⟨u,hu,e⟩:=gz.1 (hp.symm.subset (bE.2 Zk));have:=h.rng u G G (by rw[iL hu,e];exact hy2);rw[iL hu,e] at this;omega
theorem aSf (hs:Nn s) (h:zK s ord nx s.length nm n last) (hp:ord.Perm (iota s.length)) (ho:ord.Pairwise (pcS s)) (hx:sQ s nx (bU s).length) {o:List Int} (op:o.Perm (iota ((bU s).map (rd nm)).length)) (oo:o.Pairwise (bX ((bU s).map (rd nm)))):
  (o.map (rd (bU s))).Perm (bU s)/\(o.map (rd (bU s))).Pairwise (bX s):=by
 rw[bz] at op;refine⟨?_,?_⟩
 ·have:=op.map (rd (bU s));rwa[lX] at this
 ·refine iw.2 (ol (λ{a b} ha hb vd=> ?_) oo);have h1:=bE.1 (op.subset ha);have h2:=bE.1 (op.subset hb);exact QT hs h hp ho hx (bU s).length a b G h1.1 h1.2 h2.1 h2.2 vd
theorem aIg {l:List Int} {x i:Int} {m:Nat} (x0:0<=x) (h0:0<=i) (h:i<m):rd ((l.drop x.toNat).take m) i=rd l (x+i):=by
 unfold rd;rw[ai,ai,ou G,ql,show x.toNat+i.toNat=(x+i).toNat by omega]
theorem YU {x y:Int} (x0:0<=x) (y0:0<=y) (hx:x<rd nx x) (Ly:rd nx x<s.length) (hy:y<rd nx y) (Vh:rd nx y<s.length):
  (s.drop x.toNat).take ((min (rd nx x+1) ((s.length:Nat):Int)).toNat-x.toNat)=(s.drop y.toNat).take ((min (rd nx y+1) ((s.length:Nat):Int)).toNat-y.toNat)↔Peq s nx x y:=by
 have lx:((s.drop x.toNat).take ((min (rd nx x+1) ((s.length:Nat):Int)).toNat-x.toNat)).length=(rd nx x-x+1).toNat:=by rw[ax,ay];omega
 have ly:((s.drop y.toNat).take ((min (rd nx y+1) ((s.length:Nat):Int)).toNat-y.toNat)).length=(rd nx y-y+1).toNat:=by rw[ax,ay];omega
 constructor
 ·intro h;have hl:=bq List.length h;rw[lx,ly] at hl;refine⟨Ly,Vh,G,λi i0 i1=> ?_⟩;have:rd ((s.drop x.toNat).take ((min (rd nx x+1) ((s.length:Nat):Int)).toNat-x.toNat)) i=rd ((s.drop y.toNat).take ((min (rd nx y+1) ((s.length:Nat):Int)).toNat-y.toNat)) i:=by rw[h]
  rwa[aIg x0 i0 G,aIg y0 i0 G] at this
 ·rintro ⟨_,_,h3,h4⟩;refine bQ (by rw[lx,ly];omega) λi i0 i1=> ?_;rw[lx] at i1;rw[aIg x0 i0 G,aIg y0 i0 G];exact h4 i i0 G
theorem aSw {r:Int->Int->Prop}: ∀ {l:List Int},l.length<2->l.Pairwise r
 |[],_=> .nil
 |[_],_=>qa _ _
 |_::_::_,h=>by simp at h;omega
theorem aTv {x y:Int} (hl:0<=x->x<s.length/\x<rd nx x/\rd nx x<=s.length) (y0:0<=y) (hy:y<rd nx y) (Vh:rd nx y<=s.length)
  (h:0<=x/\((rd nx y=((s.length:Nat):Int)\/rd nx x=((s.length:Nat):Int))\/ ¬(s.drop x.toNat).take ((min (rd nx x+1) ((s.length:Nat):Int)).toNat-x.toNat)=(s.drop y.toNat).take ((min (rd nx y+1) ((s.length:Nat):Int)).toNat-y.toNat))):
  (x= -1/\n+1=n)\/(0<=x/\Peq s nx x y/\n+1=n)\/(0<=x/\ ¬Peq s nx x y/\n+1=n+1):=by
 refine .inr (.inr ⟨h.1,λhp=> ?_,rfl⟩);have a:=hl h.1;rcases h.2 with g|g
 ·have h1:=hp.1;have h2:=hp.2.1;omega
 ·exact g ((YU h.1 y0 a.2.1 hp.1 hy hp.2.1).2 hp)
theorem aTu {x y:Int} (hx: -1<=x) (hl:0<=x->x<s.length/\x<rd nx x/\rd nx x<=s.length) (y0:0<=y) (hy:y<rd nx y) (Vh:rd nx y<=s.length)
  (h: ¬(0<=x/\((rd nx y=((s.length:Nat):Int)\/rd nx x=((s.length:Nat):Int))\/ ¬(s.drop x.toNat).take ((min (rd nx x+1) ((s.length:Nat):Int)).toNat-x.toNat)=(s.drop y.toNat).take ((min (rd nx y+1) ((s.length:Nat):Int)).toNat-y.toNat)))):
  (x= -1/\n=n)\/(0<=x/\Peq s nx x y/\n=n)\/(0<=x/\ ¬Peq s nx x y/\n=n+1):=by
 rcases bi x 0 with g|g
 ·exact .inl ⟨G,rfl⟩
 ·have a:=hl g;have h1: ¬rd nx y=((s.length:Nat):Int):=λe=>h ⟨g, .inl (.inl e)⟩;have h2: ¬rd nx x=((s.length:Nat):Int):=λe=>h ⟨g, .inl (.inr e)⟩;have h3:=xk.1 λe=>h ⟨g, .inr e⟩;exact .inr (.inl ⟨g,(YU g y0 a.2.1 G hy G).1 h3,rfl⟩)
end
end Go.Pure
namespace Go.Pure
open Go Go.Eng
theorem FU {T:Int->Int->Prop} [DecidableRel T] (Ma: ∀x y,T x y-> ¬T y x): ∀ {o:List Int} {q:Nat},o.Pairwise T->(h:q<o.length)->o.countP (λx=>decide (T x o[q]))=q
 |[],q,_,h=>by simp at h
 |a::o,0,hs,h=>by
  rw[Bz];intro x hx;simp only[List.getElem_cons_zero,iv];rcases jm.1 hx with rfl|hx
  ·exact λh=>Ma _ _ h h
  ·exact Ma _ _ ((jb.1 hs).1 x hx)
 |a::o,q+1,hs,h=>by
  obtain⟨h1,h2⟩:=jb.1 hs;have hq:q<o.length:=by simp only[dh] at h;omega
  simp only[List.getElem_cons_succ];rw[List.countP_cons_of_pos (by simpa using h1 _ (lu hq)),FU Ma h2 hq]
theorem aIi {T:Int->Int->Prop} [DecidableRel T] (Ma: ∀x y,T x y-> ¬T y x) {o:List Int} {n:Nat} (hp:o.Perm (iota n)) (hs:o.Pairwise T) {q:Int} (q0:0<=q) (hq:q<n):(((iota n).countP λx=>decide (T x (rd o q)):Nat):Int)=q:=by
 have hl:o.length=n:=by rw[hp.length_eq,bI]
 rw[<-hp.countP_eq,fG q0 G,FU Ma hs G];omega
theorem xJ {n:Nat} {q:Int} (q0:0<=q) (hq:q<n):rd (iota n) q=q:=by
 unfold iota;rw[iB q0 hq];omega
theorem CY {n:Nat} {f:Int->Int} (hf: ∀x:Int,0<=x->x<n->0<=f x/\f x<n) (hi: ∀x y:Int,0<=x->x<n->0<=y->y<n->f x=f y->x=y):((iota n).map f).Perm (iota n):=by
 refine qJ ?_ (λx hx=> ?_) cD
 ·refine iw.2 (ol (λ{a b} ha hb vd e=> ?_) (eO n));have h1:=bE.1 ha;have h2:=bE.1 hb;exact vd (hi a b h1.1 h1.2 h2.1 h2.2 e)
 ·obtain ⟨y,hy,rfl⟩:=iy.1 hx;have h:=bE.1 hy;exact bE.2 (hf y h.1 h.2)
def tl (l:List Int) (i k:Int):Prop:=rd l i<rd l k\/rd l i=rd l k/\i<k
instance (l:List Int):DecidableRel (tl l):=λi k=>by unfold tl;infer_instance
theorem aQu {l:List Int} (x y:Int) (h:tl l x y): ¬tl l y x:=by unfold tl at*;omega
def lfC (l:List Int) (k:Int):Int:=((iota l.length).countP λj=>decide (tl l j k):Nat)
def Byt (l:List Int):Prop:= ∀x∈l,0<=x/\x<256
section
variable {l:List Int}
theorem kF (hl:Byt l):(dC (iota l.length) l 256).Perm (iota l.length)/\(dC (iota l.length) l 256).Pairwise (tl l):=
 ⟨nN λi hi=>by have h:=bE.1 hi;exact hl _ (bN h.1 h.2),gV (BU _) 256⟩
theorem bJl (hl:Byt l) {q:Int} (q0:0<=q) (hq:q<l.length):lfC l (rd (dC (iota l.length) l 256) q)=q:=aIi aQu (kF hl).1 (kF hl).2 q0 hq
theorem ZT (hl:Byt l) {i:Int} (i0:0<=i) (hi:i<l.length): ∃q:Int,0<=q/\q<l.length/\rd (dC (iota l.length) l 256) q=i/\lfC l i=q:=by
 obtain⟨u,hu,e⟩:=gz.1 ((kF hl).1.symm.subset (bE.2 ⟨i0,hi⟩));have hlen:=(kF hl).1.length_eq;rw[bI] at hlen;have e2:rd (dC (iota l.length) l 256) (u:Int)=i:=by rw[iL hu];exact e
 refine⟨u,G,G,e2,?_⟩;rw[<-e2];exact bJl hl G G
theorem ZU (hl:Byt l) {i:Int} (i0:0<=i) (hi:i<l.length):0<=lfC l i/\lfC l i<l.length:=by
 obtain⟨q,q0,q1,_,e⟩:=ZT hl i0 hi;omega
theorem bDy (hl:Byt l) {i k:Int} (i0:0<=i) (hi:i<l.length) (k0:0<=k) (hk:k<l.length):lfC l i<lfC l k↔tl l i k:=by
 obtain⟨p,p0,p1,ep,fp⟩:=ZT hl i0 hi;obtain⟨q,q0,q1,eq,fq⟩:=ZT hl k0 hk;have hlen:=(kF hl).1.length_eq;rw[bI] at hlen;have hs:=(kF hl).2;rw[fp,fq];constructor
 ·intro h;have:=eT hs p0 h G;rwa[ep,eq] at this
 ·intro h;rcases jd p q with a|a|a
  ·exact a
  ·subst a;rw[<-ep,<-eq] at h;exact absurd h (aQu _ _ h)
  ·have:=eT hs q0 a G;rw[ep,eq] at this;exact absurd h (aQu _ _ this)
theorem aUe (hl:Byt l) {i k:Int} (i0:0<=i) (hi:i<l.length) (k0:0<=k) (hk:k<l.length) (e:lfC l i=lfC l k):i=k:=by
 have h1:=bDy hl i0 hi k0 hk;have h2:=bDy hl k0 hk i0 hi;unfold tl at h1 h2;rcases jd (rd l i) (rd l k) with a|a|a
 ·have:=h1.2 (.inl a);omega
 ·rcases jd i k with b|b|b
  ·have:=h1.2 (.inr ⟨a,b⟩);omega
  ·exact b
  ·have:=h2.2 (.inr ⟨a.symm,b⟩);omega
 ·have:=h2.2 (.inl a);omega
def zat (a:List Int):Int:=if (0:Int)∈a then(a.idxOf 0:Int)+1 else 0
def ofT (s a:List Int):List Int:=(a.filter λx=>decide (x≠0)).map λx=>rd s (x-1)
def ofL (s a:List Int):List Int:=(if 0<s.length then [rd s (s.length-1)] else [])++ofT s a
theorem WE {a:List Int} (hd:a.Nodup) {i:Int} (i0:0<=i) (hi:i<a.length):zat (a.take (i+1).toNat)=if rd a i=0 then i+1 else zat (a.take i.toNat):=by
 rw[dH i0 hi];split
 ·rename_i e
  have mw:(0:Int)∉a.take i.toNat:=by
   intro h;obtain⟨q,hq,e2⟩:=gz.1 h;rw[ax] at hq;have:=jX hd (i:=(q:Int)) (j:=i) G G i0 hi (by rw[ym] at e2;rw[e,fG G G];simp only[cu];exact e2);omega
  unfold zat;rw[df (by simp[e]),Gt,bu mw,e];simp only[ax,List.idxOf_cons_self];omega
 ·rename_i e;have mw:(0:Int)∉[rd a i]:=by simp;exact λh=>e h.symm
  unfold zat;by_cases h:(0:Int)∈a.take i.toNat
  ·rw[df h,df (Bj _ h),Gt,df h]
  ·rw[bu h,bu (by rw[gp];exact λg=>g.elim h mw)]
theorem ZG {s a:List Int} {i:Int} (i0:0<=i) (hi:i<a.length):ofT s (a.take (i+1).toNat)=ofT s (a.take i.toNat)++if rd a i=0 then [] else [rd s (rd a i-1)]:=by
 unfold ofT;rw[dH i0 hi,ug,jo];congr 1;by_cases h:rd a i=0
 ·rw[df h,ll (by simpa using h)];rfl
 ·rw[bu h,pz (by simpa using h)];rfl
variable {s a:List Int}
theorem kE {u v:List Int} {j:Int} (h0:0<=j) (h:j<u.length):rd (u++v) j=rd u j:=by
 unfold rd;rw[ai,ai,ji G]
theorem gW {u v:List Int} {j:Int} (h:(u.length:Int)<=j):rd (u++v) j=rd v (j-u.length):=by
 unfold rd;rw[ai,ai,ig G,show j.toNat-u.length=(j-u.length).toNat by omega]
theorem vR {u:List Int} {f:Int->Int} {j:Int} (h0:0<=j) (h:j<u.length):rd (u.map f) j=f (rd u j):=by
 rw[fG h0 (by rw[bz];exact h),Bq,<-fG h0 h]
theorem sG (hp:a.Perm (iota s.length)):(ofL s a).length=s.length/\(0<s.length->1<=zat a/\zat a<=s.length/\rd a (zat a-1)=0)/\(s.length=0->zat a=0)/\
  ∀j:Int,0<=j->j<s.length->rd (ofL s a) j=if j=0 then rd s (s.length-1) else if j<zat a then rd s (rd a (j-1)-1) else rd s (rd a j-1):=by
 have hl:a.length=s.length:=by rw[hp.length_eq,bI]
 rcases dz s.length with hz|hn
 ·have e:a=[]:=ed G;subst e;refine⟨by unfold ofL ofT;rw[bu G];simp;omega,λh=>G,λ_=>rfl,λj h0 h=>G⟩
 have hnd:a.Nodup:=hp.symm.nodup (eO _);have fi:(0:Int)∈a:=hp.symm.subset (bE.2 ⟨lq 0,G⟩);obtain⟨a1,a2,e⟩:=List.append_of_mem fi
 have An:(0:Int)∉a1:=λh=>by
  rw[e] at hnd;exact(xu.1 hnd).2.2 0 h 0 cD rfl
 have Nx:(0:Int)∉a2:=λh=>by
  rw[e] at hnd;exact(vw.1 (xu.1 hnd).2.1).1 h
 have Zl:zat a=(a1.length:Int)+1:=by
  unfold zat;rw[df fi,e,Gt,bu An];simp
 have hT:ofT s a=(a1.map λx=>rd s (x-1))++a2.map λx=>rd s (x-1):=by
  unfold ofT;have f1:a1.filter (λx=>decide (x≠0))=a1:=Fe.2 λx hx=>nk λh=>An (by rw[<-h];exact hx);have f2:a2.filter (λx=>decide (x≠0))=a2:=Fe.2 λx hx=>nk λh=>Nx (by rw[<-h];exact hx);rw[e,ug,ll cD,f1,f2,jo]
 have hlen:a1.length+a2.length+1=s.length:=by rw[<-hl,e];simp;omega
 have hL:ofL s a=rd s (s.length-1)::((a1.map λx=>rd s (x-1))++a2.map λx=>rd s (x-1)):=by
  unfold ofL;rw[df hn,hT];rfl
 refine⟨by rw[hL];simp;omega,λ_=>⟨G,G,?_⟩,λh=>G,λj j0 j1=> ?_⟩
 ·rw [Zl,e,gW G,show(a1.length:Int)+1-1-a1.length=0 by omega];rfl
 ·rw [hL];by_cases hj:j=0
  ·subst hj;rw[df rfl];rfl
  ·rw [bu hj]
   have ec:rd (rd s (s.length-1)::((a1.map λx=>rd s (x-1))++a2.map λx=>rd s (x-1))) j=rd ((a1.map λx=>rd s (x-1))++a2.map λx=>rd s (x-1)) (j-1):=by
    unfold rd;rw[show j.toNat=(j-1).toNat+1 by omega];rfl
   rw[ec];split
   ·rename_i h;rw[kE G (by rw[bz];omega),vR G G,e,kE G G]
   ·rename_i h;rw[gW (by rw[bz];omega),vR (by rw[bz];omega) (by rw[bz];omega),e,gW G];rw[bz]
    have:rd ((0:Int)::a2) (j-a1.length)=rd a2 (j-1-a1.length):=by
     unfold rd;rw[show(j-a1.length).toNat=(j-1-a1.length).toNat+1 by omega];rfl
    rw[this]
def ixr (m r:Int):Int:=if m<r then r-1 else r
def jO (l:List Int) (m:Int):Nat->Int
 |0=>0
 |t+1=>lfC l (ixr m (jO l m t))+1
def mD (l:List Int) (m:Int):List Int:=(List.range l.length).map λi:Nat=>rd l (ixr m (jO l m (l.length-1-i)))
def aYs (l:List Int) (m:Int):Prop:=min (l.length:Int) 1<=m/\m<=l.length
def bPg (l:List Int) (m:Int):Prop:= ∀t:Nat,t<l.length->jO l m t≠m
def aPx (l:List Int) (m:Int):Prop:=aYs l m/\bPg l m/\jO l m l.length=m
theorem sO (l:List Int) (m:Int):(mD l m).length=l.length:=by simp[mD]
theorem YL {m i:Int} (i0:0<=i) (hi:i<l.length):rd (mD l m) i=rd l (ixr m (jO l m (l.length-1-i).toNat)):=by
 unfold mD;rw[iB i0 hi,show l.length-1-i.toNat=((l.length:Int)-1-i).toNat by omega]
theorem UV {m r:Int} {n:Nat} (h0:0<=r) (h1:r<=n) (dv:r≠m) (rm:0<=m) (hm:m<=n) (hn:0<n):0<=ixr m r/\ixr m r<n:=by
 unfold ixr;split<;>omega
theorem bHd {m r q:Int} (hr:r≠m) (hq:q≠m):ixr m r<ixr m q↔r<q:=by
 unfold ixr;split<;>split<;>omega
theorem aIv {m r q:Int} (hr:r≠m) (hq:q≠m) (h:ixr m r=ixr m q):r=q:=by
 unfold ixr at h;split at h<;>split at h<;>omega
theorem aCd (hl:Byt l) {m:Int} (hm:aYs l m): ∀t:Nat,(∀u:Nat,u<t->jO l m u≠m)->t<=l.length->0<=jO l m t/\jO l m t<=l.length
 |0,_,_=>by unfold jO;omega
 |t+1,h,ht=>by
  have ih:=aCd hl hm t (λu hu=>h u G) G;have hb:=UV (n:=l.length) ih.1 ih.2 (h t G) (by have:=hm.1;omega) hm.2 G;have:=ZU hl hb.1 hb.2;rw[jO];omega
theorem ZC {x:Int} (x0:0<=x) (hx:x<s.length) {y:Int} (hy:(s.length:Int)<=y): ¬bX s x y:=fZ _ _ (BH x0 hx hy)
theorem aTg {j k:Int} (j0:0<=j) (hj:j<s.length) (k0:0<=k) (hk:k<s.length):bX s j k↔rd s j<rd s k\/rd s j=rd s k/\bX s (j+1) (k+1):=by
 rw[mV j0 hj k0 hk,gT]
end
end Go.Pure
namespace Go.Pure
open Go Go.Eng
section
variable {l s a:List Int}
def cT (s:List Int) (x y:Int):Prop:=cmpL (s.drop x.toNat) (s.drop y.toNat)<0
instance (s:List Int):DecidableRel (cT s):=λx y=>by unfold cT;infer_instance
theorem VM {x y:Int}:cT s x y↔bX s x y:=gT
theorem bNq (x y:Int) (h:cT s x y): ¬cT s y x:=λh'=>fZ _ _ (VM.1 h) (VM.1 h')
def BF (s:List Int) (k:Int):Int:=((iota s.length).countP λj=>decide (cT s j k):Nat)
def lD (s:List Int) (k:Int):Int:=if k<s.length then BF s k+1 else 0
theorem aSz (hp:a.Perm (iota s.length)) (ho:a.Pairwise (bX s)) {q:Int} (q0:0<=q) (hq:q<s.length):BF s (rd a q)=q:=aIi bNq hp (ho.imp λh=>VM.2 h) q0 hq
theorem KU (hp:a.Perm (iota s.length)) (ho:a.Pairwise (bX s)) {k:Int} (k0:0<=k) (hk:k<s.length):(0<=BF s k/\BF s k<s.length)/\rd a (BF s k)=k:=by
 obtain⟨u,hu,e⟩:=gz.1 (hp.symm.subset (bE.2 ⟨k0,hk⟩));have hlen:=hp.length_eq;rw[bI] at hlen;have e2:rd a (u:Int)=k:=by rw[iL hu];exact e
 have e3:=aSz hp ho (q:=(u:Int)) G G;rw[e2] at e3;rw[e3];exact⟨G,e2⟩
theorem aDt {j k:Int} (j0:0<=j) (hj:j<=s.length) (k0:0<=k) (hk:k<=s.length):lD s j<lD s k↔bX s j k:=by
 obtain⟨a,hp,ho⟩:=pJ s;have hlen:=hp.length_eq;rw[bI] at hlen;unfold lD;rcases bi j s.length with a1|a1
 ·rw [df a1];have wx:=KU hp ho j0 a1;rcases bi k s.length with b1|b1
  ·rw [df b1];have ob:=KU hp ho k0 b1;constructor
   ·intro h;have:=eT ho wx.1.1 (by omega:BF s j<BF s k) G;rwa[wx.2,ob.2] at this
   ·intro h;rcases jd (BF s j) (BF s k) with c|c|c
    ·omega
    ·rw [c,ob.2] at wx;rw[<-wx.2] at h;exact absurd h (fZ _ _ h)
    ·have:=eT ho ob.1.1 c G;rw[wx.2,ob.2] at this;exact absurd h (fZ _ _ this)
  ·rw [bu G];exact⟨λh=>G,λh=>absurd h (ZC j0 a1 b1)⟩
 ·rw [bu G];rcases bi k s.length with b1|b1
  ·rw [df b1];have ob:=KU hp ho k0 b1;exact⟨λ_=>BH k0 b1 a1,λ_=>G⟩
  ·rw [bu G];obtain rfl:j=k:=G
   exact⟨λh=>G,λh=>absurd h (fZ _ _ h)⟩
theorem yR {k:Int} (k0:0<=k):0<=lD s k/\lD s k<=s.length/\(k<s.length->1<=lD s k):=by
 obtain⟨a,hp,ho⟩:=pJ s;unfold lD;split
 ·rename_i h;have:=KU hp ho k0 h;omega
 ·omega
theorem xE {j k:Int} (j0:0<=j) (hj:j<=s.length) (k0:0<=k) (hk:k<=s.length) (e:lD s j=lD s k):j=k:=by
 have h1:=aDt j0 hj k0 hk;have h2:=aDt k0 hk j0 hj;rcases bi j s.length with a1|a1
 ·rcases bi k s.length with b1|b1
  ·by_cases h:j=k
   ·exact h
   ·rcases BI ⟨j0,a1⟩ ⟨k0,b1⟩ h with c|c
    ·have:=h1.2 c;omega
    ·have:=h2.2 c;omega
  ·have:=h2.2 (BH j0 a1 b1);omega
 ·rcases bi k s.length with b1|b1
  ·have:=h1.2 (BH k0 b1 a1);omega
  ·omega
theorem mH (hp:a.Perm (iota s.length)) (ho:a.Pairwise (bX s)):zat a=lD s 0:=by
 obtain⟨_,h1,h2,_⟩:=sG hp;unfold lD;rcases dz s.length with hz|hn
 ·rw[bu G,h2 hz]
 ·have h:=h1 hn;rw[df G];have:=aSz hp ho (q:=zat a-1) G G;rw[h.2.2] at this;omega
theorem letter (hp:a.Perm (iota s.length)) (ho:a.Pairwise (bX s)) {k:Int} (k0:0<=k) (hk:k<s.length):(0<=ixr (zat a) (lD s (k+1))/\ixr (zat a) (lD s (k+1))<s.length)/\rd (ofL s a) (ixr (zat a) (lD s (k+1)))=rd s k:=by
 obtain⟨_,h1,_,h3⟩:=sG hp;have hz:=h1 G;have hb:=yR (s:=s) (k:=k+1) G
 have dv:lD s (k+1)≠zat a:=by
  rw[mH hp ho];intro e;have:=xE (s:=s) G G (lq 0) G e;omega
 have rr:=UV hb.1 hb.2.1 dv G hz.2.1 G;refine⟨rr,?_⟩;rw[h3 _ rr.1 rr.2];rcases bi (k+1) s.length with c|c
 ·have Ll:=KU hp ho (k:=k+1) G c;have er:lD s (k+1)=BF s (k+1)+1:=by unfold lD;rw[df c]
  unfold ixr at rr ⊢;by_cases d:zat a<lD s (k+1)
  ·rw [df d];rw[bu G,bu G,show lD s (k+1)-1=BF s (k+1) by omega,Ll.2];congr 1;omega
  ·rw [bu d];rw[bu G,df G,show lD s (k+1)-1=BF s (k+1) by omega,Ll.2];congr 1;omega
 ·have er:lD s (k+1)=0:=by unfold lD;rw[bu G]
  have e0:ixr (zat a) 0=0:=by unfold ixr;rw[bu G]
  rw[er,e0,df rfl];congr 1;omega
theorem uC (hs:Byt s) (hp:a.Perm (iota s.length)):Byt (ofL s a):=by
 intro x hx;obtain⟨h0,_,_,h3⟩:=sG hp;obtain⟨u,hu,rfl⟩:=gz.1 hx;have Dd:=hp.length_eq;rw[bI] at Dd;have e:=h3 u G G;rw[iL hu] at e;have hm: ∀j:Int,0<=j->j<s.length->0<=rd s j/\rd s j<256:=λj j0 j1=>hs _ (bN j0 j1);have ha: ∀j:Int,0<=j->j<s.length->0<=rd a j/\rd a j<s.length:=λj j0 j1=>bE.1 (hp.subset (bN j0 G));have Li: ∀j:Int,j<0->rd s j=rd s 0:=λj h=>by unfold rd;rw[show j.toNat=(0:Int).toNat by omega]
 have Po: ∀j:Int,j<s.length->0<=rd s j/\rd s j<256:=λj h=>by
  rcases bi j 0 with c|c
  ·rw[Li j c];exact hm 0 (lq 0) G
  ·exact hm j c h
 rw[e];split
 ·exact Po _ G
 ·split
  ·have:=ha ((u:Int)-1) G G;exact Po _ G
  ·have:=ha u G G;exact Po _ G
theorem bBq (hs:Byt s) (hp:a.Perm (iota s.length)) (ho:a.Pairwise (bX s)) {k:Int} (k0:0<=k) (hk:k<s.length):lfC (ofL s a) (ixr (zat a) (lD s (k+1)))=BF s k:=by
 obtain⟨h0,h1,_,_⟩:=sG hp
 have dv: ∀j:Int,0<=j->j<s.length->lD s (j+1)≠zat a:=λj j0 j1 e=>by
  rw[mH hp ho] at e;have:=xE (s:=s) G G (lq 0) G e;omega
 have hb:=CY (n:=s.length) (f:=λk=>ixr (zat a) (lD s (k+1))) (λj j0 j1=>(letter hp ho j0 j1).1) λx y x0 x1 y0 y1 e=>by
  have e2:=aIv (dv x x0 x1) (dv y y0 y1) e;have:=xE (s:=s) G G G G e2;omega
 unfold lfC BF;rw[h0,<-hb.countP_eq,List.countP_map];congr 1;refine Gr λj hj=> ?_;have hj:=bE.1 hj;simp only[Function.comp_apply,iv];rw[VM,aTg hj.1 hj.2 k0 hk,<-aDt G G G G];unfold tl;rw[(letter hp ho hj.1 hj.2).2,(letter hp ho k0 hk).2,bHd (dv j hj.1 hj.2) (dv k k0 hk)]
theorem CZ (hs:Byt s) (hp:a.Perm (iota s.length)) (ho:a.Pairwise (bX s)): ∀t:Nat,t<=s.length->jO (ofL s a) (zat a) t=lD s (s.length-t)
 |0,_=>by unfold jO lD;rw[bu G]
 |t+1,ht=>by
  rw[jO,CZ hs hp ho t G];have:=bBq hs hp ho (k:=(s.length:Int)-((t+1:Nat):Int)) G G;rw[show(s.length:Int)-((t+1:Nat):Int)+1=s.length-(t:Int) by omega] at this;rw[this];unfold lD;rw[df G]
theorem vF (hs:Byt s) (hp:a.Perm (iota s.length)) (ho:a.Pairwise (bX s)):aPx (ofL s a) (zat a)/\mD (ofL s a) (zat a)=s:=by
 obtain⟨h0,h1,h2,_⟩:=sG hp;refine⟨⟨?_,λt ht=> ?_,?_⟩,?_⟩
 ·unfold aYs;rw[h0];rcases dz s.length with hz|hn
  ·have:=h2 hz;omega
  ·have:=h1 hn;omega
 ·rw [h0] at ht;rw[CZ hs hp ho t G,mH hp ho];intro e;have:=xE (s:=s) G G (lq 0) G e;omega
 ·rw [h0,CZ hs hp ho _ (di _),mH hp ho];congr 1;omega
 ·refine bQ (by rw[sO,h0]) λi i0 i1=> ?_;rw[sO,h0] at i1;rw[YL i0 (by rw[h0];exact i1),h0,CZ hs hp ho _ G];have:=(letter hp ho i0 i1).2;rwa[show(s.length:Int)-(((s.length:Int)-1-i).toNat:Int)=i+1 by omega]
theorem aTr (hp:a.Perm (iota s.length)) (ho:a.Pairwise (bX s)):((iota s.length).map λk=>ixr (zat a) (lD s (k+1))).Perm (iota s.length):=by
 have dv: ∀j:Int,0<=j->j<s.length->lD s (j+1)≠zat a:=λj j0 j1 e=>by
  rw[mH hp ho] at e;have:=xE (s:=s) G G (lq 0) G e;omega
 exact CY (n:=s.length) (f:=λk=>ixr (zat a) (lD s (k+1))) (λj j0 j1=>(letter hp ho j0 j1).1) λx y x0 x1 y0 y1 e=>by
  have e2:=aIv (dv x x0 x1) (dv y y0 y1) e;have:=xE (s:=s) G G G G e2;omega
theorem vW (hp:a.Perm (iota s.length)) (ho:a.Pairwise (bX s)):(ofL s a).Perm s:=by
 have h0:=(sG hp).1;have h1:=(aTr hp ho).map (rd (ofL s a));rw[yz] at h1
 have e1:(iota s.length).map (rd (ofL s a) ∘ λk=>ixr (zat a) (lD s (k+1)))=s:=by
  conv=>rhs;rw[<-lX s]
  refine Cc λk hk=> ?_;have hk:=bE.1 hk;exact(letter hp ho hk.1 hk.2).2
 have e2:(iota s.length).map (rd (ofL s a))=ofL s a:=by
  have:=lX (ofL s a);rwa[h0] at this
 rw[e1,e2] at h1;exact h1.symm
end
end Go.Pure
namespace Go.Pure
open Go Go.Eng
theorem YY {l m:List Int} (hl:l.Nodup) (hm:m.Nodup) (e: ∀x,x∈l↔x∈m):l.Perm m:=
 qJ hl (λx h=>(e x).1 h) (nY hm λx h=>(e x).2 h)
def OP (r k:Nat):List Int:=(List.range k).map λt:Nat=>(r+3*t:Int)
theorem YS (r k:Nat):(OP r k).length=k:=by simp[OP]
theorem aMp (r k:Nat):OP r (k+1)=OP r k++[(r+3*k:Int)]:=by
 unfold OP;rw[zq,jo];rfl
def plc (n r:Nat):List Int:=OP r ((n+2-r)/3)
theorem jQ (n r:Nat):(plc n r).length=(n+2-r)/3:=YS _ _
theorem UC {n r:Nat} {t:Int} (h0:0<=t) (h:t<(plc n r).length):rd (plc n r) t=r+3*t:=by
 rw[jQ] at h;unfold plc OP;rw[iB h0 G];omega
theorem kC {n r:Nat} {x:Int} (hr:r<=2):x∈plc n r↔0<=x/\x<n/\x%3=r:=by
 unfold plc OP;rw[iy];constructor
 ·rintro ⟨t,ht,rfl⟩;have:=jq.1 ht;omega
 ·rintro ⟨h0,h1,h2⟩;exact⟨((x-r)/3).toNat,jq.2 G,G⟩
theorem xK (n r:Nat):(plc n r).Nodup:=by
 unfold plc OP;exact iw.2 (xc.imp λ{x y} h hh=>h G)
def smp (n:Nat):List Int:=plc n 1++plc n 2
theorem lL {n:Nat} {x:Int}:x∈smp n↔0<=x/\x<n/\x%3≠0:=by
 unfold smp;rw[gp,kC G,kC G];omega
theorem AC (n:Nat):(smp n).length=(n+1)/3+n/3:=by
 unfold smp;rw[ah,jQ,jQ];omega
theorem pQ (n:Nat):(smp n).Nodup:=by
 unfold smp;refine xu.2 ⟨xK _ _,xK _ _,λa ha b hb e=> ?_⟩;rw[kC G] at ha hb;omega
theorem aZk (n:Nat):(smp n++plc n 0).Perm (iota n):=by
 refine YY (xu.2 ⟨pQ _,xK _ _,λa ha b hb e=> ?_⟩) (eO n) λx=> ?_
 ·rw [lL] at ha;rw[kC G] at hb;omega
 ·rw [gp,lL,kC G,bE];omega
def iN (s:List Int) (i:Int):Int:=if (s.length:Int)<=i then 0 else rd s i+1
def fU (s:List Int) (b:Int):List Int:=(List.range s.length).map λi:Nat=>iN s ((i:Int)+b)
theorem EQ (s:List Int) (b:Int):(fU s b).length=s.length:=by simp[fU]
theorem BB {s:List Int} {b i:Int} (h0:0<=i) (h:i<s.length):rd (fU s b) i=iN s (i+b):=by
 unfold fU;rw[iB h0 G];congr 1;omega
theorem bDx: ∀ {s:List Int},Nn s->lo s=0
 |[],_=>rfl
 |a::s,h=>by
  have:=bDx (s:=s) λx hx=>h x (ek _ hx);have ha:=h a cD;unfold lo at this ⊢;rw[List.foldr_cons,this];omega
theorem uH {s:List Int} (hs:Nn s) (i d:Nat):eu s i d=iN s ((i+d:Nat):Int):=by
 unfold eu iN;rw[bDx hs];by_cases h:i+d<s.length
 ·rw [df h,bu G];unfold rd lt;rw[cu];omega
 ·rw[bu h,df G]
theorem aIu {s:List Int} {k:Int} (hs: ∀x∈s,0<=x/\x<k) (hk:0<=k) {i:Int} (h0:0<=i):0<=iN s i/\iN s i<k+1:=by
 unfold iN;split
 ·omega
 ·have:=hs _ (bN (L:=s) h0 G);omega
theorem ZX {s:List Int} {k b:Int} (hs: ∀x∈s,0<=x/\x<k) (hk:0<=k) (hb:0<=b): ∀x∈fU s b,0<=x/\x<k+1:=by
 intro x hx;obtain⟨i,_,rfl⟩:=iy.1 hx;exact aIu hs hk G
theorem aVm (s:List Int) (i d:Nat):0<=eu s i d:=by
 rcases fe (i+d) s.length with h|h
 ·exact Da (rQ h)
 ·rw[jE h];exact lq 0
def LtO (U V:Nat->Int):Prop:= ∃k,(∀i,i<k->U i=V i)/\U k<V k
theorem yY {m:Nat} {U V:Nat->Int}:LtH m U V->LtO U V:=λ⟨k,_,h1,h2⟩=>⟨k,h1,h2⟩
theorem bBl {s:List Int} {x y:Nat}:LtO (eu s x) (eu s y)↔LtH s.length (eu s x) (eu s y):=by
 refine⟨λ⟨k,h1,h2⟩=>⟨k,?_,h1,h2⟩,yY⟩;have:=aVm s x k;rcases fe (y+k) s.length with h|h
 ·omega
 ·rw[jE h] at h2;omega
theorem nR {s:List Int} {x y:Int}:bX s x y↔LtO (eu s x.toNat) (eu s y.toNat):=bBl.symm
theorem aNc {U V:Nat->Int} (h:LtO U V): ¬LtO V U:=by
 rintro⟨k',We,h2'⟩;obtain⟨k,h1,h2⟩:=h;rcases xx k k' with a|a|a
 ·have:=We k a;omega
 ·subst a;omega
 ·have:=h1 k' a;omega
theorem aNb {U V:Nat->Int} {m:Nat} (e:EqH m U V):LtO (λd=>U (m+d)) (λd=>V (m+d))↔LtO U V:=by
 constructor
 ·rintro ⟨k,h1,h2⟩;refine⟨m+k,λi hi=> ?_,h2⟩;rcases fe i m with a|a
  ·exact e i a
  ·have:=h1 (i-m) G;simp only[show m+(i-m)=i by omega] at this;exact this
 ·rintro ⟨k,h1,h2⟩
  have hk:m<=k:=by
   rcases fe k m with a|a
   ·have:=e k a;omega
   ·exact a
  refine⟨k-m,λi hi=>h1 (m+i) G,?_⟩;simp only[show m+(k-m)=k by omega];exact h2
theorem aAo (s:List Int) (i m:Nat):(λd=>eu s i (m+d))=eu s (i+m):=funext λd=>(wK s i m d).symm
theorem LY {s:List Int} {i j m:Nat} (e:EqH m (eu s i) (eu s j)):LtO (eu s (i+m)) (eu s (j+m))↔LtO (eu s i) (eu s j):=by
 rw[<-aAo,<-aAo];exact aNb e
theorem uI {s:List Int} {m i j:Nat} (hi:i<s.length) (hj:j<s.length) (pm:i≠j) (e:EqH m (eu s i) (eu s j)):j+m<=s.length:=by
 refine Io.1 λh=> ?_;have e1:=e (s.length-j) G;rw[jE (s:=s) (i:=j) G] at e1;have h1:s.length<=i+(s.length-j):=Io.1 λhh=>by have:=rQ hh;omega
 have e2:=e (s.length-i) G;rw[jE (s:=s) (i:=i) G] at e2;have:=rQ (s:=s) (i:=j) (d:=s.length-i) G;omega
def bFs (s:List Int) (k:Int):List Int:=dC (dC (dC (smp s.length) (fU s 2) (k+1).toNat) (fU s 1) (k+1).toNat) (fU s 0) (k+1).toNat
section
variable {s:List Int} {k:Int}
theorem pR {o:List Int} {b:Int} (hs: ∀x∈s,0<=x/\x<k) (hk:0<=k) (hb:0<=b) (ho: ∀x∈o,0<=x/\x<s.length):(dC o (fU s b) (k+1).toNat).Perm o:=
 nN λi hi=>by
  have:=ho i hi;rw[BB this.1 this.2];have:=aIu hs hk (i:=i+b) G;omega
theorem nJ {x:Int} (h:x∈smp s.length):0<=x/\x<s.length:=by rw[lL] at h;omega
theorem bDs (hs: ∀x∈s,0<=x/\x<k) (hk:0<=k):(dC (smp s.length) (fU s 2) (k+1).toNat).Perm (smp s.length):=pR hs hk G λ_ h=>nJ h
theorem bDr (hs: ∀x∈s,0<=x/\x<k) (hk:0<=k):(dC (dC (smp s.length) (fU s 2) (k+1).toNat) (fU s 1) (k+1).toNat).Perm (smp s.length):=
 (pR hs hk G λ_ h=>nJ ((bDs hs hk).subset h)).trans (bDs hs hk)
theorem bDq (hs: ∀x∈s,0<=x/\x<k) (hk:0<=k):(bFs s k).Perm (smp s.length):=
 (pR hs hk G λ_ h=>nJ ((bDr hs hk).subset h)).trans (bDr hs hk)
theorem aDf (hs: ∀x∈s,0<=x/\x<k) (hk:0<=k):(bFs s k).Pairwise λx y=> ¬LtH 3 (eu s y.toNat) (eu s x.toNat):=by
 have h0:(smp s.length).Pairwise λ_ _=>True:=(pQ s.length).imp λ_=>trivial;have h3:=gV (keys:=fU s 0) (gV (keys:=fU s 1) (gV (keys:=fU s 2) h0 (k+1).toNat) (k+1).toNat) (k+1).toNat;refine ol (λ{x y} hx hy h=> ?_) h3;have mx:=nJ ((bDq hs hk).subset hx);have my:=nJ ((bDq hs hk).subset hy);have nn:Nn s:=λx hx=>(hs x hx).1
 have e: ∀ {z:Int} (hz:0<=z/\z<s.length) (b:Nat),rd (fU s (b:Int)) z=eu s z.toNat b:=λ{z} hz b=>by
  rw[BB hz.1 hz.2,uH nn];congr 1;omega
 have ex0:rd (fU s 0) x=eu s x.toNat 0:=e mx 0;have ex1:rd (fU s 1) x=eu s x.toNat 1:=e mx 1;have ex2:rd (fU s 2) x=eu s x.toNat 2:=e mx 2;have ey0:rd (fU s 0) y=eu s y.toNat 0:=e my 0;have ey1:rd (fU s 1) y=eu s y.toNat 1:=e my 1;have ey2:rd (fU s 2) y=eu s y.toNat 2:=e my 2;rw[ex0,ex1,ex2,ey0,ey1,ey2] at h;rintro⟨q,hq,h1,h2⟩
 match q,hq,h1,h2 with
 |0,_,h1,h2=>omega
 |1,_,h1,h2=>have:=h1 0 G;omega
 |2,_,h1,h2=>have:=h1 0 G;have:=h1 1 G;omega
end
structure RkI (s o V:List Int) (q n:Int):Prop where
 len:V.length=s.length+3
 n0:0<=n
 nq:n<=q
 bd: ∀p,0<=p->p<q->1<=rd V (rd o p)/\rd V (rd o p)<=n
 last:0<q->rd V (rd o (q-1))=n
 lt: ∀p p',0<=p->p<p'->p'<q->(EqH 3 (eu s (rd o p).toNat) (eu s (rd o p').toNat)/\rd V (rd o p)=rd V (rd o p'))\/(LtH 3 (eu s (rd o p).toNat) (eu s (rd o p').toNat)/\rd V (rd o p)<rd V (rd o p'))
 full:n=q-> ∀p,0<=p->p<q->rd V (rd o p)=p+1
 out: ∀j:Int,0<=j->j<s.length+3->(∀p:Int,0<=p->p<q->rd o p≠j)->rd V j=0
theorem EqH.trans' {m:Nat} {U V W:Nat->Int} (h:EqH m U V) (g:EqH m V W):EqH m U W:=λi hi=>(h i hi).trans (g i hi)
theorem EqH.ltH {m:Nat} {U V W:Nat->Int} (h:EqH m U V) (g:LtH m V W):LtH m U W:=by
 obtain⟨k,hk,a,b⟩:=g;exact⟨k,hk,λi hi=>(h i G).trans (a i hi),by rw[h k hk];exact b⟩
theorem LtH.eqH {m:Nat} {U V W:Nat->Int} (h:LtH m U V) (g:EqH m V W):LtH m U W:=by
 obtain⟨k,hk,a,b⟩:=h;exact⟨k,hk,λi hi=>(a i hi).trans (g i G),by rw[<-g k hk];exact b⟩
section
variable {s o V:List Int} {q n:Int}
theorem aSa:RkI s o (List.replicate (s.length+3) 0) 0 0:=
 ⟨cz,G,G,λp h1 h2=>G,λh=>G,λp p' h1 h2 h3=>G,λ_ p h1 h2=>G,λj _ _ _=>tY⟩
theorem RkI.step (h:RkI s o V q n) (hp:o.Perm (smp s.length)) (q0:0<=q) (hq:q<o.length) {m:Int}
  (hm:(m=n+1/\(q=0\/LtH 3 (eu s (rd o (q-1)).toNat) (eu s (rd o q).toNat)))\/(m=n/\0<q/\EqH 3 (eu s (rd o (q-1)).toNat) (eu s (rd o q).toNat))):
  RkI s o (upd V (rd o q) m) (q+1) m:=by
 have cg: ∀p:Int,0<=p->p<o.length->0<=rd o p/\rd o p<s.length:=λp p0 p1=>nJ (hp.subset (bN p0 p1));have hnd:o.Nodup:=hp.symm.nodup (pQ _);have hV:=h.len;have iq:=cg q q0 hq;have same:rd (upd V (rd o q) m) (rd o q)=m:=eQ iq.1 G
 have other: ∀p,0<=p->p<q->rd (upd V (rd o q) m) (rd o p)=rd V (rd o p):=λp p0 p1=>by
  have ip:=cg p p0 G;exact fI iq.1 ip.1 λe=>by have:=jX hnd q0 hq p0 G e;omega
 have Lh:=h.n0;have hnq:=h.nq;refine⟨by rw[bD];exact hV,G,G,λp p0 p1=> ?_,λ_=>by rw[show q+1-1=q by omega];exact same,λp p' p0 pp p1=> ?_,λe p p0 p1=> ?_,λj j0 j1 hj=> ?_⟩
 ·rcases bi p q with a|a
  ·rw [other p p0 a];have:=h.bd p p0 a;omega
  ·rw [show p=q by omega,same];rcases hm with⟨a,_⟩|⟨a,b,_⟩
   ·omega
   ·have:=h.bd (q-1) G G;have:=h.last b;omega
 ·rcases bi p' q with a|a
  ·rw [other p p0 G,other p' G a];exact h.lt p p' p0 pp a
  ·obtain rfl:p'=q:=G
   rw[other p p0 pp,same];have hl:=h.last G;have hb:=h.bd p p0 pp;rcases bi p (p'-1) with c|c
   ·have h1:=h.lt p (p'-1) p0 c G;rcases hm with⟨rfl,z|g⟩|⟨rfl,_,g⟩
    ·omega
    ·refine .inr ⟨?_,G⟩;rcases h1 with⟨e,_⟩|⟨e,_⟩
     ·exact e.ltH g
     ·exact e.trans g
    ·rcases h1 with⟨e,v⟩|⟨e,v⟩
     ·exact .inl ⟨e.trans' g,G⟩
     ·exact .inr ⟨e.eqH g,G⟩
   ·obtain rfl:p=p'-1:=G
    rcases hm with⟨rfl,z|g⟩|⟨rfl,_,g⟩
    ·omega
    ·exact .inr ⟨g,G⟩
    ·exact .inl ⟨g,hl⟩
 ·rcases hm with⟨a,_⟩|⟨a,_,_⟩
  ·rcases bi p q with c|c
   ·rw [other p p0 c];exact h.full G p p0 c
   ·rw [show p=q by omega,same];omega
  ·omega
 ·rw [fI iq.1 j0 (hj q q0 G)];exact h.out j j0 j1 λp p0 p1=>hj p p0 G
theorem aFg {l:List Int} {x:Int} (h:x∈l): ∃p:Int,0<=p/\p<l.length/\rd l p=x:=by
 obtain⟨i,hi,rfl⟩:=gz.1 h;exact⟨i,G,G,iL hi⟩
structure RkF (s V:List Int) (n:Int):Prop where
 len:V.length=s.length+3
 bd: ∀i:Nat,i<s.length->i%3≠0->1<=rd V i/\rd V i<=n
 lt: ∀i j:Nat,i<s.length->i%3≠0->j<s.length->j%3≠0->(rd V i<rd V j↔LtH 3 (eu s i) (eu s j))
 eq: ∀i j:Nat,i<s.length->i%3≠0->j<s.length->j%3≠0->(rd V i=rd V j↔EqH 3 (eu s i) (eu s j))
 out: ∀j:Int,0<=j->j<s.length+3->(j%3=0\/s.length<=j)->rd V j=0
theorem RkI.done (h:RkI s o V o.length n) (hp:o.Perm (smp s.length)):RkF s V n:=by
 have at_: ∀i:Nat,i<s.length->i%3≠0-> ∃p:Int,0<=p/\p<o.length/\rd o p=i:=λi h1 h2=>aFg (hp.symm.subset (lL.2 ⟨G,G,G⟩))
 have key: ∀i j:Nat,i<s.length->i%3≠0->j<s.length->j%3≠0->(EqH 3 (eu s i) (eu s j)/\rd V i=rd V j)\/(LtH 3 (eu s i) (eu s j)/\rd V i<rd V j)\/(LtH 3 (eu s j) (eu s i)/\rd V j<rd V i):=by
  intro i j i1 i2 j1 j2;obtain⟨p,p0,p1,ep⟩:=at_ i i1 i2;obtain⟨r,r0,r1,er⟩:=at_ j j1 j2;rcases jd p r with a|a|a
  ·have:=h.lt p r p0 a r1;rw[ep,er,cu,cu] at this;exact this.elim .inl λh=> .inr (.inl h)
  ·subst a;have e:(i:Int)=j:=ep.symm.trans er;have e:i=j:=G
   subst e;exact .inl ⟨λ_ _=>rfl,rfl⟩
  ·have:=h.lt r p r0 a p1;rw[ep,er,cu,cu] at this;exact this.elim (λh=> .inl ⟨h.1.symm,h.2.symm⟩) λh=> .inr (.inr h)
 refine⟨h.len,λi i1 i2=> ?_,λi j i1 i2 j1 j2=> ?_,λi j i1 i2 j1 j2=> ?_,λj j0 j1 hj=>h.out j j0 j1 λp p0 p1 e=> ?_⟩
 ·obtain ⟨p,p0,p1,ep⟩:=at_ i i1 i2;have:=h.bd p p0 p1;rwa[ep] at this
 ·rcases key i j i1 i2 j1 j2 with⟨e,v⟩|⟨e,v⟩|⟨e,v⟩
  ·exact⟨λh=>G,λh=>absurd e h.not_eq⟩
  ·exact⟨λ_=>e,λ_=>v⟩
  ·exact⟨λh=>G,λh=>absurd h e.asymm⟩
 ·rcases key i j i1 i2 j1 j2 with⟨e,v⟩|⟨e,v⟩|⟨e,v⟩
  ·exact⟨λ_=>e,λ_=>v⟩
  ·exact⟨λh=>G,λh=>absurd h e.not_eq⟩
  ·exact⟨λh=>G,λh=>absurd h.symm e.not_eq⟩
 ·have:=lL.1 (hp.subset (e▸bN (L:=o) p0 p1));omega
structure RkO (s o V:List Int):Prop where
 perm:o.Perm (smp s.length)
 sorted:o.Pairwise (bX s)
 len:V.length=s.length+3
 rk: ∀p:Int,0<=p->p<o.length->rd V (rd o p)=p+1
 out: ∀j:Int,0<=j->j<s.length+3->(j%3=0\/s.length<=j)->rd V j=0
theorem RkI.all (h:RkI s o V o.length n) (hp:o.Perm (smp s.length)) (hn:n=o.length):RkO s o V:=by
 have hf:=h.full hn;refine⟨hp,?_,h.len,hf,(h.done hp).out⟩;refine dn.2 λi j hi hj pm=> ?_;have:=h.lt i j G G G;have e1:=hf i G G;have e2:=hf j G G;rw[iL hi,iL hj] at this;rw[iL hi] at e1;rw[iL hj] at e2;rcases this with⟨_,v⟩|⟨v,_⟩
 ·omega
 ·exact nR.2 (yY v)
def blw (s V:List Int):List Int:=(plc s.length 1).map (rd V)++[0]++(plc s.length 2).map (rd V)
theorem uJ (s V:List Int):(blw s V).length=(s.length+1)/3+1+s.length/3:=by
 unfold blw;rw[ah,ah,bz,bz,jQ,jQ,gq];omega
def sN (s:List Int) (i:Nat):Nat:=if i%3=1 then i/3 else(s.length+1)/3+1+i/3
theorem bCy {t:Int} (h0:0<=t) (h:t<(plc s.length 1).length):rd (blw s V) t=rd V (1+3*t):=by
 unfold blw;rw[kE h0 (by rw[ah,bz];omega),kE h0 (by rw[bz];exact h),vR h0 h,UC h0 h];rfl
theorem bCx:rd (blw s V) (plc s.length 1).length=0:=by
 unfold blw;rw[kE G (by rw[ah,bz,gq];omega),gW (by rw[bz];omega),bz,Ij];rfl
theorem bCw {t:Int} (h0:0<=t) (h:t<(plc s.length 2).length):rd (blw s V) ((plc s.length 1).length+1+t)=rd V (2+3*t):=by
 unfold blw;have e:(((plc s.length 1).map (rd V)++[0]).length:Int)=(plc s.length 1).length+1:=by rw[ah,bz,gq];rfl
 rw[gW (by rw[e];omega),e,show((plc s.length 1).length+1+t:Int)-((plc s.length 1).length+1)=t by omega,vR h0 h,UC h0 h];rfl
theorem RkF.nn (h:RkF s V n): ∀i:Nat,i<s.length->i%3≠0->0<=rd V i:=λi a b=>by have:=h.bd i a b;omega
theorem aXx (h:RkF s V n) (hn:0<=n): ∀x∈blw s V,0<=x/\x<n+1:=by
 intro x hx;unfold blw at hx
 have g: ∀r:Nat,r=1\/r=2->x∈(plc s.length r).map (rd V)->0<=x/\x<n+1:=λr hr hx=>by
  obtain⟨i,hi,rfl⟩:=iy.1 hx;rw[kC G] at hi;have:=h.bd i.toNat G G;rw[show((i.toNat:Nat):Int)=i by omega] at this;omega
 rcases gp.1 hx with hx|hx
 ·rcases gp.1 hx with hx|hx
  ·exact g 1 (.inl rfl) hx
  ·rw[ib.1 hx];omega
 ·exact g 2 (.inr rfl) hx
theorem aXw (h:RkF s V n) (hn:0<=n):Nn (blw s V):=λx hx=>(aXx h hn x hx).1
theorem FH (h:RkF s V n) (hn:0<=n) {i:Nat} (hi:i<s.length) (h3:i%3≠0):eu (blw s V) (sN s i) 0=rd V i+1:=by
 have l1:=jQ s.length 1;have l2:=jQ s.length 2;rw[uH (aXw h hn)];unfold iN;rw[uJ];unfold sN;by_cases c:i%3=1
 ·rw[df c,bu G,qm,bCy G (by rw[l1];omega),show(1+3*((i/3:Nat):Int))=i by omega]
 ·rw[bu c,bu G,qm,show(((s.length+1)/3+1+i/3:Nat):Int)=(plc s.length 1).length+1+(i/3:Nat) by rw[l1];omega,bCw G (by rw[l2];omega),show(2+3*((i/3:Nat):Int))=i by omega]
theorem aKb (h:RkF s V n) (hn:0<=n) (h3:s.length%3≠0):eu (blw s V) (sN s s.length) 0<=1:=by
 have l1:=jQ s.length 1;rw[uH (aXw h hn)];unfold iN;rw[uJ];unfold sN;by_cases c:s.length%3=1
 ·rw [df c,bu G,qm,show((s.length/3:Nat):Int)=(plc s.length 1).length by rw[l1];omega,bCx];omega
 ·rw [bu c,df G];omega
theorem aXt {i:Nat} (h3:i%3≠0):sN s (i+3)=sN s i+1:=by
 unfold sN;by_cases c:i%3=1
 ·rw[df c,df G];omega
 ·rw[bu c,bu G];omega
theorem bCz (h:RkF s V n) (hn:0<=n): ∀(k i j:Nat),i%3≠0->j%3≠0->i<=s.length->j<=s.length->i≠j->
  (∀d,d<k->eu (blw s V) (sN s i) d=eu (blw s V) (sN s j) d)->eu (blw s V) (sN s i) k<eu (blw s V) (sN s j) k->LtO (eu s i) (eu s j):=by
 intro k
 induction k with
 | zero=>
  intro i j i3 j3 hi hj pm _ bc;rcases fe j s.length with j1|j1
  ·rcases fe i s.length with i1|i1
   ·rw [FH h hn i1 i3,FH h hn j1 j3] at bc;exact yY ((h.lt i j i1 i3 j1 j3).1 G)
   ·exact⟨0,λi hi=>G,by rw[jE G];exact rQ G⟩
  ·have e:j=s.length:=G
   rw[e] at bc j3;have h1:=aKb h hn j3;rw[FH h hn G i3] at bc;have:=h.bd i G i3;omega
 | succ k ih=>
  intro i j i3 j3 hi hj pm g7 bc;have e0:=g7 0 G;rcases fe j s.length with j1|j1
  ·rcases fe i s.length with i1|i1
   ·rw [FH h hn i1 i3,FH h hn j1 j3] at e0;have e:=(h.eq i j i1 i3 j1 j3).1 G;have r1:=uI i1 j1 pm e;have r2:=uI j1 i1 (Fq pm) e.symm
    have sh: ∀ {x d:Nat},x%3≠0->eu (blw s V) (sN s (x+3)) d=eu (blw s V) (sN s x) (d+1):=λ{x d} hx=>by
     rw[aXt hx,wK,vz]
    have:=ih (i+3) (j+3) G G r2 r1 G (λd hd=>by rw[sh i3,sh j3];exact g7 (d+1) G) (by rw[sh i3,sh j3];exact bc);exact(LY e).1 this
   ·exact⟨0,λi hi=>G,by rw[jE G];exact rQ G⟩
  ·exfalso;have e:j=s.length:=G
   rw[e] at e0 j3;have h1:=aKb h hn j3;rw[FH h hn G i3] at e0;have:=h.bd i G i3;omega
def bk (s:List Int) (t:Int):Int:=if t<(plc s.length 1).length then 1+3*t else 2+3*(t-(plc s.length 1).length-1)
theorem aCc {t:Int} (h0:0<=t) (h:t<(blw s V).length) (dv:t≠(plc s.length 1).length):(0<=bk s t/\bk s t<s.length)/\bk s t%3≠0/\sN s (bk s t).toNat=t.toNat:=by
 have l1:=jQ s.length 1;rw[uJ] at h;unfold bk;by_cases c:t<(plc s.length 1).length
 ·rw [df c];refine⟨G,G,?_⟩;unfold sN;rw[df G];omega
 ·rw [bu c];refine⟨G,G,?_⟩;unfold sN;rw[bu G];omega
def ofB (s sb:List Int):List Int:=(sb.filter λt:Int=>decide (t≠(plc s.length 1).length)).map (bk s)
theorem ZH {sb:List Int} {t:Int} (h:t=(plc s.length 1).length):ofB s (sb++[t])=ofB s sb:=by
 unfold ofB;rw[ug,ll (by simpa using h)];simp
theorem ZI {sb:List Int} {t:Int} (h:t≠(plc s.length 1).length):ofB s (sb++[t])=ofB s sb++[bk s t]:=by
 unfold ofB;rw[ug,pz (by simpa using h),jo];rfl
theorem bAy (sb:List Int):(ofB s sb).length<=sb.length:=by
 unfold ofB;rw[bz];exact zm _ _
variable {sb:List Int}
theorem BJ (hb:sb.Perm (iota (blw s V).length)) {t:Int} (ht:t∈sb.filter λt:Int=>decide (t≠(plc s.length 1).length)):(0<=t/\t<(blw s V).length)/\t≠(plc s.length 1).length:=by
 rw[og] at ht;exact⟨bE.1 (hb.subset ht.1),by simpa using ht.2⟩
theorem aTq (hb:sb.Perm (iota (blw s V).length)):(ofB s sb).Perm (smp s.length):=by
 have hd:(sb.filter λt:Int=>decide (t≠(plc s.length 1).length)).Nodup:=(hb.symm.nodup (eO _)).sublist uj;refine YY ?_ (pQ _) λx=>⟨λhx=> ?_,λhx=> ?_⟩
 ·unfold ofB;refine iw.2 (hd.imp_of_mem λ{x y} hx hy dv e=> ?_);obtain⟨⟨x0,x1⟩,xn⟩:=BJ hb hx;obtain⟨⟨y0,y1⟩,yn⟩:=BJ hb hy;have a:=(aCc x0 x1 xn).2.2;have b:=(aCc y0 y1 yn).2.2;rw[e,b] at a;omega
 ·obtain ⟨t,ht,rfl⟩:=iy.1 hx;obtain⟨⟨x0,x1⟩,xn⟩:=BJ hb ht;have:=aCc x0 x1 xn;exact lL.2 ⟨this.1.1,this.1.2,this.2.1⟩
 ·obtain ⟨x0,x1,x3⟩:=lL.1 hx;have l1:=jQ s.length 1;refine iy.2 ⟨sN s x.toNat,og.2 ⟨hb.symm.subset (bE.2 ⟨G,?_⟩),?_⟩,?_⟩
  ·rw [uJ];unfold sN;split<;>omega
  ·rw [iv,l1];unfold sN;split<;>omega
  ·unfold bk sN;rw[l1];by_cases c:x.toNat%3=1
   ·rw[df c,df G];omega
   ·rw[bu c,bu G];omega
theorem aEn (h:RkF s V n) (hn:0<=n) (hb:sb.Perm (iota (blw s V).length)) (hs:sb.Pairwise (bX (blw s V))):(ofB s sb).Pairwise (bX s):=by
 unfold ofB;refine iw.2 ((hs.filter _).imp_of_mem λ{x y} hx hy ho=> ?_);obtain⟨⟨x0,x1⟩,xn⟩:=BJ hb hx;obtain⟨⟨y0,y1⟩,yn⟩:=BJ hb hy;obtain⟨a1,a2,a3⟩:=aCc x0 x1 xn;obtain⟨b1,b2,b3⟩:=aCc y0 y1 yn;rw[nR] at ho ⊢;obtain⟨k,h1,h2⟩:=ho;rw[<-a3,<-b3] at h2;refine bCz h hn k _ _ G G G G ?_ (λd hd=>by rw[a3,b3];exact h1 d hd) h2;intro e;rw[e] at h2;omega
structure RkN (s o V:List Int) (q:Int):Prop where
 len:V.length=s.length+3
 rk: ∀p,0<=p->p<q->rd V (rd o p)=p+1
 out: ∀j:Int,0<=j->j<s.length+3->(j%3=0\/s.length<=j)->rd V j=0
theorem RkF.zero (h:RkF s V n) (o:List Int):RkN s o V 0:=⟨h.len,λp h1 h2=>G,h.out⟩
theorem RkN.step (h:RkN s o V q) (hp:o.Perm (smp s.length)) (q0:0<=q) (hq:q<o.length):RkN s o (upd V (rd o q) (q+1)) (q+1):=by
 have cg: ∀p:Int,0<=p->p<o.length->rd o p∈smp s.length:=λp p0 p1=>hp.subset (bN p0 p1);have hnd:o.Nodup:=hp.symm.nodup (pQ _);have iq:=lL.1 (cg q q0 hq);have hl:=h.len;refine⟨by rw[bD];exact hl,λp p0 p1=> ?_,λj j0 j1 hj=> ?_⟩
 ·rcases bi p q with a|a
  ·have ip:=lL.1 (cg p p0 G);rw[fI iq.1 ip.1 λe=>by have:=jX hnd q0 hq p0 G e;omega];exact h.rk p p0 a
  ·rw[show p=q by omega,eQ iq.1 G]
 ·rw [fI iq.1 j0 G];exact h.out j j0 j1 hj
theorem RkN.done (h:RkN s o V o.length) (hp:o.Perm (smp s.length)) (hs:o.Pairwise (bX s)):RkO s o V:=⟨hp,hs,h.len,h.rk,h.out⟩
def aLf (s:List Int) (a:Int):Prop:=0<=a/\(a<s.length/\a%3≠0\/a=s.length)
theorem RkO.at_ (h:RkO s o V) {a:Int} (ha:aLf s a) (hl:a<s.length): ∃p:Int,(0<=p/\p<o.length)/\rd o p=a/\rd V a=p+1:=by
 obtain⟨p,p0,p1,e⟩:=aFg (h.perm.symm.subset (lL.2 ⟨ha.1,hl,ha.2.elim (·.2) λh=>G⟩));exact⟨p,⟨p0,p1⟩,e,by rw[<-e];exact h.rk p p0 p1⟩
theorem RkO.end_ (h:RkO s o V):rd V (s.length:Int)=0:=h.out _ G G (.inr G)
theorem RkO.bd (h:RkO s o V) {a:Int} (ha:aLf s a):0<=rd V a/\rd V a<=o.length:=by
 rcases bi a s.length with c|c
 ·obtain ⟨p,hp,_,e⟩:=h.at_ ha c;omega
 ·have e:a=s.length:=ha.2.elim (λh=>G) id;rw[e,h.end_];omega
theorem RkO.cmp (h:RkO s o V) {a b:Int} (ha:aLf s a) (hb:aLf s b) (dv:a≠b):rd V a<rd V b↔LtO (eu s a.toNat) (eu s b.toNat):=by
 rcases bi a s.length with ca|ca
 ·obtain ⟨p,hp,ep,vp⟩:=h.at_ ha ca;rcases bi b s.length with cb|cb
  ·obtain ⟨r,hr,er,vr⟩:=h.at_ hb cb;rw[vp,vr];constructor
   ·intro bc;have:=eT h.sorted hp.1 (show p<r by omega) hr.2;rw[ep,er] at this;exact nR.1 this
   ·intro bc;rcases jd p r with c|c|c
    ·omega
    ·subst c;exact absurd (ep.symm.trans er) dv
    ·have:=eT h.sorted hr.1 c hp.2;rw[ep,er] at this;exact absurd bc (aNc (nR.1 this))
  ·have e:b=s.length:=hb.2.elim (λh=>G) id;rw[e,h.end_,vp];refine⟨λh=>G,λ⟨k,_,h2⟩=> ?_⟩;rw[jE (s:=s) (i:=(s.length:Int).toNat) G] at h2;have:=aVm s a.toNat k;omega
 ·have e:a=s.length:=ha.2.elim (λh=>G) id;rw[e,h.end_];have cb:b<s.length:=hb.2.elim (·.1) λh=>G
  obtain⟨r,hr,er,vr⟩:=h.at_ hb cb;rw[vr];refine⟨λ_=>⟨0,λi hi=>G,?_⟩,λ_=>G⟩;rw[jE G];exact rQ (by have:=hb.1;omega)
def bhd (s V:List Int):List Int:=(List.range s.length).map λi:Nat=>rd V ((i:Int)+1)
theorem aKf (s V:List Int):(bhd s V).length=s.length:=by simp[bhd]
theorem aEc {i:Int} (h0:0<=i) (h:i<s.length):rd (bhd s V) i=rd V (i+1):=by
 unfold bhd;rw[iB h0 G];congr 1;omega
theorem RkO.all_bd (h:RkO s o V) {j:Int} (j0:0<=j) (hj:j<=s.length):0<=rd V j/\rd V j<=s.length:=by
 have ho:o.length<=s.length:=by rw[h.perm.length_eq,AC];omega
 by_cases c:j%3=0
 ·rw[h.out j j0 G (.inl c)];omega
 ·have:=h.bd (a:=j) ⟨j0,G⟩;omega
theorem aXy (h:RkO s o V): ∀x∈bhd s V,0<=x/\x<(s.length:Int)+1:=by
 intro x hx;obtain⟨i,hi,rfl⟩:=iy.1 hx;have:=jq.1 hi;have:=h.all_bd (j:=(i:Int)+1) G G;omega
def oth (s V:List Int) (k:Int):List Int:=dC (dC (plc s.length 0) (bhd s V) ((s.length:Int)+1).toNat) (fU s 0) (k+1).toNat
theorem aTf (h:RkO s o V):(dC (plc s.length 0) (bhd s V) ((s.length:Int)+1).toNat).Perm (plc s.length 0):=
 nN λi hi=>by
  rw[kC G] at hi;have:=aXy h _ (bN (L:=bhd s V) hi.1 (by rw[aKf];exact hi.2.1));omega
theorem LC (h:RkO s o V) {k:Int} (hs: ∀x∈s,0<=x/\x<k) (hk:0<=k):(oth s V k).Perm (plc s.length 0):=
 (pR hs hk G λx hx=>by have:=(aTf h).subset hx;rw[kC G] at this;omega).trans (aTf h)
theorem aEi (h:RkO s o V) {k:Int} (hs: ∀x∈s,0<=x/\x<k) (hk:0<=k):(oth s V k).Pairwise (bX s):=by
 have h3:=gV (keys:=fU s 0) (gV (keys:=bhd s V) (xK s.length 0) ((s.length:Int)+1).toNat) (k+1).toNat;refine ol (λ{x y} hx hy g=> ?_) h3;have mx:=(LC h hs hk).subset hx;have my:=(LC h hs hk).subset hy;rw[kC G] at mx my;have nn:Nn s:=λx hx=>(hs x hx).1
 have e: ∀ {z:Int},0<=z->z<s.length->rd (fU s 0) z=eu s z.toNat 0:=λ{z} h0 h1=>by
  rw[BB h0 h1,uH nn];congr 1;omega
 rw[e mx.1 mx.2.1,e my.1 my.2.1,aEc mx.1 mx.2.1,aEc my.1 my.2.1] at g;have sx:aLf s (x+1):=⟨G,G⟩;have sy:aLf s (y+1):=⟨G,G⟩;rw[nR];rcases g with g|⟨g1,g2|⟨g2,g3⟩⟩
 ·exact⟨0,λi hi=>G,g⟩
 ·have:=(h.cmp sx sy λe=>by rw[e] at g2;omega).1 g2;refine(LY (m:=1) λi hi=> ?_).1 ?_
  ·rw[show i=0 by omega];exact g1
  ·rw [show x.toNat+1=(x+1).toNat by omega,show y.toNat+1=(y+1).toNat by omega];exact this
 ·exfalso;have Py:x≠y:=g3;have t:=h.cmp sx sy G;have t':=h.cmp sy sx G;rcases tri s.length (eu s (x+1).toNat) (eu s (y+1).toNat) with a|a|a
  ·have:=t.2 (yY a);omega
  ·have a0:EqH s.length (eu s x.toNat) (eu s y.toNat):=λi hi=>by
    cases i with
    |zero=>exact g1
    |succ i=>
     have:=a i G;rw[show(x+1).toNat=x.toNat+1 by omega,show(y+1).toNat=y.toNat+1 by omega,wK,wK,vz] at this;exact this
   have:=aFo G G a0;omega
  ·have:=t'.2 (yY a);omega
theorem aUf (nn:Nn s) {i j:Int} (i0:0<=i) (j0:0<=j) {c:Nat} (e:EqH c (eu s i.toNat) (eu s j.toNat)) (dv:iN s (i+c)≠iN s (j+c)):iN s (i+c)<iN s (j+c)↔bX s i j:=by
 have k1:iN s (i+c)=eu s i.toNat c:=by rw[uH nn];congr 1;omega
 have k2:iN s (j+c)=eu s j.toNat c:=by rw[uH nn];congr 1;omega
 rw[k1,k2] at dv ⊢;rw[nR];refine⟨λh=>⟨c,e,h⟩,λ⟨k,h1,h2⟩=> ?_⟩;rcases xx k c with a|a|a
 ·have:=e k a;omega
 ·rw[<-a];exact h2
 ·exact absurd (h1 c a) dv
theorem bBs (nn:Nn s) {i j:Int} (i0:0<=i) (j0:0<=j) {c:Nat} (e:EqH c (eu s i.toNat) (eu s j.toNat)) (h:iN s (i+c)=iN s (j+c)):EqH (c+1) (eu s i.toNat) (eu s j.toNat):=λd hd=>by
 rcases fe d c with a|a
 ·exact e d a
 ·have k1:iN s (i+c)=eu s i.toNat c:=by rw[uH nn];congr 1;omega
  have k2:iN s (j+c)=eu s j.toNat c:=by rw[uH nn];congr 1;omega
  rw[show d=c by omega,<-k1,<-k2,h]
theorem aNf (h:RkO s o V) {i j:Int} (hi:0<=i/\i<s.length) (hj:0<=j/\j<s.length) (pm:i≠j) {c:Nat} (e:EqH c (eu s i.toNat) (eu s j.toNat)) (i3:(i+c)%3≠0) (j3:(j+c)%3≠0):
  (i+c<=s.length/\j+c<=s.length)/\(rd V (i+c)<rd V (j+c)↔bX s i j):=by
 have r1:=uI (s:=s) (i:=i.toNat) (j:=j.toNat) G G G e;have r2:=uI (s:=s) (i:=j.toNat) (j:=i.toNat) G G G e.symm;refine⟨G,?_⟩;rw[h.cmp ⟨G,G⟩ ⟨G,G⟩ G,nR,<-LY e,show(i+c).toNat=i.toNat+c by omega,show(j+c).toNat=j.toNat+c by omega]
structure MgI (s o t acc:List Int) (a q:Int):Prop where
 perm:acc.Perm (o.take a.toNat++t.take q.toNat)
 sorted:acc.Pairwise (bX s)
 ahead: ∀x∈acc,∀y,y∈o.drop a.toNat\/y∈t.drop q.toNat->bX s x y
variable {t acc:List Int} {a:Int}
theorem aTx:MgI s o t [] 0 0:=⟨.refl _, .nil,λx hx=>by cases hx⟩
theorem MgI.len (h:MgI s o t acc a q) (a0:0<=a) (ha:a<=o.length) (q0:0<=q) (hq:q<=t.length):(acc.length:Int)=a+q:=by
 rw[h.perm.length_eq,ah,ax,ax];omega
theorem aHt {r:Int->Int->Prop} {l:List Int} {x:Int} (h:l.Pairwise r) (hx: ∀y∈l,r y x):(l++[x]).Pairwise r:=by
 rw[kz];exact⟨h,qa _ _,λy hy z hz=>by rw[ib.1 hz];exact hx y hy⟩
theorem MgI.left (h:MgI s o t acc a q) (ho:o.Pairwise (bX s)) (ht:t.Pairwise (bX s)) (a0:0<=a) (ha:a<o.length) (q0:0<=q) (hq:q<t.length) (hl:bX s (rd o a) (rd t q)):MgI s o t (acc++[rd o a]) (a+1) q:=by
 have eo:=gK (s:=o) a0 ha;have et:=gK (s:=t) q0 hq;refine⟨?_,aHt h.sorted λy hy=>h.ahead y hy _ (.inl (by rw[eo];simp)),λx hx y hy=> ?_⟩
 ·rw [dH a0 ha];refine(h.perm.append_right _).trans ?_;rw[gy,gy];exact Bc _ yc
 ·rcases gp.1 hx with hx|hx
  ·exact h.ahead x hx y (hy.imp_left λhy=>by rw[eo];exact ek _ hy)
  ·rw [ib.1 hx];have so:(o.drop a.toNat).Pairwise (bX s):=ho.sublist (zw _ _);have st:(t.drop q.toNat).Pairwise (bX s):=ht.sublist (zw _ _);rw[eo,jb] at so;rw[et,jb] at st;rcases hy with hy|hy
   ·exact so.1 y hy
   ·rw [et] at hy;rcases jm.1 hy with rfl|hy
    ·exact hl
    ·exact yX _ _ _ hl (st.1 y hy)
theorem MgI.right (h:MgI s o t acc a q) (ho:o.Pairwise (bX s)) (ht:t.Pairwise (bX s)) (a0:0<=a) (q0:0<=q) (hq:q<t.length) (hl:a<o.length->bX s (rd t q) (rd o a)):MgI s o t (acc++[rd t q]) a (q+1):=by
 have et:=gK (s:=t) q0 hq;refine⟨?_,aHt h.sorted λy hy=>h.ahead y hy _ (.inr (by rw[et];simp)),λx hx y hy=> ?_⟩
 ·rw [dH q0 hq,<-gy];exact h.perm.append_right _
 ·rcases gp.1 hx with hx|hx
  ·exact h.ahead x hx y (hy.imp_right λhy=>by rw[et];exact ek _ hy)
  ·rw [ib.1 hx];have st:(t.drop q.toNat).Pairwise (bX s):=ht.sublist (zw _ _);rw[et,jb] at st;rcases hy with hy|hy
   ·rcases bi a o.length with c|c
    ·have eo:=gK (s:=o) a0 c;have so:(o.drop a.toNat).Pairwise (bX s):=ho.sublist (zw _ _);rw[eo,jb] at so;rw[eo] at hy;rcases jm.1 hy with rfl|hy
     ·exact hl c
     ·exact yX _ _ _ (hl c) (so.1 y hy)
    ·rw [oq G] at hy;cases hy
   ·exact st.1 y hy
theorem MgI.done (h:MgI s o t acc a q) (ho:o.Pairwise (bX s)) (hq:(t.length:Int)<=q) (hp:o.Perm (smp s.length)) (tp:t.Perm (plc s.length 0)):(acc++o.drop a.toNat).Perm (iota s.length)/\(acc++o.drop a.toNat).Pairwise (bX s):=by
 refine⟨?_,?_⟩
 ·have h1:=h.perm;rw[bn (l:=t) G] at h1;refine((h1.append_right _).trans ?_).trans (((hp.append_right _).trans (tp.append_left _)).trans (aZk _));refine(yc.append_right _).trans ?_;rw[gy,gu];exact yc
 ·rw [kz];exact⟨h.sorted,ho.sublist (zw _ _),λx hx y hy=>h.ahead x hx y (.inl hy)⟩
end
def thr (s:List Int) (m:Int):List Int:=(List.range (m+1).toNat).map λc:Nat=>if (c:Int)∈s then 1 else 0
theorem jY (s:List Int) (m:Int):(thr s m).length=(m+1).toNat:=by simp[thr]
theorem KL {s:List Int} {m c:Int} (h0:0<=c) (h:c<=m):rd (thr s m) c=if c∈s then 1 else 0:=by
 unfold thr;rw[iB h0 G,show((c.toNat:Nat):Int)=c by omega]
theorem aZb (m:Int):thr [] m=List.replicate (m+1).toNat 0:=by
 refine bQ (by rw[jY,cz]) λj h0 h1=> ?_;rw[jY] at h1;rw[KL h0 G,tY];rfl
theorem aQv {s:List Int} {m x:Int} (h0:0<=x) (h:x<=m):upd (thr s m) x 1=thr (s++[x]) m:=by
 refine bQ (by rw[bD,jY,jY]) λj j0 j1=> ?_;rw[bD,jY] at j1;rw[fV h0 j0 (by rw[jY];omega),KL j0 G,KL j0 G];by_cases e:j=x
 ·rw[df e,df (by rw[e];simp)]
 ·rw [bu e];by_cases c:j∈s
  ·rw[df c,df (Bj _ c)]
  ·rw[bu c,bu (by rw[gp,ib];exact λh=>h.elim c e)]
theorem aQw (s:List Int) (m:Int): ∀x∈thr s m,0<=x:=by
 intro x hx;obtain⟨c,_,rfl⟩:=iy.1 hx;split<;>omega
theorem aSx {s:List Int} {m:Int}: ∀x:Nat,(x:Int)<=m+1->ps (thr s m) x=((List.range x).filter λc:Nat=>decide ((c:Int)∈s)).length
 |0,_=>rfl
 | x+1,h=>by
  rw[show((x+1:Nat):Int)=(x:Int)+1 by omega,lJ G (by rw[jY];omega),aSx x G,KL G G,zq,ug,ah];by_cases c:(x:Int)∈s
  ·rw [df c,pz (by simpa using c)];simp
  ·rw [bu c,ll (by simpa using c)];simp
theorem bAl {L:List Int} (h: ∀x∈L,0<=x) {a b:Int} (h0:0<=a) (vd:a<=b) (hb:b<=L.length):ps L a<=ps L b:=by
 obtain⟨d,rfl⟩: ∃d:Nat,b=a+d:=⟨(b-a).toNat,G⟩
 induction d with
 |zero=>simp
 |succ d ih=>
  have:=ih G G;rw[show a+((d+1:Nat):Int)=a+(d:Int)+1 by omega,lJ G G];have:=h _ (bN (L:=L) (k:=a+d) G G);omega
theorem aHr {s:List Int} {m x y:Int} (hx:x∈s) (x0:0<=x) (Py:x<y) (hy:y<=m):ps (thr s m) x<ps (thr s m) y:=by
 have h1:=lJ (L:=thr s m) (k:=x) x0 (by rw[jY];omega);rw[KL x0 G,df hx] at h1;have h2:=bAl (aQw s m) (a:=x+1) (b:=y) G G (by rw[jY];omega);omega
theorem bJj {s:List Int} {m x:Int} (hx:x∈s) (x0:0<=x) (hm:x<=m):0<=ps (thr s m) x/\ps (thr s m) x<s.length:=by
 have e:ps (thr s m) x=((List.range x.toNat).filter λc:Nat=>decide ((c:Int)∈s)).length:=by
  have:=aSx (s:=s) (m:=m) x.toNat G;rwa[show((x.toNat:Nat):Int)=x by omega] at this
 rw[e];have hl:=nY (l:=(((List.range x.toNat).filter λc:Nat=>decide ((c:Int)∈s)).map λc:Nat=>(c:Int))++[x]) (m:=s) ?_ ?_
 ·rw [ah,bz,gq] at hl;omega
 ·refine xu.2 ⟨iw.2 ((xc.sublist uj).imp λ{x y} h hh=>h G),qa _ _,λa ha b hb e=> ?_⟩;obtain⟨c,hc,rfl⟩:=iy.1 ha;have:=jq.1 (og.1 hc).1;rw[ib] at hb;omega
 ·intro z hz;rcases gp.1 hz with hz|hz
  ·obtain ⟨c,hc,rfl⟩:=iy.1 hz;simpa using (og.1 hc).2
  ·rw[ib.1 hz];exact hx
def sqz (s:List Int) (m:Int):List Int:=s.map λx=>ps (thr s m) x
theorem IG (s:List Int) (m:Int):(sqz s m).length=s.length:=by simp[sqz]
theorem bFv {s:List Int} {m:Int} (hs: ∀x∈s,0<=x/\x<=m): ∀x∈sqz s m,0<=x/\x<s.length:=by
 intro y hy;obtain⟨x,hx,rfl⟩:=iy.1 hy;exact bJj hx (hs x hx).1 (hs x hx).2
theorem NA {P:Int->Prop} {f:Int->Int} (hf: ∀x y:Int,P x->P y->(x<y↔f x<f y)): ∀a b:List Int,(∀x∈a,P x)->(∀x∈b,P x)->cmpL (a.map f) (b.map f)=cmpL a b
 |[],[],_,_=>rfl
 |[],b::v,_,_=>rfl
 |a::u,[],_,_=>rfl
 |a::u,b::v,ha,hb=>by
  have pa:=ha a cD;have pb:=hb b cD;simp only[lm,cmpL,<-hf a b pa pb,<-hf b a pb pa];rw[NA hf u v (λx hx=>ha x (ek _ hx)) λx hx=>hb x (ek _ hx)]
theorem aZg {s:List Int} {m:Int} (hs: ∀x∈s,0<=x/\x<=m) {x y:Int}:bX (sqz s m) x y↔bX s x y:=by
 rw[<-gT,<-gT];unfold sqz;rw[<-Ho,<-Ho,NA (P:=λx=>x∈s) (λx y hx hy=>⟨λh=>aHr hx (hs x hx).1 h (hs y hy).2,λh=> ?_⟩) _ _ (λx hx=>pg hx) λx hx=>pg hx];refine Int.not_le.1 λc=> ?_;rcases bi y x with d|d
 ·have:=aHr hy (hs y hy).1 d (hs x hx).2;omega
 ·rw [show x=y by omega] at h;omega
theorem aLb {s b:List Int} {m:Int} (hs: ∀x∈s,0<=x/\x<=m) (hp:b.Perm (iota (sqz s m).length)) (ho:b.Pairwise (bX (sqz s m))):b.Perm (iota s.length)/\b.Pairwise (bX s):=by
 rw[IG] at hp;exact⟨hp,ho.imp λh=>(aZg hs).1 h⟩
def bFr (s:List Int) (k:Int):Nat->List Int
 |0=>smp s.length
 |j+1=>dC (bFr s k j) (fU s (2-(j:Int))) (k+1).toNat
theorem DU {s:List Int} {k:Int} (hs: ∀x∈s,0<=x/\x<k) (hk:0<=k): ∀j:Nat,j<=3->(bFr s k j).Perm (smp s.length)
 |0,_=> .refl _
 |j+1,h=>(pR hs hk G λx hx=>nJ ((DU hs hk j G).subset hx)).trans (DU hs hk j G)
def PC (s:List Int) (i j:Int):Prop:=iN s (i+0)=iN s (j+0)/\iN s (i+1)=iN s (j+1)/\iN s (i+2)=iN s (j+2)
instance (s:List Int) (i j:Int):Decidable (PC s i j):=by unfold PC;exact inferInstance
theorem aCk {s:List Int} (nn:Nn s) {i j:Int} (i0:0<=i) (j0:0<=j):PC s i j↔EqH 3 (eu s i.toNat) (eu s j.toNat):=by
 have e: ∀(z:Int) (b:Nat),0<=z->iN s (z+b)=eu s z.toNat b:=λz b hz=>by rw[uH nn];congr 1;omega
 have a0:iN s (i+0)=eu s i.toNat 0:=e i 0 i0;have a1:iN s (i+1)=eu s i.toNat 1:=e i 1 i0;have a2:iN s (i+2)=eu s i.toNat 2:=e i 2 i0;have b0:iN s (j+0)=eu s j.toNat 0:=e j 0 j0;have b1:iN s (j+1)=eu s j.toNat 1:=e j 1 j0;have b2:iN s (j+2)=eu s j.toNat 2:=e j 2 j0;unfold PC;rw[a0,a1,a2,b0,b1,b2];constructor
 ·rintro ⟨h0,h1,h2⟩ d hd
  match d,hd with
  |0,_=>exact h0
  |1,_=>exact h1
  |2,_=>exact h2
 ·intro h;exact⟨h 0 G,h 1 G,h 2 G⟩
theorem bDe {s:List Int} {i j:Int} (h: ∀c:Int,0<=c->c<3->iN s (i+c)=iN s (j+c)):PC s i j:=⟨h 0 G G,h 1 G G,h 2 G G⟩
theorem aYh {s:List Int} {i j c:Int} (c0:0<=c) (c3:c<3) (h:iN s (i+c)≠iN s (j+c)): ¬PC s i j:=by
 rintro⟨h0,h1,h2⟩;rcases(by omega:c=0\/c=1\/c=2) with rfl|rfl|rfl
 ·exact h h0
 ·exact h h1
 ·exact h h2
section
variable {s o V:List Int} {q n:Int}
theorem bGu (nn:Nn s) (hp:o.Perm (smp s.length)) (hs:o.Pairwise λx y=> ¬LtH 3 (eu s y.toNat) (eu s x.toNat)) (q0:0<=q) (hq:q<o.length) (h:q=0\/ ¬PC s (rd o (q-1)) (rd o q)):
  q=0\/LtH 3 (eu s (rd o (q-1)).toNat) (eu s (rd o q).toNat):=by
 rcases bi 0 q with c|c
 ·rcases h with h|h
  ·exact .inl h
  ·have cg: ∀p:Int,0<=p->p<o.length->0<=rd o p:=λp a b=>(nJ (hp.subset (bN a b))).1;rw[aCk nn (cg (q-1) G G) (cg q q0 hq)] at h;have g:=eT hs (i:=q-1) (j:=q) G G hq;rcases tri 3 (eu s (rd o (q-1)).toNat) (eu s (rd o q).toNat) with a|a|a
   ·exact .inr a
   ·exact absurd a h
   ·exact absurd a g
 ·exact .inl G
theorem bGs (nn:Nn s) (hp:o.Perm (smp s.length)) (q0:0<=q) (hq:q<o.length) (h: ¬(q=0\/ ¬PC s (rd o (q-1)) (rd o q))):0<q/\EqH 3 (eu s (rd o (q-1)).toNat) (eu s (rd o q).toNat):=by
 have c:0<q:=G
 have cg: ∀p:Int,0<=p->p<o.length->0<=rd o p:=λp a b=>(nJ (hp.subset (bN a b))).1;refine⟨c,(aCk nn (cg (q-1) G G) (cg q q0 hq)).1 (xk.1 λg=>h (.inr g))⟩
theorem RkI.short (h:RkI s o V o.length n) (hp:o.Perm (smp s.length)) (h2:2<=s.length) (h3:s.length<=3):n=o.length:=by
 have hl:o.length=(s.length+1)/3+s.length/3:=by rw[hp.length_eq,AC]
 have cg: ∀p:Int,0<=p->p<o.length->(0<=rd o p/\rd o p<s.length/\rd o p%3≠0):=λp a b=>lL.1 (hp.subset (bN a b));have hnq:=h.nq;have b0:=h.bd 0 G G;rcases(by omega:o.length=1\/o.length=2) with e|e
 ·omega
 ·have b1:=h.bd 1 G G;have i0:=cg 0 G G;have i1:=cg 1 G G;rcases h.lt 0 1 G G G with⟨a,_⟩|⟨_,a⟩
  ·exfalso;have dv:rd o 0≠rd o 1:=λg=>by have:=jX (hp.symm.nodup (pQ _)) (i:=0) (j:=1) G G G G g;omega
   have:=uI (s:=s) (i:=(rd o 0).toNat) (j:=(rd o 1).toNat) G G G a;omega
  ·omega
theorem bHy {t:Int} (h0:0<=t) (h:t<(plc s.length 1).length):rd (plc s.length 1) t=bk s t:=by
 unfold bk;rw[df h,UC h0 h];rfl
theorem bHx {t:Int} (h:(plc s.length 1).length<t) (ht:t-1<(smp s.length).length):rd (smp s.length) (t-1)=bk s t:=by
 unfold bk;rw[bu G];unfold smp at ht ⊢;rw[ah] at ht;rw[gW G,UC G G];omega
theorem aMo (h:s.length<2):plc s.length 0=iota s.length:=by
 rcases(by omega:s.length=0\/s.length=1) with e|e<;>rw[e]<;>rfl
theorem bGg (h:s.length<2):(iota s.length).Pairwise (bX s):=by
 rcases(by omega:s.length=0\/s.length=1) with e|e
 ·rw[e];exact .nil
 ·rw[e];exact qa _ _
theorem bIb {W:List Int} (hl:W.length=s.length) (h: ∀j:Int,0<=j->j<s.length->rd W j=rd V (j+1)):W=bhd s V:=
 bQ (hl.trans (aKf s V).symm) λj h0 h1=>by rw[aEc h0 G];exact h j h0 G
theorem aUn {W:List Int} {b:Int} (hl:W.length=s.length) (h: ∀j:Int,0<=j->j<s.length->rd W j=iN s (j+b)):W=fU s b:=
 bQ (hl.trans (EQ s b).symm) λj h0 h1=>by rw[BB h0 G];exact h j h0 G
end
theorem JS: ∀ {L:List Int},(∀x∈L,x<=1)->L.sum<=L.length
 |[],_=>cD
 |a::L,h=>by
  have:=JS (L:=L) λx hx=>h x (ek _ hx);have:=h a cD;rw[yj,dh];omega
theorem aZa (s:List Int) (m:Int):(thr s m).sum<=(m+1).toNat:=by
 rw[<-jY s m];refine JS λx hx=> ?_;obtain⟨c,_,rfl⟩:=iy.1 hx;split<;>omega
theorem bFu {s W:List Int} {m:Int} (hs: ∀x∈s,0<=x/\x<=m) (hl:W.length=s.length) (h: ∀j:Int,0<=j->j<s.length->rd W j=rd (dE (thr s m)) (rd s j)):W=sqz s m:=
 bQ (hl.trans (IG s m).symm) λj h0 h1=>by
  have hm:=hs _ (bN (L:=s) h0 G);unfold sqz;rw[vR h0 G,h j h0 G,nK hm.1 (by rw[jY];omega)]
def EW (s:List Int) (i j:Nat) (d:Nat):Prop:=(i+d<s.length/\j+d<s.length)/\lt s (i+d)=lt s (j+d)
instance (s:List Int) (i j d:Nat):Decidable (EW s i j d):=by unfold EW;exact inferInstance
def aBr (s:List Int):Nat->Nat->Nat->Nat
 |0,_,_=>0
 |f+1,i,j=>if EW s i j 0 then aBr s f (i+1) (j+1)+1 else 0
def com (s:List Int) (i j:Int):Nat:=aBr s s.length i.toNat j.toNat
theorem aAr {s:List Int} {i j m d:Nat}:EW s (i+m) (j+m) d↔EW s i j (m+d):=by
 unfold EW;rw[mr,mr]
theorem aBq {s:List Int}: ∀(f i j:Nat),∀d,d<aBr s f i j->EW s i j d
 |0,i,j,d,h=>by simp[aBr] at h
 | f+1,i,j,d,h=>by
  unfold aBr at h;split at h
  ·rename_i c;cases d with
   |zero=>exact c
   |succ d=>
    have:=aBq (s:=s) f (i+1) (j+1) d G;rwa[aAr,vz] at this
  ·omega
theorem aBp {s:List Int}: ∀(f i j:Nat),s.length<=i+f-> ¬EW s i j (aBr s f i j)
 |0,i,j,h=>by
  unfold aBr EW;omega
 | f+1,i,j,h=>by
  unfold aBr;by_cases c:EW s i j 0
  ·rw [df c];have:=aBp (s:=s) f (i+1) (j+1) G;rwa[aAr,vz] at this
  ·rw[bu c];exact c
theorem aJt {s:List Int} {i j:Int}: ∀d,d<com s i j->EW s i.toNat j.toNat d:=aBq _ _ _
theorem bCq {s:List Int} {i j:Int}: ¬EW s i.toNat j.toNat (com s i j):=aBp _ _ _ G
theorem bHs {s:List Int} {i j:Int} {n:Nat}:n<=com s i j↔ ∀d,d<n->EW s i.toNat j.toNat d:=by
 refine⟨λh d hd=>aJt d G,λh=>Io.1 λc=> ?_⟩;exact bCq (h _ c)
theorem bHt {s:List Int} {i j:Int} (i0:0<=i) (hi:i<=s.length) (j0:0<=j) (hj:j<=s.length):i+com s i j<=s.length/\j+com s i j<=s.length:=by
 rcases dz (com s i j) with z|z
 ·omega
 ·have:=(aJt (s:=s) (i:=i) (j:=j) (com s i j-1) G).1;omega
theorem aJs {s:List Int} {i j:Int} {n:Nat} (hi:0<=i/\i<s.length) (hj:0<=j/\j<s.length) (pm:i≠j):n<=com s i j↔EqH n (eu s i.toNat) (eu s j.toNat):=by
 rw[bHs];constructor
 ·intro h d hd;obtain⟨⟨a,b⟩,c⟩:=h d hd;unfold eu;rw[df a,df b,c]
 ·intro h d hd;have r1:=uI (s:=s) (i:=i.toNat) (j:=j.toNat) G G G h;have r2:=uI (s:=s) (i:=j.toNat) (j:=i.toNat) G G G h.symm;refine⟨⟨G,G⟩,?_⟩;have:=h d hd;unfold eu at this;rw[df G,df G] at this;omega
theorem eq_between {n:Nat} {U V W:Nat->Int} (e:EqH n U W) (h1: ¬LtO V U) (h2: ¬LtO W V):EqH n U V:=by
 rcases tri n U V with a|a|a
 ·exact absurd (yY (e.symm.ltH a)) h2
 ·exact a
 ·exact absurd (yY a) h1
structure uM (s a R:List Int):Prop where
 perm:a.Perm (iota s.length)
 sorted:a.Pairwise (bX s)
 len:R.length=s.length
 inv: ∀r:Int,0<=r->r<s.length->rd R (rd a r)=r
section
variable {s a R:List Int}
theorem uM.alen (h:uM s a R):a.length=s.length:=by rw[h.perm.length_eq,bI]
theorem uM.ain (h:uM s a R) {r:Int} (r0:0<=r) (hr:r<s.length):0<=rd a r/\rd a r<s.length:=bE.1 (h.perm.subset (bN r0 (by rw[h.alen];exact hr)))
theorem uM.at_ (h:uM s a R) {i:Int} (i0:0<=i) (hi:i<s.length):(0<=rd R i/\rd R i<s.length)/\rd a (rd R i)=i:=by
 obtain⟨p,p0,p1,e⟩:=aFg (h.perm.symm.subset (bE.2 ⟨i0,hi⟩));rw[h.alen] at p1;have:=h.inv p p0 p1;rw[e] at this;rw[this];exact⟨⟨p0,p1⟩,e⟩
theorem uM.ord (h:uM s a R) {p q:Int} (p0:0<=p) (Ys:p<q) (hq:q<s.length):bX s (rd a p) (rd a q):=eT h.sorted p0 Ys (by rw[h.alen];exact hq)
theorem uM.rank (h:uM s a R) {i j:Int} (hi:0<=i/\i<s.length) (hj:0<=j/\j<s.length):rd R i<rd R j↔bX s i j:=by
 obtain⟨a1,a2⟩:=h.at_ hi.1 hi.2;obtain⟨b1,b2⟩:=h.at_ hj.1 hj.2;constructor
 ·intro c;have:=h.ord a1.1 c b1.2;rwa[a2,b2] at this
 ·intro c;rcases jd (rd R i) (rd R j) with d|d|d
  ·exact d
  ·rw [d,b2] at a2;rw[a2] at c;exact absurd c (fZ _ _ c)
  ·have:=h.ord b1.1 d a1.2;rw[a2,b2] at this;exact absurd c (fZ _ _ this)
theorem aFb (h:uM s a R) {i:Int} (i0:0<=i) (hi:i+1<s.length) (h1:0<rd R i) (h2:0<rd R (i+1)):
  com s i (rd a (rd R i-1))-1<=com s (i+1) (rd a (rd R (i+1)-1)):=by
 rcases fe 1 (com s i (rd a (rd R i-1))) with c|c
 ·obtain ⟨ra,rb⟩:=h.at_ i0 G;obtain⟨sa,sb⟩:=h.at_ (i:=i+1) G hi;generalize hj:rd a (rd R i-1)=j at c ⊢;generalize hp:rd a (rd R (i+1)-1)=p;have jin:=h.ain (r:=rd R i-1) G G;have pin:=h.ain (r:=rd R (i+1)-1) G G;rw[hj] at jin;rw[hp] at pin;have Ub:=h.ord (p:=rd R i-1) (q:=rd R i) G G ra.2;rw[hj,rb] at Ub;have Uc:=h.ord (p:=rd R (i+1)-1) (q:=rd R (i+1)) G G sa.2;rw[hp,sb] at Uc;have vi:j≠i:=λe=>by rw[e] at Ub;exact fZ _ _ Ub Ub
  have Pr:p≠i+1:=λe=>by rw[e] at Uc;exact fZ _ _ Uc Uc
  have bj:=bHt (s:=s) (i:=i) (j:=j) G G G G;have n5:j+1<s.length:=G
  have e:=(aJs (n:=com s i j) ⟨i0,G⟩ jin (Fq vi)).1 (di _);have e1:EqH 1 (eu s j.toNat) (eu s i.toNat):=(e.mono G).symm
  have o1:LtO (eu s (j+1).toNat) (eu s (i+1).toNat):=by
   rw[show(j+1).toNat=j.toNat+1 by omega,show(i+1).toNat=i.toNat+1 by omega,LY e1];exact nR.1 Ub
  have r1:=(h.rank (i:=j+1) (j:=i+1) ⟨G,n5⟩ ⟨G,hi⟩).2 (nR.2 o1);obtain⟨ta,tb⟩:=h.at_ (i:=j+1) G n5
  have e2:EqH (com s i j-1) (eu s (i+1).toNat) (eu s (j+1).toNat):=λd hd=>by
   have:=e (d+1) G;rw[show(j+1).toNat=j.toNat+1 by omega,show(i+1).toNat=i.toNat+1 by omega,wK,wK,vz 1 d];exact this
  refine(aJs ⟨G,hi⟩ pin (Fq Pr)).2 ?_
  have ph:j+1=p\/bX s (j+1) p:=by
   rcases bi (rd R (j+1)) (rd R (i+1)-1) with d|d
   ·have:=h.ord ta.1 d G;rw[tb,hp] at this;exact .inr this
   ·refine .inl ?_;rw[<-tb,<-hp];congr 1;omega
  rcases ph with rfl|ph
  ·exact e2
  ·refine e2.trans' (eq_between e2.symm (λg=> ?_) λg=> ?_)
   ·exact fZ _ _ ph (nR.2 g)
   ·exact fZ _ _ Uc (nR.2 g)
 ·omega
def aNi (s a:List Int):List Int:=(List.range a.length).map λr:Nat=>if r=0 then 0 else(com s (rd a r) (rd a ((r:Int)-1)):Int)
theorem aUh (s a:List Int):(aNi s a).length=a.length:=by simp[aNi]
theorem aIf {r:Int} (h0:0<=r) (h:r<a.length):rd (aNi s a) r=if r=0 then 0 else(com s (rd a r) (rd a (r-1)):Int):=by
 unfold aNi;rw[iB h0 G,show((r.toNat:Nat):Int)=r by omega];by_cases c:r=0
 ·rw[df c,df G]
 ·rw[bu c,bu G]
structure aCp (s a R V:List Int) (i n:Int):Prop where
 len:V.length=s.length
 n0:0<=n
 nl:i<s.length->0<rd R i->n.toNat<=com s i (rd a (rd R i-1))
 val: ∀p:Int,0<=p->p<i->rd V (rd R p)=rd (aNi s a) (rd R p)
 zero:0<s.length->rd V 0=0
variable {V:List Int} {i n:Int}
theorem aCp.skip (k:aCp s a R V i n) (h:uM s a R) (i0:0<=i) (hi:i<s.length) (hr:rd R i=0):aCp s a R V (i+1) 0:=by
 refine⟨k.len,G,λ_ _=>uf _,λp p0 p1=> ?_,k.zero⟩;rcases bi p i with c|c
 ·exact k.val p p0 c
 ·rw [show p=i by omega,hr,aIf G (by rw[h.alen];omega),df rfl];exact k.zero G
theorem aCp.put (k:aCp s a R V i n) (h:uM s a R) (i0:0<=i) (hi:i<s.length) (hr:rd R i≠0) {m:Int} (hm:m=com s i (rd a (rd R i-1))):aCp s a R (upd V (rd R i) m) (i+1) (max (m-1) 0):=by
 obtain⟨ra,rb⟩:=h.at_ i0 hi;have hl:=k.len;refine⟨by rw[bD];exact hl,G,λh1 h2=> ?_,λp p0 p1=> ?_,λhs=> ?_⟩
 ·have:=aFb h i0 h1 G h2;omega
 ·obtain ⟨pa,pb⟩:=h.at_ p0 (show p<s.length by omega);rcases bi p i with c|c
  ·rw [fI ra.1 pa.1 λe=>by rw[<-e,rb] at pb;omega];exact k.val p p0 c
  ·rw[show p=i by omega,eQ ra.1 G,aIf ra.1 (by rw[h.alen];exact ra.2),bu hr,rb,hm]
 ·rw [fI ra.1 G hr];exact k.zero hs
theorem aCp.done (k:aCp s a R V s.length n) (h:uM s a R):V=aNi s a:=by
 refine bQ (by rw[k.len,aUh,h.alen]) λj j0 j1=> ?_;rw[k.len] at j1;have e:=k.val (rd a j) (h.ain j0 j1).1 (h.ain j0 j1).2;rwa[h.inv j j0 j1] at e
def KV (s a R:List Int):List Int:=(List.range s.length).map λi:Nat=>if rd R i=0 then 0 else(com s i (rd a (rd R i-1)):Int)
theorem aMn:(KV s a R).length=s.length:=by simp[KV]
theorem aSs (h0:0<=i) (h:i<s.length):rd (KV s a R) i=if rd R i=0 then 0 else(com s i (rd a (rd R i-1)):Int):=by
 unfold KV;rw[iB h0 G,show((i.toNat:Nat):Int)=i by omega]
theorem uM.next (h:uM s a R) {r:Int} (r0:1<=r) (hr:r<s.length):rd s (rd a (r-1))<rd s (rd a r)\/rd s (rd a (r-1))=rd s (rd a r)/\
  ((rd a (r-1)+1=s.length/\rd a r+1<s.length)\/(rd a (r-1)+1<s.length/\rd a r+1<s.length/\rd R (rd a (r-1)+1)<rd R (rd a r+1))):=by
 have o:=h.ord (p:=r-1) (q:=r) G G hr;have x:=h.ain (r:=r-1) G G;have y:=h.ain (r:=r) G hr;generalize rd a (r-1)=p at o x ⊢;generalize rd a r=q at o y ⊢;rw[nR] at o
 have e0: ∀z:Int,0<=z->z<s.length->eu s z.toNat 0=rd s z-lo s+1:=λz z0 z1=>by
  unfold eu;rw[df G];rfl
 obtain⟨k,h1,h2⟩:=o;cases k with
 |zero=>rw[e0 p x.1 x.2,e0 q y.1 y.2] at h2;exact .inl G
 | succ k=>
  have e:=h1 0 G;rw[e0 p x.1 x.2,e0 q y.1 y.2] at e;refine .inr ⟨G,?_⟩
  have hq:q+1<s.length:=by
   rcases fe (q.toNat+(k+1)) s.length with c|c
   ·omega
   ·rw [jE c] at h2;have:=aVm s p.toNat (k+1);omega
  rcases bi (p+1) s.length with c|c
  ·refine .inr ⟨c,hq,(h.rank ⟨G,c⟩ ⟨G,hq⟩).2 (nR.2 ?_)⟩;rw[show(p+1).toNat=p.toNat+1 by omega,show(q+1).toNat=q.toNat+1 by omega,LY (λd hd=>by rw[show d=0 by omega];exact h1 0 G)];exact⟨k+1,h1,h2⟩
  ·exact .inl ⟨G,hq⟩
end
structure WB (a V:List Int) (B:List Bool) (q:Int):Prop where
 len:V.length=a.length
 blen:B.length=a.length
 val: ∀p:Int,0<=p->p<q->rd V (rd a p)=p
 seen: ∀x:Int,0<=x->x<a.length->(rdb B x=true↔ ∃p:Int,0<=p/\p<q/\rd a p=x)
theorem WB.fresh {a V:List Int} {B:List Bool} {q:Int} (h:WB a V B q) (hp:a.Perm (iota a.length)) (q0:0<=q) (hq:q<a.length):(0<=rd a q/\rd a q<a.length)/\ ¬rdb B (rd a q)=true:=by
 have cg:=bE.1 (hp.subset (bN q0 hq));refine⟨cg,λhs=> ?_⟩;obtain⟨p,p0,p1,e⟩:=(h.seen _ cg.1 cg.2).1 hs;have:=jX (hp.symm.nodup (eO _)) p0 G q0 hq e;omega
theorem WB.step {a V:List Int} {B:List Bool} {q:Int} (h:WB a V B q) (hp:a.Perm (iota a.length)) (q0:0<=q) (hq:q<a.length):WB a (upd V (rd a q) q) (qB B (rd a q) true) (q+1):=by
 obtain⟨⟨x0,x1⟩,_⟩:=h.fresh hp q0 hq;have hl:=h.len;have hb:=h.blen;have hnd:=hp.symm.nodup (eO a.length);refine⟨by rw[bD];exact hl,by rw[lC];exact hb,λp p0 p1=> ?_,λx h0 h1=> ?_⟩
 ·rcases bi p q with c|c
  ·have cg:=bE.1 (hp.subset (bN (L:=a) p0 G));rw[fI x0 cg.1 λe=>by have:=jX hnd q0 hq p0 G e;omega];exact h.val p p0 c
  ·rw[show p=q by omega,eQ x0 G]
 ·rw [xI x0 G h0];by_cases c:x=rd a q
  ·rw [df c];exact⟨λ_=>⟨q,q0,G,c.symm⟩,λ_=>rfl⟩
  ·rw [bu c,h.seen x h0 h1];exact⟨λ⟨p,p0,p1,e⟩=>⟨p,p0,G,e⟩,λ⟨p,p0,p1,e⟩=>⟨p,p0,(bi p q).elim id λd=>absurd (by rw[<-e,show p=q by omega]) c,e⟩⟩
theorem WB.done {s a V:List Int} {B:List Bool} (h:WB a V B a.length) (hp:a.Perm (iota s.length)) (hs:a.Pairwise (bX s)):uM s a V:=by
 have hl:a.length=s.length:=by rw[hp.length_eq,bI]
 exact⟨hp,hs,by rw[h.len,hl],λr r0 hr=>h.val r r0 G⟩
def bIh (a V:List Int):Prop:=V.length=a.length/\ ∀r:Int,0<=r->r<a.length->rd V (rd a r)=r
theorem WB.all {a V:List Int} {B:List Bool} (h:WB a V B a.length):bIh a V:=⟨h.len,h.val⟩
theorem bIh.ord {s a V:List Int} (h:bIh a V) (hp:a.Perm (iota s.length)) (hs:a.Pairwise (bX s)):uM s a V:=by
 have hl:a.length=s.length:=by rw[hp.length_eq,bI]
 exact⟨hp,hs,by rw[h.1,hl],λr r0 hr=>h.2 r r0 G⟩
section
variable {s a R:List Int}
structure AhI (a V:List Int) (q l:Int):Prop where
 len:V.length=a.length
 last:l=if q=0 then -1 else rd a (q-1)
 val: ∀p:Int,0<=p->p<q->rd V (rd a p)=if p=0 then -1 else rd a (p-1)
def AhF (a V:List Int):Prop:=V.length=a.length/\ ∀p:Int,0<=p->p<a.length->rd V (rd a p)=if p=0 then -1 else rd a (p-1)
variable {V:List Int} {q l:Int}
theorem AhI.step (h:AhI a V q l) (hp:a.Perm (iota a.length)) (q0:0<=q) (hq:q<a.length):AhI a (upd V (rd a q) l) (q+1) (rd a q):=by
 have cg:=bE.1 (hp.subset (bN q0 hq));have hnd:=hp.symm.nodup (eO a.length);have hl:=h.len;refine⟨by rw[bD];exact hl,by rw[bu G,show q+1-1=q by omega],λp p0 p1=> ?_⟩;rcases bi p q with c|c
 ·have ip:=bE.1 (hp.subset (bN (L:=a) p0 G));rw[fI cg.1 ip.1 λe=>by have:=jX hnd q0 hq p0 G e;omega];exact h.val p p0 c
 ·rw [show p=q by omega,eQ cg.1 G];exact h.last
theorem AhI.done (h:AhI a V a.length l):AhF a V:=⟨h.len,h.val⟩
theorem AhF.at_ (h:AhF a V) (o:uM s a R) {i:Int} (h0:0<=i) (hi:i<s.length):rd V i=if rd R i=0 then -1 else rd a (rd R i-1):=by
 obtain⟨x,y⟩:=o.at_ h0 hi;have:=h.2 (rd R i) x.1 (by rw[o.alen];exact x.2);rwa[y] at this
structure PlI (s a R V:List Int) (i n:Int):Prop where
 len:V.length=s.length
 n0:0<=n
 nl:i<s.length->0<rd R i->(n-1).toNat<=com s i (rd a (rd R i-1))
 val: ∀p:Int,0<=p->p<i->rd V p=rd (KV s a R) p
variable {i n:Int}
theorem PlI.put (k:PlI s a R V i n) (i0:0<=i) (hi:i<s.length) {m:Int} (hm:m=rd (KV s a R) i) (h0:0<=m) (hn:i+1<s.length->0<rd R (i+1)->(m-1).toNat<=com s (i+1) (rd a (rd R (i+1)-1))):PlI s a R (upd V i m) (i+1) m:=by
 have hl:=k.len;refine⟨by rw[bD];exact hl,h0,hn,λp p0 p1=> ?_⟩;rcases bi p i with c|c
 ·rw [fI i0 p0 G];exact k.val p p0 c
 ·rw [show p=i by omega,eQ i0 G];exact hm
theorem PlI.zero (k:PlI s a R V i n) (i0:0<=i) (hi:i<s.length) (hr:rd R i=0):PlI s a R (upd V i 0) (i+1) 0:=
 k.put i0 hi (by rw[aSs i0 hi,df hr]) G λ_ _=>uf _
theorem PlI.done (k:PlI s a R V s.length n):V=KV s a R:=
 bQ (by rw[k.len,aMn]) λj j0 j1=>k.val j j0 (by have:=k.len;omega)
end
variable {l b V:List Int} {k c i:Int}
def mtf (l:List Int) (k:Int):List Int:=rd l k::(l.take k.toNat++l.drop (k.toNat+1))
def idx (l:List Int) (c:Int):Int:=(l.findIdx (λx=>x==c):Nat)
def aU (l:List Int):List Int->List Int
 |[]=>[]
 |c::b=>idx l c::aU (mtf l (idx l c)) b
def uQ (l:List Int):List Int->List Int
 |[]=>l
 |c::b=>uQ (mtf l (idx l c)) b
def kS (l:List Int):List Int->List Int
 |[]=>[]
 |k::b=>rd l k::kS (mtf l k) b
def GM (l:List Int):List Int->List Int
 |[]=>l
 |k::b=>GM (mtf l k) b
theorem LM (c:Int): ∀(b l:List Int),aU l (b++[c])=aU l b++[idx (uQ l b) c]
 |[],l=>rfl
 |x::b,l=>by simp only[jh,aU,uQ,LM c b]
theorem QK (c:Int): ∀(b l:List Int),uQ l (b++[c])=mtf (uQ l b) (idx (uQ l b) c)
 |[],l=>rfl
 |x::b,l=>by simp only[jh,uQ,QK c b]
theorem QH (k:Int): ∀(b l:List Int),GM l (b++[k])=mtf (GM l b) k
 |[],l=>rfl
 |x::b,l=>by simp only[jh,GM,QH k b]
theorem fO: ∀(b l:List Int),(aU l b).length=b.length
 |[],_=>rfl
 |x::b,l=>by simp only[aU,dh,fO b]
theorem xA: ∀(b l:List Int),(kS l b).length=b.length
 |[],_=>rfl
 |x::b,l=>by simp only[kS,dh,xA b]
theorem BP (h0:0<=k) (h:k<l.length):(mtf l k).Perm l:=by
 have e:=gK (s:=l) h0 h;rw[show(k+1).toNat=k.toNat+1 by omega] at e;unfold mtf
 conv=>rhs;rw[<-gu k.toNat l,e]
 exact List.perm_middle.symm
theorem rP (h:c∈l):0<=idx l c/\idx l c<l.length:=by
 unfold idx;have:=List.findIdx_lt_length_of_exists (xs:=l) (p:=λx=>x==c) ⟨c,h,cD⟩;omega
theorem UE (h:c∈l):rd l (idx l c)=c:=by
 have hi:=rP h;have bc:l.findIdx (λx=>x==c)<l.length:=by unfold idx at hi;omega
 have:=El (xs:=l) (p:=λx=>x==c) (w:=bc);unfold idx;rw[iL bc];simpa using this
theorem QL: ∀(b l:List Int),(∀c∈b,c∈l)->(uQ l b).Perm l
 |[],l,_=> .refl _
 |c::b,l,h=>by
  have hc:=rP (h c cD);have hp:=BP hc.1 hc.2;exact(QL b _ λx hx=>hp.symm.subset (h x (ek _ hx))).trans hp
theorem QI: ∀(b l:List Int),(∀k∈b,0<=k/\k<l.length)->(GM l b).Perm l
 |[],l,_=> .refl _
 |k::b,l,h=>by
  have hk:=h k cD;have hp:=BP hk.1 hk.2;exact(QI b _ λx hx=>by rw[hp.length_eq];exact h x (ek _ hx)).trans hp
theorem ZN: ∀(b l:List Int),(∀c∈b,c∈l)-> ∀k∈aU l b,0<=k/\k<l.length
 |[],l,_=>λk hk=>by cases hk
 | c::b,l,h=>by
  have hc:=rP (h c cD);have hp:=BP hc.1 hc.2;intro k hk;rcases jm.1 hk with rfl|hk
  ·exact hc
  ·have:=ZN b _ (λx hx=>hp.symm.subset (h x (ek _ hx))) k hk;rwa[hp.length_eq] at this
theorem PM: ∀(b l:List Int),(∀c∈b,c∈l)->kS l (aU l b)=b
 |[],_,_=>rfl
 |c::b,l,h=>by
  have hc:=rP (h c cD);have hp:=BP hc.1 hc.2;simp only[aU,kS];rw[UE (h c cD),PM b _ λx hx=>hp.symm.subset (h x (ek _ hx))]
def aO:List Int:=iota 256
theorem yT:aO.length=256:=bI _
theorem yS {b:List Int} (h:aR b): ∀c∈b,c∈aO:=λc hc=>by
 have:=h c hc;exact bE.2 G
theorem lS (h:aR b):aR (aU aO b):=λk hk=>by
 have:=ZN b _ (yS h) k hk;rw[yT] at this;omega
theorem qC (h:aR b):kS aO (aU aO b)=b:=PM b _ (yS h)
theorem QU: ∀(x y l:List Int),aU l (x++y)=aU l x++aU (uQ l x) y
 |[],_,_=>rfl
 |c::x,y,l=>by simp only[jh,aU,uQ,QU x y]
theorem PN: ∀(x y l:List Int),kS l (x++y)=kS l x++kS (GM l x) y
 |[],_,_=>rfl
 |c::x,y,l=>by simp only[jh,kS,GM,PN x y]
theorem aSt (h0:0<=i) (h:i<b.length):rd (aU l b) i=idx (uQ l (b.take i.toNat)) (rd b i):=by
 have e:b=b.take i.toNat++(rd b i::b.drop (i+1).toNat):=by rw[<-gK h0 h,gu]
 have hl:((aU l (b.take i.toNat)).length:Int)=i:=by rw[fO,ax];omega
 conv=>lhs;rw[e,QU]
 rw[gW G,hl,Ij];rfl
theorem aSr (h0:0<=i) (h:i<b.length):rd (kS l b) i=rd (GM l (b.take i.toNat)) (rd b i):=by
 have e:b=b.take i.toNat++(rd b i::b.drop (i+1).toNat):=by rw[<-gK h0 h,gu]
 have hl:((kS l (b.take i.toNat)).length:Int)=i:=by rw[xA,ax];omega
 conv=>lhs;rw[e,PN]
 rw[gW G,hl,Ij];rfl
theorem QJ (h0:0<=i) (h:i<b.length):uQ l (b.take (i+1).toNat)=mtf (uQ l (b.take i.toNat)) (idx (uQ l (b.take i.toNat)) (rd b i)):=by
 rw[dH h0 h,QK]
theorem aLr (h0:0<=i) (h:i<b.length):GM l (b.take (i+1).toNat)=mtf (GM l (b.take i.toNat)) (rd b i):=by
 rw[dH h0 h,QH]
theorem aEq (h0:0<=i) (h:i<b.length):aU l (b.take (i+1).toNat)=aU l (b.take i.toNat)++[idx (uQ l (b.take i.toNat)) (rd b i)]:=by
 rw[dH h0 h,LM]
theorem bGw (h0:0<=k) (h:k<l.length):upd (l.take 1++(l.take k.toNat).take (min k.toNat (l.length-1))++l.drop (1+min k.toNat (l.length-1))) 0 (rd l k)=mtf l k:=by
 have e:min k.toNat (l.length-1)=k.toNat:=G
 rw[e,List.take_take,Nat.min_self,vz 1];unfold mtf upd;cases l with
 |nil=>simp at h;omega
 |cons x l=>simp
theorem XU (hb:aR b) (k:Nat):(uQ aO (b.take k)).Perm aO:=QL _ _ λc hc=>yS hb c (lv hc)
theorem aRs (hb:aR b) (k:Nat):(GM aO (b.take k)).Perm aO:=QI _ _ λc hc=>by
 have:=hb c (lv hc);rw[yT];omega
theorem ED (h:V.Perm aO):V.length=256/\aR V/\ ∀c:Int,0<=c->c<256->c∈V/\0<=idx V c/\idx V c<256:=by
 have hl:V.length=256:=by rw[h.length_eq,yT]
 refine⟨hl,λx hx=>by have:=bE.1 (h.subset hx);omega,λc c0 c1=> ?_⟩;have hm:c∈V:=h.symm.subset (bE.2 ⟨c0,c1⟩);have:=rP hm;exact⟨hm,this.1,G⟩
theorem aAd (hm:c∈V) (h:k<=idx V c) (dv:rd V k≠c):k+1<=idx V c:=by
 rcases bi k (idx V c) with a|a
 ·omega
 ·exact absurd (by rw[show k=idx V c by omega];exact UE hm) dv
theorem aUy (k0:0<=k) (h:k<=idx V c) (hm:c∈V) (he:rd V k=c):k=idx V c:=by
 have hx:=rP hm;rcases bi k (idx V c) with a|a
 ·exfalso;unfold idx at a;have:=Dj (xs:=V) (p:=λx=>x==c) (i:=k.toNat) G;rw[fG k0 G] at he;simp[he] at this
 ·omega
def FO:Nat->Nat->List Int
 |0,_=>[]
 |f+1,n=>if n=0 then [] else(((n-1)%2:Nat):Int)::FO f ((n-1)/2)
def eB (n:Nat):List Int:=FO n n
theorem WZ: ∀(f g n:Nat),n<=f->n<=g->FO f n=FO g n
 |0,0,n,_,_=>rfl
 |0,g+1,n,h,_=>by
  have:n=0:=G
  simp[FO,this]
 |f+1,0,n,_,h=>by
  have:n=0:=G
  simp[FO,this]
 |f+1,g+1,n,h1,h2=>by
  simp only[FO];by_cases z:n=0
  ·rw[df z,df z]
  ·rw[bu z,bu z,WZ f g _ G G]
theorem PR:eB 0=[]:=rfl
theorem zV {n:Nat} (h:0<n):eB n=(((n-1)%2:Nat):Int)::eB ((n-1)/2):=by
 obtain⟨m,rfl⟩: ∃m,n=m+1:=⟨n-1,G⟩;unfold eB;rw[FO,bu G];congr 1;exact WZ _ _ _ G (di _)
theorem TF: ∀(m n:Nat),n<=m-> ∀x∈eB n,0<=x/\x<=1
 |0,n,h=>by
  have:n=0:=G
  subst this;intro x hx;cases hx
 | m+1,n,h=>by
  rcases dz n with z|z
  ·subst z;intro x hx;cases hx
  ·rw [zV z];intro x hx;rcases jm.1 hx with rfl|hx
   ·omega
   ·exact TF m _ G x hx
theorem zW: ∀(m n:Nat),n<=m->(eB n).length<=n
 |0,n,h=>by
  have:n=0:=G
  subst this;exact di _
 | m+1,n,h=>by
  rcases dz n with z|z
  ·subst z;exact di _
  ·rw [zV z,dh];have:=zW m ((n-1)/2) G;omega
def bA:Nat->List Int->List Int
 |n,[]=>eB n
 |n,c::b=>if c=0 then bA (n+1) b else eB n++((c+1)::bA 0 b)
theorem oL: ∀(b:List Int) (n:Nat),(bA n b).length<=n+b.length
 |[],n=>by
  have:=zW n n (di _);simp only[bA,jl];omega
 | c::b,n=>by
  simp only[bA];split
  ·have:=oL b (n+1);simp only[dh];omega
  ·have:=oL b 0;have:=zW n n (di _);rw[ah,dh,dh];omega
theorem IB: ∀(b:List Int) (n:Nat),aR b-> ∀x∈bA n b,0<=x/\x<=256
 |[],n,_=>λx hx=>by have:=TF n n (di _) x hx;omega
 | c::b,n,h=>by
  have hc:=h c cD;have hb:aR b:=λx hx=>h x (ek _ hx);intro x hx;simp only[bA] at hx;split at hx
  ·exact IB b _ hb x hx
  ·rcases gp.1 hx with hx|hx
   ·have:=TF n n (di _) x hx;omega
   ·rcases jm.1 hx with rfl|hx
    ·omega
    ·exact IB b _ hb x hx
def bkL (dt:Int):List Int->List Int->Int->Option (List Int)
 |[],out,_=>some out
 |x::l,out,p=>if x<0\/257<=x then none else
  if 2<=x then(if dt<out.length+1 then none else bkL dt l (out++[x-1]) 1)
  else if dt<p\/dt-out.length<(x+1)*p then none else bkL dt l (out++List.replicate ((x+1)*p).toNat 0) (p*2)
theorem VP (dt:Int) (t:List Int): ∀(m n:Nat),n<=m-> ∀(out:List Int) (p:Nat),0<p->(out.length:Int)+n*p<=dt->
  ∃p':Nat,0<p'/\bkL dt (eB n++t) out p=bkL dt t (out++List.replicate (n*p) 0) p'
 |0,n,h=>by
  intro out p hp _;have:n=0:=G
  subst this;exact⟨p,hp,by simp[PR]⟩
 | m+1,n,h=>by
  intro out p hp hm;rcases dz n with z|z
  ·subst z;exact⟨p,hp,by simp[PR]⟩
  ·rw [zV z,jh];have hd:n=((n-1)%2+1)+2*((n-1)/2):=G
   generalize ha:(n-1)%2=a at hd;generalize hb:(n-1)/2=b at hd;have ha1:a<=1:=G
   have jz:n*p=(a+1)*p+b*(p*2):=by rw[hd,xz,Am 2 b,Nat.mul_assoc,Am 2 p]
   have hnp2:(n:Int)*p=((n*p:Nat):Int):=cD
   have h1:(((a:Nat):Int)+1)*p=(((a+1)*p:Nat):Int):=cD
   have xa:p<=(a+1)*p:=Dk _ G
   obtain⟨p',ci,e⟩:=VP dt t m b G (out++List.replicate ((a+1)*p) 0) (p*2) G (by
    rw[ah,cz];have:(b:Int)*((p*2:Nat):Int)=((b*(p*2):Nat):Int):=cD
    rw[this]
    omega)
   refine⟨p',ci,?_⟩;rw[bkL,bu G,bu G,bu (by rw[h1];omega),h1,cu];have e2:((p:Nat):Int)*2=((p*2:Nat):Int):=cD
   rw[e2,e,gy,Dt,<-jz]
theorem VQ (dt:Int): ∀(b:List Int) (n:Nat) (out:List Int),aR b->(out.length:Int)+n+b.length<=dt->bkL dt (bA n b) out 1=some (out++List.replicate n 0++b)
 |[],n,out,_,h=>by
  obtain⟨p',ci,e⟩:=VP dt [] n n (di _) out 1 G (by simp only[jl] at h;omega);rw[jk,qw] at e;simp only[bA];have e1:((1:Nat):Int)=1:=rfl;rw[e1] at e;rw[e];simp[bkL]
 | c::b,n,out,hb,h=>by
  have hc:=hb c cD;have Mf:aR b:=λx hx=>hb x (ek _ hx);simp only[dh] at h;simp only[bA];split
  ·rename_i z;rw[VQ dt b (n+1) out Mf G,z,List.replicate_succ'];simp
  ·rename_i z;obtain⟨p',ci,e⟩:=VP dt ((c+1)::bA 0 b) n n (di _) out 1 G G;have e1:((1:Nat):Int)=1:=rfl;rw[qw,e1] at e;rw[e,bkL,bu G,df G,bu (by rw[ah,cz];omega),VQ dt b 0 _ Mf (by rw[ah,ah,cz,gq];omega)];rw[show c+1-1=c by omega];simp
theorem bHz {dt:Int} (hb:aR b) (h:b.length<=dt):bkL dt (bA 0 b) [] 1=some b:=by
 have:=VQ dt b 0 [] hb (by simpa using h);simpa using this
variable {l V b C U:List Int} {i v x x0 s t:Int}
def beL:Nat->Int->List Int
 |0,_=>[]
 |k+1,N=>beL k (N/256)++[N%256]
theorem jR: ∀(k:Nat) (N:Int),(beL k N).length=k
 |0,_=>rfl
 |k+1,N=>by rw[beL,ah,jR k,gq]
theorem xX: ∀(k:Nat) (N:Int),aR (beL k N)
 |0,_=>λx h=>by cases h
 |k+1,N=>λx h=>by
  rw[beL] at h;rcases gp.1 h with h|h
  ·exact xX k _ x h
  ·rw[ib.1 h];omega
theorem aXz (k:Nat) (M d:Int) (h:0<=d/\d<256):beL (k+1) (M*256+d)=beL k M++[d]:=by
 rw[beL,show(M*256+d)/256=M by omega,show(M*256+d)%256=d by omega]
theorem aPp (k:Nat) (N:Int):beL (k+1) (N*256)=beL k N++[0]:=by
 have:=aXz k N 0 G;rwa[yh] at this
def aYi:List Int->Int->List Int
 |[],_=>[]
 |d::l,x=>(x+d)%256::aYi l ((x+d)/256)
def DF (l:List Int) (x:Int):List Int:=(aYi l.reverse x).reverse
theorem SK (l:List Int) (d x:Int):DF (l++[d]) x=DF l ((x+d)/256)++[(x+d)%256]:=by
 unfold DF;rw[List.reverse_append,List.reverse_singleton,qb,aYi,List.reverse_cons]
theorem SN: ∀l:List Int,aR l->aYi l 0=l
 |[],_=>rfl
 |d::l,h=>by
  have hd:=h d cD;rw[aYi,Int.zero_add,pu hd.1 hd.2,Int.ediv_eq_zero_of_lt hd.1 hd.2,SN l λx hx=>h x (ek _ hx)]
theorem aPv (h:aR l):DF l 0=l:=by
 unfold DF;rw[SN _ λx hx=>h x (Bt.1 hx),List.reverse_reverse]
theorem JA: ∀(k:Nat) (N x:Int),DF (beL k N) x=beL k (N+x)
 |0,_,_=>rfl
 |k+1,N,x=>by
  rw[beL,SK,JA k,beL,show N/256+(x+N%256)/256=(N+x)/256 by omega,show(x+N%256)%256=(N+x)%256 by omega]
theorem aKv (i0:0<=i) (hi:i<V.length):upd V i v=V.take i.toNat++v::V.drop (i+1).toNat:=by
 unfold upd;rw[Cz,df G,show(i+1).toNat=i.toNat+1 by omega]
def aCr (b:List Int) (x0:Int) (V:List Int) (i x:Int):Prop:=V.length=b.length/\aR V/\DF (V.take (i+1).toNat) x++V.drop (i+1).toNat=DF b x0
theorem SL (hb:aR b) (hi:i=b.length-1):aCr b x b i x:=by
 refine⟨rfl,hb,?_⟩;rw[bn G,xm G,jk]
theorem aCr.step {d y:Int} (h:aCr b x0 V i x) (i0:0<=i) (hi:i<b.length) (hd:d=(x+rd V i)%256) (hy:y=(x+rd V i)/256):aCr b x0 (upd V i d) (i-1) y:=by
 obtain⟨hl,hV,ha⟩:=h;have hs:=aKv (V:=V) (v:=d) i0 G
 have h1:(upd V i d).take i.toNat=V.take i.toNat:=by
  unfold upd;rw[List.take_set_of_le (di _)]
 have h2:(upd V i d).drop i.toNat=d::V.drop (i+1).toNat:=by
  rw[hs,List.drop_append_of_le_length (by rw[ax];omega),xm (by rw[ax];omega),je]
 refine⟨by rw[bD];exact hl,λc hc=> ?_,?_⟩
 ·rw [hs] at hc;rcases gp.1 hc with hc|hc
  ·exact hV c (lv hc)
  ·rcases jm.1 hc with rfl|hc
   ·omega
   ·exact hV c (pg hc)
 ·rw [Int.sub_add_cancel,h1,h2,<-ha,dH i0 G,SK,hd,hy,gy];rfl
theorem aCr.stop (h:aCr b x0 V i x) (hx:x=0\/i<0):V=DF b x0:=by
 obtain⟨hl,hV,ha⟩:=h;rw[<-ha];rcases hx with rfl|hx
 ·rw[aPv (λc hc=>hV c (lv hc)),gu]
 ·rw [show(i+1).toNat=0 by omega];rfl
theorem bDb: ∀(k:Nat) (N:Int),beL (k+4) N=beL k (N/4294967296)++[N%4294967296/16777216,N%16777216/65536,N%65536/256,N%256]:=λk N=>by
 rw[beL,beL,beL,beL,gy,gy,gy];rw[show N/256/256/256/256=N/4294967296 by omega,show N/256/256/256%256=N%4294967296/16777216 by omega,show N/256/256%256=N%16777216/65536 by omega,show N/256%256=N%65536/256 by omega];rfl
theorem UB {k:Int} (h0:0<=i) (h:i<k):rd (l.take k.toNat) i=rd l i:=by
 unfold rd;rw[ai,ai,ou G]
def aZ (l:List Int):Int:=l.sum
theorem rX (x:Int) (l:List Int):aZ (x::l)=x+aZ l:=yj
theorem FP (x y:List Int):aZ (x++y)=aZ x+aZ y:=Cm
theorem aLa (l:List Int) (x:Int):aZ (l++[x])=aZ l+x:=by rw[FP];simp[aZ]
theorem nH (h0:0<=i) (h:i<l.length):aZ (l.take (i+1).toNat)=aZ (l.take i.toNat)+rd l i:=by rw[dH h0 h,aLa]
theorem aZd {l:List Int} (h: ∀c∈l,1<=c):(l.length:Int)<=aZ l:=by
 induction l with
 |nil=>simp[aZ]
 |cons x l ih=>
  have:=ih λc hc=>h c (ek _ hc);have:=h x cD;rw[rX,dh];omega
theorem qY {l:List Int} (h: ∀c∈l,1<=c):0<=aZ l:=by have:=aZd h;omega
theorem yP (h0:0<=i) (h:i<l.length):aZ l=aZ (l.take i.toNat)+rd l i+aZ (l.drop (i+1).toNat):=by
 conv=>lhs;rw[<-gu i.toNat l,gK h0 h]
 rw[FP,rX];omega
theorem aRa {l:List Int} (h: ∀c∈l,1<=c) (k:Nat): ∀c∈l.take k,1<=c:=λc hc=>h c (lv hc)
theorem aWr {l:List Int} (h: ∀c∈l,1<=c) (k:Nat): ∀c∈l.drop k,1<=c:=λc hc=>h c (pg hc)
theorem rW {l:List Int} (hp: ∀c∈l,1<=c) (h0:0<=i) (h:i<l.length):0<=aZ (l.take i.toNat)/\1<=rd l i/\aZ (l.take i.toNat)+rd l i<=aZ l:=by
 have h1:=yP h0 h;have h2:=qY (aWr hp (i+1).toNat);have h3:=qY (aRa hp i.toNat);have h4:=hp _ (bN h0 h);omega
theorem XF (h0:0<=i) (h:i<l.length):aZ (upd l i v)=aZ l-rd l i+v:=by
 have e1:=yP (l:=upd l i v) h0 (by rw[bD];exact h);have e2:=yP h0 h;rw[eQ h0 h] at e1
 have e3:(upd l i v).take i.toNat=l.take i.toNat:=by
  unfold upd;rw[List.take_set_of_le (di _)]
 have e4:(upd l i v).drop (i+1).toNat=l.drop (i+1).toNat:=by
  unfold upd;rw[List.drop_set_of_lt G]
 rw[e3,e4] at e1;omega
theorem QA {l:List Int} (h: ∀c∈l,1<=c):2*aZ (l.map λn=>(n+1)/2)<=aZ l+l.length:=by
 induction l with
 |nil=>simp[aZ]
 |cons x l ih=>
  have:=ih λc hc=>h c (ek _ hc);rw[lm,rX,rX,dh];omega
def kY (C:List Int):Prop:=C.length=258/\(∀c∈C,1<=c)/\aZ C<=65504
def uE:List Int:=List.replicate 258 1
theorem JU (n:Nat) (x:Int):aZ (List.replicate n x)=n*x:=by
 induction n with
 |zero=>simp[aZ]
 |succ n ih=>rw[List.replicate_succ,rX,ih];rw[Int.natCast_succ,Jl];omega
theorem UO:kY uE:=⟨cz,λc hc=>by rw[List.eq_of_mem_replicate hc];omega,by unfold uE;rw[JU];omega⟩
def pG (C:List Int):List Int:=C.map λn=>(n+1)/2
def jS (C:List Int) (s:Int):List Int:=if 65504<aZ (upd C s (rd C s+32)) then pG (upd C s (rd C s+32)) else upd C s (rd C s+32)
theorem aHn {C:List Int} {s v:Int} (h: ∀c∈C,1<=c) (hv:1<=v): ∀c∈upd C s v,1<=c:=λc hc=>by
 unfold upd at hc;rcases List.mem_or_eq_of_mem_set hc with h1|h1
 ·exact h c h1
 ·omega
theorem aZn (h:kY C) (h0:0<=s) (hs:s<258):kY (jS C s):=by
 obtain⟨hl,hp,ht⟩:=h;have h1:=hp _ (bN (L:=C) (k:=s) h0 G);have hu:=XF (l:=C) (i:=s) (v:=rd C s+32) h0 G;have hq:=aHn (C:=C) (s:=s) (v:=rd C s+32) hp G;unfold jS;split
 ·refine ⟨by unfold pG;rw[bz,bD];exact hl,λc hc=> ?_,?_⟩
  ·obtain ⟨x,hx,rfl⟩:=iy.1 hc;have:=hq x hx;omega
  ·have:=QA hq;rw[bD,hl] at this;unfold pG;omega
 ·exact⟨by rw[bD];exact hl,hq,G⟩
theorem aSu (h0:0<=i) (h:i<C.length):rd (pG C) i=(rd C i+1)/2:=by
 unfold pG;rw[fG h0 (by rw[bz];exact h),fG h0 h,Bq]
theorem EF {n:Nat} (h0:0<=i) (h:i<n):rd (List.replicate n x) i=x:=by
 rw[fG h0 (by rw[cz];exact h),List.getElem_replicate]
theorem bGx (hl:V.length=258) (h: ∀j:Int,0<=j->j<258->rd V j=1):V=uE:=
 bQ (by rw[hl];exact cz.symm) λj j0 j1=>by
  unfold uE;rw[h j j0 G,EF j0 G]
def NY (C:List Int):Prop:=C.length=258/\(∀c∈C,1<=c)/\aZ C<=65536
theorem kY.le (h:kY C):NY C:=⟨h.1,h.2.1,by have:=h.2.2;omega⟩
theorem NY.part (h:NY C) (h0:0<=i) (hi:i<258):(0<=aZ (C.take i.toNat)/\aZ (C.take i.toNat)<=65536)/\(1<=rd C i/\rd C i<=65536)/\aZ (C.take i.toNat)+rd C i<=65536:=by
 have:=rW (i:=i) h.2.1 h0 (by rw[h.1];omega);have:=h.2.2;omega
theorem kY.up (h:kY C) (h0:0<=s) (hs:s<258):NY (upd C s (rd C s+32))/\aZ (upd C s (rd C s+32))=aZ C+32:=by
 have hp:=h.le.part h0 hs;have hu:=XF (l:=C) (i:=s) (v:=rd C s+32) h0 (by rw[h.1];omega);have:=h.2.2;exact⟨⟨by rw[bD];exact h.1,aHn h.2.1 G,G⟩,G⟩
theorem NY.half (h:NY C):kY (pG C):=by
 have:=QA h.2.1;rw[h.1] at this;have hl:=h.2.2;refine⟨by unfold pG;rw[bz];exact h.1,λc hc=> ?_,by unfold pG;omega⟩;obtain⟨x,hx,rfl⟩:=iy.1 hc;have:=h.2.1 x hx;omega
structure GK (U V:List Int) (i:Int) (t:Int):Prop where
 len:V.length=258
 done: ∀j:Int,0<=j->j<i->rd V j=rd (pG U) j
 left: ∀j:Int,i<=j->j<258->rd V j=rd U j
 sum:t=aZ ((pG U).take i.toNat)
theorem LZ (h:U.length=258):GK U U 0 0:=⟨h,λj h1 h2=>G,λj _ _=>rfl,rfl⟩
theorem GK.step (h:GK U V i t) (hU:U.length=258) (h0:0<=i) (hi:i<258):GK U (upd V i ((rd V i+1)/2)) (i+1) (t+rd (upd V i ((rd V i+1)/2)) i):=by
 have hl:=h.len;have e:(rd V i+1)/2=rd (pG U) i:=by rw[h.left i G hi,aSu h0 G]
 refine⟨by rw[bD];exact hl,λj j0 j1=> ?_,λj j0 j1=> ?_,?_⟩
 ·rw [fV h0 j0 G];by_cases c:j=i
  ·rw[df c,e,c]
  ·rw[bu c];exact h.done j j0 G
 ·rw[fV h0 G G,bu G];exact h.left j G j1
 ·rw[nH h0 (by unfold pG;rw[bz];omega),<-h.sum,eQ h0 G,e]
theorem GK.done_all (h:GK U V 258 t) (hU:U.length=258):V=pG U/\t=aZ (pG U):=by
 have hh:(pG U).length=258:=by unfold pG;rw[bz];exact hU
 refine⟨bQ (by rw[h.len,hh]) λj j0 j1=>h.done j j0 (by have:=h.len;omega),?_⟩;rw[h.sum,bn (by rw[hh];decide)]
def shN (R:Int):Nat:=if 16777216<=R then 0 else if 65536<=R then 1 else if 256<=R then 2 else 3
theorem EA (R:Int):shN R<=3:=by unfold shN;split<;>(try split)<;>(try split)<;>omega
theorem AJ {R:Int} {j:Nat} (h1:1<=R) (hj:j<=shN R) (h:R*256^j<16777216):j+1<=shN R:=by
 have:=EA R;rcases(by omega:j=0\/j=1\/j=2\/j=3) with rfl|rfl|rfl|rfl<;>unfold shN at* <;>(split<;>(try split)<;>(try split)<;>omega)
variable {R low size total o x:Int} {j:Nat} {b:List Int}
theorem IJ (h1:1<=R) (hj:j<=shN R) (h:16777216<=R*256^j):j=shN R:=by
 have:=EA R;rcases(by omega:j=0\/j=1\/j=2\/j=3) with rfl|rfl|rfl|rfl<;>unfold shN at* <;>(split at hj<;>(try split at hj)<;>(try split at hj)<;>split<;>(try split)<;>(try split)<;>omega)
theorem BD (h:1<=R):1<=R*256^j:=by
 have h1:(0:Int)<256^j:=Ej G;have:=Int.mul_pos (show 0<R by omega) h1;omega
theorem aLj (h:256<=R):shN R<=2:=by unfold shN;split<;>(try split)<;>(try split)<;>omega
theorem aLi (h:256<=R) (hl:R<4294967296):16777216<=R*256^shN R/\R*256^shN R<4294967296:=by
 unfold shN;split
 ·omega
 ·split
  ·omega
  ·omega
structure CdS where
 N:Int
 R:Int
 k:Nat
def cd0:CdS:=⟨0,4294967295,0⟩
def eY (s:CdS) (low size total:Int):CdS:=⟨(s.N+s.R/total*low)*256^shN (s.R/total*size),s.R/total*size*256^shN (s.R/total*size),s.k+shN (s.R/total*size)⟩
def WC (s:CdS):Prop:=16777216<=s.R/\s.R<4294967296/\0<=s.N/\s.N+s.R<=256^(s.k+4)
theorem bHw:WC cd0:=by unfold WC cd0;dsimp only;omega
def rU (low size total:Int):Prop:=0<=low/\1<=size/\low+size<=total/\total<=65536
theorem nI (h:rU low size total) (hR:16777216<=R/\R<4294967296):
  256<=R/total/\R/total<=R/\0<=R/total*low/\R/total<=R/total*size/\R/total*low+R/total*size<=R:=by
 obtain⟨h0,h1,h2,h3⟩:=h;have hq:256<=R/total:=(Al G).2 G;have hm:R/total*total<=R:=Int.ediv_mul_le R G;have a1:0<=R/total*low:=Ag G h0;have a2:R/total*1<=R/total*size:=Ei h1 G;have a3:R/total*(low+size)<=R/total*total:=Ei h2 G;rw[Jm] at a3;refine⟨hq,?_,a1,G,G⟩;exact Hz _ G
theorem bAj {s:CdS} (h:WC s) (hs:rU low size total):WC (eY s low size total)/\(eY s low size total).k<=s.k+2:=by
 obtain⟨r0,r1,n0,nr⟩:=h;obtain⟨f1,f2,f3,f4,f5⟩:=nI hs ⟨r0,r1⟩;have hw:=aLi (R:=s.R/total*size) G G;have hj:=aLj (R:=s.R/total*size) G;unfold eY;generalize hq:s.R/total*size=R1 at*;generalize hl:s.R/total*low=x at*;generalize shN R1=j at*;refine⟨⟨hw.1,hw.2,Ag G (vk G),?_⟩,by dsimp only;omega⟩;show(s.N+x)*256^j+R1*256^j<=256^(s.k+j+4);rw[<-Jl,show s.k+j+4=s.k+4+j by omega,zu];exact nu G (vk G)
theorem aCf (m:Nat) (M:Int):beL (m+1) (M*256/4294967296)=beL m (M/4294967296)++[M%4294967296/16777216%256]:=by
 rw[beL,show M*256/4294967296/256=M/4294967296 by omega,show M*256/4294967296%256=M%4294967296/16777216%256 by omega]
theorem bDc (m:Nat) (M x:Int) (hx:x=M%4294967296):beL m (M/4294967296)++[x/16777216%256]++[x/65536%256]++[x/256%256]++[x/1%256]=beL (m+4) M:=by
 rw[bDb,show x/16777216%256=M%4294967296/16777216 by omega,show x/65536%256=M%16777216/65536 by omega,show x/256%256=M%65536/256 by omega,show x/1%256=M%256 by omega];simp
structure PpS where
 c0:List Int
 c1:List Int
 c2:List Int
 cls:Int
 cd:CdS
def pp0:PpS:=⟨uE,uE,uE,0,cd0⟩
def iE (s:Int):Int:=if s<2 then 0 else if s<6 then 1 else 2
theorem aXk (s:Int):0<=iE s/\iE s<=2:=by unfold iE;split<;>(try split)<;>omega
def vM (o:Int) (s:PpS):List Int:=if s.cls*o=0 then s.c0 else if s.cls*o=1 then s.c1 else s.c2
def aLk (o:Int) (s:PpS) (C:List Int) (cls:Int) (cd:CdS):PpS:=if s.cls*o=0 then⟨C,s.c1,s.c2,cls,cd⟩ else if s.cls*o=1 then⟨s.c0,C,s.c2,cls,cd⟩ else⟨s.c0,s.c1,C,cls,cd⟩
def qE (c:CdS) (C:List Int) (x:Int):CdS:=eY c (aZ (C.take x.toNat)) (rd C x) (aZ C)
def kU (o:Int) (s:PpS) (x:Int):PpS:=aLk o s (jS (vM o s) x) (iE x) (qE s.cd (vM o s) x)
def encP (o:Int) (l:List Int):PpS:=l.foldl (kU o) pp0
theorem aOi (o:Int) (l:List Int) (x:Int):encP o (l++[x])=kU o (encP o l) x:=by unfold encP;rw[Gs];rfl
def bM (b:List Int):List Int:=bA 0 (aU aO b)++[257]
def bZ (b:List Int) (o:Int):List Int:=beL ((encP o (bM b)).cd.k+4) (encP o (bM b)).cd.N
def PD (s:PpS):Prop:=(kY s.c0/\kY s.c1/\kY s.c2)/\(0<=s.cls/\s.cls<=2)/\WC s.cd
theorem bGi:PD pp0:=⟨⟨UO,UO,UO⟩,by unfold pp0;dsimp only;omega,bHw⟩
theorem IK {s:PpS} (h:PD s):kY (vM o s):=by
 unfold vM;split
 ·exact h.1.1
 ·split
  ·exact h.1.2.1
  ·exact h.1.2.2
theorem jT {C:List Int} (h:kY C) (h0:0<=x) (hx:x<258):rU (aZ (C.take x.toNat)) (rd C x) (aZ C):=by
 obtain⟨hl,hp,ht⟩:=h;have:=rW (i:=x) hp h0 G;exact⟨G,G,G,G⟩
theorem JV {s:PpS} (h:PD s) (h0:0<=x) (hx:x<258):PD (kU o s x)/\(kU o s x).cd.k<=s.cd.k+2:=by
 have hm:=aZn (IK (o:=o) h) h0 hx;have hc:=bAj h.2.2 (jT (IK (o:=o) h) h0 hx);have hb:=aXk x;unfold kU aLk;split
 ·exact⟨⟨⟨hm,h.1.2.1,h.1.2.2⟩,hb,hc.1⟩,hc.2⟩
 ·split
  ·exact⟨⟨⟨h.1.1,hm,h.1.2.2⟩,hb,hc.1⟩,hc.2⟩
  ·exact⟨⟨⟨h.1.1,h.1.2.1,hm⟩,hb,hc.1⟩,hc.2⟩
def aHd (l:List Int):Prop:= ∀x∈l,0<=x/\x<258
theorem qD (h:aR b):aHd (bM b):=λx hx=>by
 unfold bM at hx;rcases gp.1 hx with hx|hx
 ·have:=IB (aU aO b) 0 (lS h) x hx;omega
 ·rw[ib.1 hx];omega
theorem DZ (b:List Int):(bM b).length<=b.length+1:=by
 unfold bM;have:=oL (aU aO b) 0;rw[fO] at this;rw[ah,gq];omega
theorem aJc {o:Int}: ∀(l:List Int) (s:PpS),aHd l->PD s->PD (l.foldl (kU o) s)/\(l.foldl (kU o) s).cd.k<=s.cd.k+2*l.length
 |[],s,_,h=>⟨h,di _⟩
 |x::l,s,hl,h=>by
  have hx:=hl x cD;have h1:=JV (o:=o) h hx.1 hx.2;have h2:=aJc (o:=o) l (kU o s x) (λy hy=>hl y (ek _ hy)) h1.1;rw[List.foldl_cons,dh];exact⟨h2.1,G⟩
theorem CJ {l:List Int} (h:aHd l):PD (encP o l)/\(encP o l).cd.k<=2*l.length:=by
 have:=aJc (o:=o) l pp0 h bGi;unfold encP;have e:pp0.cd.k=0:=rfl;rw[e] at this;exact⟨this.1,G⟩
theorem nQ (h:aR b):(bZ b o).length<=2*b.length+6:=by
 unfold bZ;rw[jR];have:=(CJ (o:=o) (qD h)).2;have:=DZ b;omega
theorem gX (b:List Int) (o:Int):aR (bZ b o):=xX _ _
variable {v:Int}
def KQ:Nat->Int->List Int
 |0,v=>[v]
 |f+1,v=>if v<128 then [v] else(v%128+128)::KQ f (v/128)
def bO (v:Int):List Int:=KQ v.toNat v
theorem IP: ∀(f g:Nat) (v:Int),v.toNat<=f->v.toNat<=g->KQ f v=KQ g v
 |0,0,v,_,_=>rfl
 |0,g+1,v,h,_=>by rw[KQ,KQ,df G]
 |f+1,0,v,_,h=>by rw[KQ,KQ,df G]
 |f+1,g+1,v,h1,h2=>by
  simp only[KQ];by_cases z:v<128
  ·rw[df z,df z]
  ·rw[bu z,bu z,IP f g _ G G]
theorem jP (h:v<128):bO v=[v]:=by
 rw[bO,IP v.toNat (v.toNat+1) v G G,KQ,df h]
theorem rZ (h:128<=v):bO v=(v%128+128)::bO (v/128):=by
 rw[bO,IP v.toNat (v.toNat+1) v G G,KQ,bu G,bO,IP v.toNat (v/128).toNat _ G G]
theorem QQ {v0:Int} {acc:List Int} (h:bO v0=acc++bO v) (hv:128<=v) {d q:Int} (hd:d=v%128+128) (hq:q=v/128):bO v0=(acc++[d])++bO q:=by
 rw[h,rZ hv,<-hd,<-hq,gy];rfl
theorem dV: ∀(k:Nat) (v:Int),v<128^(k+1)->(bO v).length<=k+1
 |0,v,h=>by rw[jP G];exact di _
 | k+1,v,h=>by
  by_cases z:v<128
  ·rw[jP z];simp
  ·rw [rZ G,dh]
   have:v/128<128^(k+1):=by
    rw[vo] at h;exact zl G h
   have:=dV k (v/128) this;omega
theorem KP: ∀(k:Nat) (v:Int),v.toNat<=k->0<=v->aR (bO v)
 |0,v,h,h0=>by
  rw[jP G];intro x hx;rw[ib.1 hx];omega
 | k+1,v,h,h0=>by
  by_cases z:v<128
  ·rw [jP z];intro x hx;rw[ib.1 hx];omega
  ·rw [rZ G];intro x hx;rcases jm.1 hx with rfl|hx
   ·omega
   ·exact KP k (v/128) G G x hx
theorem fM (h:0<=v):aR (bO v):=KP _ v (di _) h
def fJ (v:Int):List Int:=[v/1%256,v/256%256,v/65536%256,v/16777216%256]
theorem jN (v:Int):aR (fJ v):=λx hx=>by
 simp only[fJ,jm,zg,or_false] at hx;omega
end Go.Pure
namespace Go.Eng
open Go Go.RowKit Go.Pure
section
variable {P:Program} {n:Nd} {B:Nat} {w0:World} {L:Env} {R:List Row} {ty:TypeId}
theorem VX {f:FuncId} {u6:List Operand} {ts:Array TypeId} {vs:List Value} {Post:Value->List Row->Prop} (ha:evs L u6=some vs)
  (hx: ∀w,Hp B w0 w R-> ∃v w' R',(callFunc f vs.toArray).run P w= .ok (.value v) w'/\Hp B w0 w' R'/\Post v R'):
  Ac P n B w0 (.call {callee:= .value (.func f),args:=u6.toArray,argTypes:=ts}) ty L R Post:=by
 intro a w o K Q ho _ hs hp hk;have e1:=hs.evs ha;obtain⟨v,w',R',hr,ci,hv⟩:=hx w hp;have hf:a.eval (.func f)= .func (.func f) #[] #[]:=hs.ev rfl;unfold Oper.wp;simp only[execOp,ho,resolve,hf,Deferred.ofValue,invoke,kg,ni,jv,uh,e1,ui,je,jk,hr,Oper.upon];exact hk v w' R' ci hv
theorem aCa (u:List Int):(Lib.bytesOf u).length=u.length:=by simp[Lib.bytesOf]
theorem RX: ∀ {u t:List Int},aR u->aR t->Lib.compareBytes (Lib.bytesOf u) (Lib.bytesOf t)=cmpL u t
 |[],[],_,_=>rfl
 |[],_::_,_,_=>rfl
 |_::_,[],_,_=>rfl
 | x::u,y::t,hu,ht=>by
  have ih:=RX (u:=u) (t:=t) (λz hz=>hu z (ek _ hz)) λz hz=>ht z (ek _ hz);have hx:=hu x cD;have hy:=ht y cD
  have e: ∀z:Int,0<=z/\z<256->((z.toNat.toUInt8).toNat:Int)=z:=λz hz=>by
   rw[Nat.toUInt8,Ch (by simp[UInt8.size];omega)];omega
  have bc: ∀ {a b:Int},0<=a/\a<256->0<=b/\b<256->(a.toNat.toUInt8<b.toNat.toUInt8↔a<b):=λ{a b} ha hb=>by
   rw[UInt8.lt_iff_toNat_lt];have h1:=e a ha;have h2:=e b hb;omega
  show(if x.toNat.toUInt8<y.toNat.toUInt8 then -1 else if y.toNat.toUInt8<x.toNat.toUInt8 then 1 else Lib.compareBytes (Lib.bytesOf u) (Lib.bytesOf t))=cmpL (x::u) (y::t);rw[cmpL,ih];by_cases c:x<y
  ·rw[df c,df ((bc hx hy).2 c)]
  ·rw [bu c,bu (λh=>c ((bc hx hy).1 h))];by_cases d:y<x
   ·rw[df d,df ((bc hy hx).2 d)]
   ·rw[bu d,bu (λh=>d ((bc hy hx).1 h))]
theorem vN {w:World} {A:Option Addr} {m c:Nat} {u:List Int} (h:Rd w A m c 1 (ints .u8 u)):(Extern.Bytes.bytesOf (.slice A m c)).run P w= .ok ⟨(Lib.bytesOf u).toArray⟩ w:=by
 have hl:=h.lenI;rcases A with _|a
 ·have h0:u=[]:=by
   cases u with
   |nil=>rfl
   |cons y l'=>obtain⟨_,g,_⟩:=h.at_ 0 (.int .u8 y) (by simp[ints]);cases g
  subst h0;rfl
 ·have:=Lib.run_loadBytesX (P:=P) w u a .empty λj x hj=>by
   obtain⟨b,e,hc⟩:=h.at_ j (.int .u8 x) (by simp[ints,hj]);obtain rfl:=jc e;exact hc
  rw[<-hl] at this;show(Extern.Bytes.loadBytes a m .empty).run P w=_;rw[this];simp
theorem aZr {w:World} {A A2:Option Addr} {m c m2 c2:Nat} {u t:List Int} (h:Rd w A m c 1 (ints .u8 u)) (h2:Rd w A2 m2 c2 1 (ints .u8 t)) (hu:aR u) (ht:aR t):
  (Extern.BytealgCompare.compare #[.slice A m c, .slice A2 m2 c2]).run P w= .ok (.int .i64 (cmpL u t)) w:=by
 change Sem.run P (do pure (goInt (Extern.BytealgCompare.cmp (<-Extern.Bytes.bytesOf (.slice A m c)) (<-Extern.Bytes.bytesOf (.slice A2 m2 c2))))) w=_;simp only[kg,vN h,vN h2,jv,ni];rw[Lib.cmp_eq,RX hu ht];rfl
theorem bNs {f:FuncId} {fn:Func} {x y:Operand} {ts:Array TypeId} {A A2:Option Addr} {m c m2 c2:Nat} {u t:List Int} (hf:P.funcs[f]? =some fn) (b8:(fn.name== "runtime.NumGoroutine")=false) (hb:fn.body.isNone=true) (hn:Extern.findNext fn=none) (he:Extern.find fn=some Extern.BytealgCompare.compare)
  (hx:ev L x=some (.slice A m c)) (hy:ev L y=some (.slice A2 m2 c2)) (h:RdC B w0 R A m c 1 (ints .u8 u)) (h2:RdC B w0 R A2 m2 c2 1 (ints .u8 t)) (hu:aR u) (ht:aR t):
  Ac P n B w0 (.call {callee:= .value (.func f),args:=[x,y].toArray,argTypes:=ts}) ty L R (λv R'=>v= .int .i64 (cmpL u t)/\R'=R):=
 VX (vs:=[.slice A m c, .slice A2 m2 c2]) (by simp[evs,hx,hy]) λw hw=>⟨_,w,R,by
  rw[Fg hf b8 hb hn he];rw[show [Value.slice A m c,Value.slice A2 m2 c2].toArray= #[.slice A m c, .slice A2 m2 c2] from rfl,aZr (h w hw) (h2 w hw) hu ht]
  rfl,hw,rfl,rfl⟩
theorem bDp {x:Operand} {t e:TypeId} {A:Option Addr} {m c:Nat} (ht:P.underlying t=some (.slice e)) (hx:ev L x=some (.slice A m c)):Yl P n B w0 (.call {callee:= .builtin .cap,args:= #[x],argTypes:= #[t]}) ty L R (.int .i64 (c:Int)):=by
 intro a w o ho _ hs _;simp[execOp,ho,resolve,invoke,builtin,Builtin.cap_,mh ht,hs.ev hx,goInt]
theorem WF {x z:Operand} {t e:TypeId} {A:Option Addr} {m c sz:Nat} {k2:IntKind} (ht:P.underlying t=some (.slice e)) (hi:(P.info? e).map (·.size)=some sz) (hx:ev L x=some (.slice A m c)) (hz:ev L z=some (.int k2 0)):
  Yl P n B w0 (.slice t x none (some z) none) ty L R (.slice A 0 c):=by
 intro a w o ho _ hs hp;obtain⟨i0,ar,hsz0⟩:=il.1 hi;have te:P.elem t=e:=by simp[Program.elem,ht]
 have rg:P.underlying t=some (.slice (P.elem t)):=by rw[te];exact ht
 simp only[execOp,ho,ky,Ar,hs.ev hx,hs.ev hz,kg,zz w t _ _ _ _ rg,run_slice_h w t A m c rg k2 0 (lq 0) G,te]
 have:(if c=0 then A else Option.map (λx=>x.add 0) A)=A:=by
  split
  ·rfl
  ·exact BG A
 simp[sizeOf,typeInfo,ar,hsz0,sliced,this]
theorem Row.lies_cut {w:World} {e sz m c:Nat} {A:Option Addr} {xs:List Value} (h:Row.lies B w ⟨e,sz,A,m,c,xs,false⟩) {k:Nat} (hk:k<=m) (hA:A≠none):Row.lies B w ⟨e,sz,A,k,c,xs.take (k*sz),false⟩:=by
 have h1:=Row.lies_w h rfl;have ph:k*sz<=m*sz:=uq _ hk;unfold Row.lies;simp only;obtain⟨hl,h2⟩:=h1;simp only at hl h2;refine⟨by rw[ax];omega,?_⟩;rcases h2 with⟨hv,_⟩|⟨g,cap,cur,hv,hb,hg,hnc,sn,kp,ht⟩
 ·simp only[kv] at hv;exact absurd hv.1 hA
 ·simp only[kv] at hv;obtain⟨rfl,_,rfl⟩:=hv;refine .inr ⟨g,c,cur,rfl,hb,hg,G,sn,kp,?_⟩;rw[<-ht,List.take_take];congr 1;omega
theorem Hp.cut {w:World} {e sz m c:Nat} {A:Option Addr} {xs:List Value} (h:Hp B w0 w (⟨e,sz,A,m,c,xs,false⟩::R)) {k:Nat} (hk:k<=m) (hA:A≠none):Hp B w0 w (⟨e,sz,A,k,c,xs.take (k*sz),false⟩::R):=
 ⟨h.below,h.base,λr hr=>by
  rcases jm.1 hr with rfl|hr
  ·exact Row.lies_cut (h.own _ (.head _)) hk hA
  ·exact h.own r (.tail _ hr),by
  obtain⟨h1,h2⟩:=jb.1 h.apart
  exact jb.2 ⟨λr hr=>h1 r hr,h2⟩,h.late⟩
theorem Hp.newC {w:World} (h:Hp B w0 w R) (cs:Array Value) (e m:Nat) (hm:m<=cs.size) (hc:cs.size<=maxLen):Hp B w0 (w.alloc (.cells cs e)) (⟨e,1,some ⟨w.heap.size,0,none⟩,m,cs.size,cs.toList.take m,false⟩::R):=by
 have h1:=h.new cs e cs.size 1 hc G;have:=h1.cut (k:=m) hm cD;rwa[qw] at this
theorem bDf {x y:Operand} {t tn e:TypeId} {z:Value} {bytes:Nat} {kn:IntKind} {m:Nat} (ht:P.underlying t=some (.slice e)) (Ox:P.underlying tn=some (.int kn)) (db:(P.info? e).map (λi=>(i.zero,i.size,i.bytes))=some (some z,1,bytes)) (hz:z.cells= #[z])
  (hx:ev L x=some (.slice none 0 0)) (hy:ev L y=some (.int .i64 (m:Int))) (h0:0<m) (hm:m<=9223372036854775807) (hb:m*bytes<=281474976710656):
  Ac P n B w0 (.call {callee:= .builtin .append,args:= #[x,y],argTypes:= #[t,tn]}) ty L R (λv R'=> ∃g c,v= .slice (some ⟨g,0,none⟩) m c/\R'=⟨e,1,some ⟨g,0,none⟩,m,c,List.replicate m z,false⟩::R):=by
 intro a w o K Q ho _ hs hp hk;obtain⟨i0,hi,yd⟩:=il.1 db;simp only[yl] at yd;obtain⟨vl,d7,Hh⟩:=yd;have hr:=Lib.run_append_nil_zeros (P:=P) w t tn o.type e i0 z .i64 kn ht Ox hi vl m h0 G G (by rw[Hh];exact hb)
 have Qa: ∀q,(Builtin.zeroCells z.cells q).toList=List.replicate q z:=λq=>by
  rw[hz];refine wz (by simp[Builtin.zeroCells]) λi h1 h2=> ?_;simp[Builtin.zeroCells,Nat.mod_one]
 unfold Oper.wp;simp only[execOp,ho,resolve,invoke,builtin,kg,ni,jv,uh,lm,ry,hs.ev hx,hs.ev hy,hr,Oper.upon];have Bk:=grownCap_ge w m 0 e;have ph:=Gm w m 0 e (by unfold maxLen;omega)
 have hsz:(Builtin.zeroCells z.cells m++Builtin.zeroCells z.cells (grownCap w m 0 e-m)).size=grownCap w m 0 e:=by
  rw[<-jy,ve,ah,Qa,Qa,cz,cz];omega
 have pd:=(hp.drawn (w.drawn+1) G).newC (Builtin.zeroCells z.cells m++Builtin.zeroCells z.cells (grownCap w m 0 e-m)) e m (by rw[hsz];exact Bk) (by rw[hsz];exact ph);rw[ve,Qa,Qa,Ex (by rw[cz]),hsz] at pd;exact hk _ _ _ pd ⟨_,_,rfl,rfl⟩
end
end Go.Eng
namespace Go.Eng
open Go Go.RowKit
section
variable {P:Program} {n:Nd} {B:Nat} {w0:World}
theorem tK {σ0 σ1 σ2 σ3 σ4 σ5 σ6 σ7:Type} {c:Code} {Q:fC} {L:Env} {R:List Row} (Lx:σ0->σ1->σ2->σ3->σ4->σ5->σ6->σ7->Env) (Rx:σ0->σ1->σ2->σ3->σ4->σ5->σ6->σ7->List Row) (J:σ0->σ1->σ2->σ3->σ4->σ5->σ6->σ7->Prop) (μ:σ0->σ1->σ2->σ3->σ4->σ5->σ6->σ7->Nat)
  (h0: ∃x0 x1 x2 x3 x4 x5 x6 x7,J x0 x1 x2 x3 x4 x5 x6 x7/\Sub (Lx x0 x1 x2 x3 x4 x5 x6 x7) L/\ ∀w,Hp B w0 w R->Hp B w0 w (Rx x0 x1 x2 x3 x4 x5 x6 x7))
  (round: ∀x0 x1 x2 x3 x4 x5 x6 x7,J x0 x1 x2 x3 x4 x5 x6 x7->W P n B w0 c {Q with nrm:=λL' R'=> ∃y0 y1 y2 y3 y4 y5 y6 y7,J y0 y1 y2 y3 y4 y5 y6 y7/\μ y0 y1 y2 y3 y4 y5 y6 y7<μ x0 x1 x2 x3 x4 x5 x6 x7/\Sub (Lx y0 y1 y2 y3 y4 y5 y6 y7) L'/\ ∀w,Hp B w0 w R'->Hp B w0 w (Rx y0 y1 y2 y3 y4 y5 y6 y7)} (Lx x0 x1 x2 x3 x4 x5 x6 x7) (Rx x0 x1 x2 x3 x4 x5 x6 x7)):W P n B w0 (.loop c) Q L R:=by
 obtain⟨x0,x1,x2,x3,x4,x5,x6,x7,h1,h2,h3⟩:=h0;refine oZ (σ:=σ0 × σ1 × σ2 × σ3 × σ4 × σ5 × σ6 × σ7) (λp=>Lx p.1 p.2.1 p.2.2.1 p.2.2.2.1 p.2.2.2.2.1 p.2.2.2.2.2.1 p.2.2.2.2.2.2.1 p.2.2.2.2.2.2.2) (λp=>Rx p.1 p.2.1 p.2.2.1 p.2.2.2.1 p.2.2.2.2.1 p.2.2.2.2.2.1 p.2.2.2.2.2.2.1 p.2.2.2.2.2.2.2) (λp=>J p.1 p.2.1 p.2.2.1 p.2.2.2.1 p.2.2.2.2.1 p.2.2.2.2.2.1 p.2.2.2.2.2.2.1 p.2.2.2.2.2.2.2) (λp=>μ p.1 p.2.1 p.2.2.1 p.2.2.2.1 p.2.2.2.2.1 p.2.2.2.2.2.1 p.2.2.2.2.2.2.1 p.2.2.2.2.2.2.2) ⟨(x0,x1,x2,x3,x4,x5,x6,x7),h1,h2,h3⟩ λp hp=>iA (round p.1 p.2.1 p.2.2.1 p.2.2.2.1 p.2.2.2.2.1 p.2.2.2.2.2.1 p.2.2.2.2.2.2.1 p.2.2.2.2.2.2.2 hp) ?_ (λ_ _ h=>h) (λ_ _ _ h=>h);rintro L' R' ⟨y0,y1,y2,y3,y4,y5,y6,y7,g1,g2,g3,g4⟩;exact⟨(y0,y1,y2,y3,y4,y5,y6,y7),⟨g1,g2⟩,g3,g4⟩
theorem TB {σ0 σ1 σ2 σ3 σ4 σ5 σ6 σ7 σ8:Type} {c:Code} {Q:fC} {L:Env} {R:List Row} (Lx:σ0->σ1->σ2->σ3->σ4->σ5->σ6->σ7->σ8->Env) (Rx:σ0->σ1->σ2->σ3->σ4->σ5->σ6->σ7->σ8->List Row) (J:σ0->σ1->σ2->σ3->σ4->σ5->σ6->σ7->σ8->Prop) (μ:σ0->σ1->σ2->σ3->σ4->σ5->σ6->σ7->σ8->Nat)
  (h0: ∃x0 x1 x2 x3 x4 x5 x6 x7 x8,J x0 x1 x2 x3 x4 x5 x6 x7 x8/\Sub (Lx x0 x1 x2 x3 x4 x5 x6 x7 x8) L/\ ∀w,Hp B w0 w R->Hp B w0 w (Rx x0 x1 x2 x3 x4 x5 x6 x7 x8))
  (round: ∀x0 x1 x2 x3 x4 x5 x6 x7 x8,J x0 x1 x2 x3 x4 x5 x6 x7 x8->W P n B w0 c {Q with nrm:=λL' R'=> ∃y0 y1 y2 y3 y4 y5 y6 y7 y8,J y0 y1 y2 y3 y4 y5 y6 y7 y8/\μ y0 y1 y2 y3 y4 y5 y6 y7 y8<μ x0 x1 x2 x3 x4 x5 x6 x7 x8/\Sub (Lx y0 y1 y2 y3 y4 y5 y6 y7 y8) L'/\ ∀w,Hp B w0 w R'->Hp B w0 w (Rx y0 y1 y2 y3 y4 y5 y6 y7 y8)} (Lx x0 x1 x2 x3 x4 x5 x6 x7 x8) (Rx x0 x1 x2 x3 x4 x5 x6 x7 x8)):W P n B w0 (.loop c) Q L R:=by
 obtain⟨x0,x1,x2,x3,x4,x5,x6,x7,x8,h1,h2,h3⟩:=h0;refine oZ (σ:=σ0 × σ1 × σ2 × σ3 × σ4 × σ5 × σ6 × σ7 × σ8) (λp=>Lx p.1 p.2.1 p.2.2.1 p.2.2.2.1 p.2.2.2.2.1 p.2.2.2.2.2.1 p.2.2.2.2.2.2.1 p.2.2.2.2.2.2.2.1 p.2.2.2.2.2.2.2.2) (λp=>Rx p.1 p.2.1 p.2.2.1 p.2.2.2.1 p.2.2.2.2.1 p.2.2.2.2.2.1 p.2.2.2.2.2.2.1 p.2.2.2.2.2.2.2.1 p.2.2.2.2.2.2.2.2) (λp=>J p.1 p.2.1 p.2.2.1 p.2.2.2.1 p.2.2.2.2.1 p.2.2.2.2.2.1 p.2.2.2.2.2.2.1 p.2.2.2.2.2.2.2.1 p.2.2.2.2.2.2.2.2) (λp=>μ p.1 p.2.1 p.2.2.1 p.2.2.2.1 p.2.2.2.2.1 p.2.2.2.2.2.1 p.2.2.2.2.2.2.1 p.2.2.2.2.2.2.2.1 p.2.2.2.2.2.2.2.2) ⟨(x0,x1,x2,x3,x4,x5,x6,x7,x8),h1,h2,h3⟩ λp hp=>iA (round p.1 p.2.1 p.2.2.1 p.2.2.2.1 p.2.2.2.2.1 p.2.2.2.2.2.1 p.2.2.2.2.2.2.1 p.2.2.2.2.2.2.2.1 p.2.2.2.2.2.2.2.2 hp) ?_ (λ_ _ h=>h) (λ_ _ _ h=>h);rintro L' R' ⟨y0,y1,y2,y3,y4,y5,y6,y7,y8,g1,g2,g3,g4⟩;exact⟨(y0,y1,y2,y3,y4,y5,y6,y7,y8),⟨g1,g2⟩,g3,g4⟩
theorem WJ {σ0 σ1 σ2 σ3 σ4 σ5 σ6 σ7 σ8 σ9:Type} {c:Code} {Q:fC} {L:Env} {R:List Row} (Lx:σ0->σ1->σ2->σ3->σ4->σ5->σ6->σ7->σ8->σ9->Env) (Rx:σ0->σ1->σ2->σ3->σ4->σ5->σ6->σ7->σ8->σ9->List Row) (J:σ0->σ1->σ2->σ3->σ4->σ5->σ6->σ7->σ8->σ9->Prop) (μ:σ0->σ1->σ2->σ3->σ4->σ5->σ6->σ7->σ8->σ9->Nat)
  (h0: ∃x0 x1 x2 x3 x4 x5 x6 x7 x8 x9,J x0 x1 x2 x3 x4 x5 x6 x7 x8 x9/\Sub (Lx x0 x1 x2 x3 x4 x5 x6 x7 x8 x9) L/\ ∀w,Hp B w0 w R->Hp B w0 w (Rx x0 x1 x2 x3 x4 x5 x6 x7 x8 x9))
  (round: ∀x0 x1 x2 x3 x4 x5 x6 x7 x8 x9,J x0 x1 x2 x3 x4 x5 x6 x7 x8 x9->W P n B w0 c {Q with nrm:=λL' R'=> ∃y0 y1 y2 y3 y4 y5 y6 y7 y8 y9,J y0 y1 y2 y3 y4 y5 y6 y7 y8 y9/\μ y0 y1 y2 y3 y4 y5 y6 y7 y8 y9<μ x0 x1 x2 x3 x4 x5 x6 x7 x8 x9/\Sub (Lx y0 y1 y2 y3 y4 y5 y6 y7 y8 y9) L'/\ ∀w,Hp B w0 w R'->Hp B w0 w (Rx y0 y1 y2 y3 y4 y5 y6 y7 y8 y9)} (Lx x0 x1 x2 x3 x4 x5 x6 x7 x8 x9) (Rx x0 x1 x2 x3 x4 x5 x6 x7 x8 x9)):W P n B w0 (.loop c) Q L R:=by
 obtain⟨x0,x1,x2,x3,x4,x5,x6,x7,x8,x9,h1,h2,h3⟩:=h0;refine oZ (σ:=σ0 × σ1 × σ2 × σ3 × σ4 × σ5 × σ6 × σ7 × σ8 × σ9) (λp=>Lx p.1 p.2.1 p.2.2.1 p.2.2.2.1 p.2.2.2.2.1 p.2.2.2.2.2.1 p.2.2.2.2.2.2.1 p.2.2.2.2.2.2.2.1 p.2.2.2.2.2.2.2.2.1 p.2.2.2.2.2.2.2.2.2) (λp=>Rx p.1 p.2.1 p.2.2.1 p.2.2.2.1 p.2.2.2.2.1 p.2.2.2.2.2.1 p.2.2.2.2.2.2.1 p.2.2.2.2.2.2.2.1 p.2.2.2.2.2.2.2.2.1 p.2.2.2.2.2.2.2.2.2) (λp=>J p.1 p.2.1 p.2.2.1 p.2.2.2.1 p.2.2.2.2.1 p.2.2.2.2.2.1 p.2.2.2.2.2.2.1 p.2.2.2.2.2.2.2.1 p.2.2.2.2.2.2.2.2.1 p.2.2.2.2.2.2.2.2.2) (λp=>μ p.1 p.2.1 p.2.2.1 p.2.2.2.1 p.2.2.2.2.1 p.2.2.2.2.2.1 p.2.2.2.2.2.2.1 p.2.2.2.2.2.2.2.1 p.2.2.2.2.2.2.2.2.1 p.2.2.2.2.2.2.2.2.2) ⟨(x0,x1,x2,x3,x4,x5,x6,x7,x8,x9),h1,h2,h3⟩ λp hp=>iA (round p.1 p.2.1 p.2.2.1 p.2.2.2.1 p.2.2.2.2.1 p.2.2.2.2.2.1 p.2.2.2.2.2.2.1 p.2.2.2.2.2.2.2.1 p.2.2.2.2.2.2.2.2.1 p.2.2.2.2.2.2.2.2.2 hp) ?_ (λ_ _ h=>h) (λ_ _ _ h=>h);rintro L' R' ⟨y0,y1,y2,y3,y4,y5,y6,y7,y8,y9,g1,g2,g3,g4⟩;exact⟨(y0,y1,y2,y3,y4,y5,y6,y7,y8,y9),⟨g1,g2⟩,g3,g4⟩
theorem aQn {σ0 σ1 σ2 σ3 σ4 σ5 σ6 σ7 σ8 σ9 σ10 σ11 σ12 σ13:Type} {c:Code} {Q:fC} {L:Env} {R:List Row} (Lx:σ0->σ1->σ2->σ3->σ4->σ5->σ6->σ7->σ8->σ9->σ10->σ11->σ12->σ13->Env) (Rx:σ0->σ1->σ2->σ3->σ4->σ5->σ6->σ7->σ8->σ9->σ10->σ11->σ12->σ13->List Row) (J:σ0->σ1->σ2->σ3->σ4->σ5->σ6->σ7->σ8->σ9->σ10->σ11->σ12->σ13->Prop) (μ:σ0->σ1->σ2->σ3->σ4->σ5->σ6->σ7->σ8->σ9->σ10->σ11->σ12->σ13->Nat)
  (h0: ∃x0 x1 x2 x3 x4 x5 x6 x7 x8 x9 wc wd wi wj,J x0 x1 x2 x3 x4 x5 x6 x7 x8 x9 wc wd wi wj/\Sub (Lx x0 x1 x2 x3 x4 x5 x6 x7 x8 x9 wc wd wi wj) L/\ ∀w,Hp B w0 w R->Hp B w0 w (Rx x0 x1 x2 x3 x4 x5 x6 x7 x8 x9 wc wd wi wj))
  (round: ∀x0 x1 x2 x3 x4 x5 x6 x7 x8 x9 wc wd wi wj,J x0 x1 x2 x3 x4 x5 x6 x7 x8 x9 wc wd wi wj->W P n B w0 c {Q with nrm:=λL' R'=> ∃y0 y1 y2 y3 y4 y5 y6 y7 y8 y9 o5 o6 o7 o8,J y0 y1 y2 y3 y4 y5 y6 y7 y8 y9 o5 o6 o7 o8/\μ y0 y1 y2 y3 y4 y5 y6 y7 y8 y9 o5 o6 o7 o8<μ x0 x1 x2 x3 x4 x5 x6 x7 x8 x9 wc wd wi wj/\Sub (Lx y0 y1 y2 y3 y4 y5 y6 y7 y8 y9 o5 o6 o7 o8) L'/\ ∀w,Hp B w0 w R'->Hp B w0 w (Rx y0 y1 y2 y3 y4 y5 y6 y7 y8 y9 o5 o6 o7 o8)} (Lx x0 x1 x2 x3 x4 x5 x6 x7 x8 x9 wc wd wi wj) (Rx x0 x1 x2 x3 x4 x5 x6 x7 x8 x9 wc wd wi wj)):W P n B w0 (.loop c) Q L R:=by
 obtain⟨x0,x1,x2,x3,x4,x5,x6,x7,x8,x9,wc,wd,wi,wj,h1,h2,h3⟩:=h0;refine oZ (σ:=σ0 × σ1 × σ2 × σ3 × σ4 × σ5 × σ6 × σ7 × σ8 × σ9 × σ10 × σ11 × σ12 × σ13) (λp=>Lx p.1 p.2.1 p.2.2.1 p.2.2.2.1 p.2.2.2.2.1 p.2.2.2.2.2.1 p.2.2.2.2.2.2.1 p.2.2.2.2.2.2.2.1 p.2.2.2.2.2.2.2.2.1 p.2.2.2.2.2.2.2.2.2.1 p.2.2.2.2.2.2.2.2.2.2.1 p.2.2.2.2.2.2.2.2.2.2.2.1 p.2.2.2.2.2.2.2.2.2.2.2.2.1 p.2.2.2.2.2.2.2.2.2.2.2.2.2) (λp=>Rx p.1 p.2.1 p.2.2.1 p.2.2.2.1 p.2.2.2.2.1 p.2.2.2.2.2.1 p.2.2.2.2.2.2.1 p.2.2.2.2.2.2.2.1 p.2.2.2.2.2.2.2.2.1 p.2.2.2.2.2.2.2.2.2.1 p.2.2.2.2.2.2.2.2.2.2.1 p.2.2.2.2.2.2.2.2.2.2.2.1 p.2.2.2.2.2.2.2.2.2.2.2.2.1 p.2.2.2.2.2.2.2.2.2.2.2.2.2) (λp=>J p.1 p.2.1 p.2.2.1 p.2.2.2.1 p.2.2.2.2.1 p.2.2.2.2.2.1 p.2.2.2.2.2.2.1 p.2.2.2.2.2.2.2.1 p.2.2.2.2.2.2.2.2.1 p.2.2.2.2.2.2.2.2.2.1 p.2.2.2.2.2.2.2.2.2.2.1 p.2.2.2.2.2.2.2.2.2.2.2.1 p.2.2.2.2.2.2.2.2.2.2.2.2.1 p.2.2.2.2.2.2.2.2.2.2.2.2.2) (λp=>μ p.1 p.2.1 p.2.2.1 p.2.2.2.1 p.2.2.2.2.1 p.2.2.2.2.2.1 p.2.2.2.2.2.2.1 p.2.2.2.2.2.2.2.1 p.2.2.2.2.2.2.2.2.1 p.2.2.2.2.2.2.2.2.2.1 p.2.2.2.2.2.2.2.2.2.2.1 p.2.2.2.2.2.2.2.2.2.2.2.1 p.2.2.2.2.2.2.2.2.2.2.2.2.1 p.2.2.2.2.2.2.2.2.2.2.2.2.2) ⟨(x0,x1,x2,x3,x4,x5,x6,x7,x8,x9,wc,wd,wi,wj),h1,h2,h3⟩ λp hp=>iA (round p.1 p.2.1 p.2.2.1 p.2.2.2.1 p.2.2.2.2.1 p.2.2.2.2.2.1 p.2.2.2.2.2.2.1 p.2.2.2.2.2.2.2.1 p.2.2.2.2.2.2.2.2.1 p.2.2.2.2.2.2.2.2.2.1 p.2.2.2.2.2.2.2.2.2.2.1 p.2.2.2.2.2.2.2.2.2.2.2.1 p.2.2.2.2.2.2.2.2.2.2.2.2.1 p.2.2.2.2.2.2.2.2.2.2.2.2.2 hp) ?_ (λ_ _ h=>h) (λ_ _ _ h=>h);rintro L' R' ⟨y0,y1,y2,y3,y4,y5,y6,y7,y8,y9,o5,o6,o7,o8,g1,g2,g3,g4⟩;exact⟨(y0,y1,y2,y3,y4,y5,y6,y7,y8,y9,o5,o6,o7,o8),⟨g1,g2⟩,g3,g4⟩
end
section
variable {P:Program} {n:Nd} {B:Nat} {w0:World} {L:Env} {R:List Row} {ty:TypeId}
end
end Go.Eng
namespace Go.Eng
open Go Go.RowKit Go.Proofs
theorem SlW.elim {C:Prop} {k:IntKind} {w:World} {vals:List Value} {ls:List (List Int)} (h:SlW k w vals ls) {i:Int} (h0:0<=i) (h1:i<ls.length) (q: ∀(A:Option Addr) (c:Nat),vals[i.toNat]? =some (Value.slice A (rdl ls i).length c)->Rd w A (rdl ls i).length c 1 (ints k (rdl ls i))->(∀x∈rdl ls i,(Lit.int k x).wf=true)->(rdl ls i).length<=140737488355327->C):C:=by
 obtain⟨A,c,a,b,d,e⟩:=h.at h0 h1;exact q A c a b d e
section
variable {P:Program} {n:Nd} {B:Nat} {w0:World} {L:Env} {R:List Row} {ty:TypeId}
theorem zM {x ix:Operand} {t e:TypeId} {k:IntKind} {A:Option Addr} {m c q:Nat} {i j:Int} {l:List (Int × Int)} (ht:P.underlying t=some (.array 2 e)) (hi:(P.info? e).map (·.size)=some 1) (hx:ev L x=some (.pointer (pat A (i.toNat*2)))) (rr:ev L ix=some (.int k j))
  (hr:RdC B w0 R A m c 2 (prs l)) (h0:0<=i) (h1:i<l.length) (hj:j.toNat=q) (tz:0<=j) (n5:j<2):Yl P n B w0 (.indexAddr t x ix) ty L R (.pointer (pat A (i.toNat*2+q))):=by
 have:=yJ (P:=P) (n:=n) (B:=B) (w0:=w0) (ty:=ty) ht hi hx rfl rr hr (by rw[iX];omega) tz n5;rwa[qw,hj] at this
theorem aIl {l:List (Int × Int)} {i:Int} (h0:0<=i) (h:i<l.length):(prs l)[i.toNat*2+0]? =some (.int .i64 (rdp l i).1):=by
 rw[IQ _ _ G];rw[df G,show(i.toNat*2+0)/2=i.toNat by omega];rfl
theorem bAm {l:List (Int × Int)} {i:Int} (h0:0<=i) (h:i<l.length):(prs l)[i.toNat*2+1]? =some (.int .i64 (rdp l i).2):=by
 rw[IQ _ _ G];rw[bu G,show(i.toNat*2+1)/2=i.toNat by omega];rfl
theorem yI {x:Operand} {t:TypeId} {d:TypeDesc} {A:Option Addr} {m c:Nat} {l:List (Int × Int)} {i:Int} (hu:P.underlying t=some d) (hd:DC d=false) (hx:ev L x=some (.pointer (pat A (i.toNat*2+0)))) (hr:RdC B w0 R A m c 2 (prs l)) (h0:0<=i:=by omega) (h1:i<l.length:=by omega):
  Yl P n B w0 (.load t x) ty L R (.int .i64 (rdp l i).1):=qV hu hd hx rfl hr (aIl h0 h1)
theorem aQd {x:Operand} {t:TypeId} {d:TypeDesc} {A:Option Addr} {m c:Nat} {l:List (Int × Int)} {i:Int} (hu:P.underlying t=some d) (hd:DC d=false) (hx:ev L x=some (.pointer (pat A (i.toNat*2+1)))) (hr:RdC B w0 R A m c 2 (prs l)) (h0:0<=i) (h1:i<l.length):
  Yl P n B w0 (.load t x) ty L R (.int .i64 (rdp l i).2):=qV hu hd hx rfl hr (bAm h0 h1)
end
section
variable {P:Program} {n:Nd} {B:Nat} {w0:World} {ops:Array Oper} {K:Env->List Row->Prop} {L:Env} {R:List Row} {op:Op} {ty:TypeId} {pos:String} {mm:Array Edge}
def aKl (P:Program) (n:Nd) (B:Nat) (w0:World) (ops:Array Oper) (K:Env->List Row->Prop) (ac:Nat) (ab:Array Bool) (L:Env) (R:List Row) (i:Nat):Prop:=
 ∀a w (Q:Exit->Act->World->Prop),Sat n L a->Hp B w0 w R->(∀c a w,¬Q (.panic c) a w)->(∀a' w' L' R',Sat n L' a'->Hp B w0 w' R'->K L' R'->Q .normal a' w')->
  wpOp P ops Q i (λa' w'=> ∃S':World->Prop,S' w'/\(NN ops ab i=true\/ ∀x,S' x->Hp B w0 x R)/\uX P ops Q ac S' (ab.setIfInBounds i true) a' w') a w
theorem TA {ac:Nat} {ab:Array Bool} (i j:Nat) (hr:Region.ready .any ops ab=[i,j]) (hi:aKl P n B w0 ops K ac ab L R i) (hj:aKl P n B w0 ops K ac ab L R j):WD P n B w0 ops K (ac+1) ab L R:=by
 intro a w Q hs hp fc hq;refine⟨λh0=>absurd (hr▸h0) cD,λk hk=> ?_⟩;rw[hr] at hk;rcases jm.1 hk with rfl|hk
 ·exact hi a w Q hs hp fc hq
 ·obtain rfl:=ib.1 hk;exact hj a w Q hs hp fc hq
theorem bFt {i:Nat} {o:Oper} {Post:Value->List Row->Prop} {ac:Nat} {ab:Array Bool} (hi:ops[i]? =some o) (hg: ∀a,Sat n L a->Region.wanted o (yielded ops a.tmps)=true) (ha:Ac P n B w0 o.op o.type L R Post)
  (hn: ∀v a,Sat n L a->Sat n (match o.dst with|some d=>(d,v)::L|none=>L) (a.put o.dst v))
  (h: ∀v R',Post v R'->(NN ops ab i=true\/ ∀w,Hp B w0 w R'->Hp B w0 w R)/\WD P n B w0 ops K ac (ab.setIfInBounds i true) (match o.dst with|some d=>(d,v)::L|none=>L) R'):aKl P n B w0 ops K ac ab L R i:=by
 intro a w Q hs hp fc hq;unfold wpOp;simp only[hi,hg a hs,Fu];refine .inl (ha a w o _ Q rfl rfl hs hp λv w' R' ci hv=> ?_);obtain⟨h1,h2⟩:=h v R' hv;exact⟨λw=>Hp B w0 w R',ci,h1,h2 _ w' Q (hn v a hs) ci fc hq⟩
theorem XC {d:Nat} {Post:Value->List Row->Prop} {ac:Nat} {ab:Array Bool} (i:Nat) (hi:ops[i]? =some {dst:=some d,op:=op,type:=ty,pos:=pos,after:=mm,guard:=none}) (hn:Nat.blt d n=true) (ha:Ac P n B w0 op ty L R Post)
  (h: ∀v R',Post v R'->(NN ops ab i=true\/ ∀w,Hp B w0 w R'->Hp B w0 w R)/\WD P n B w0 ops K ac (ab.setIfInBounds i true) ((d,v)::L) R'):aKl P n B w0 ops K ac ab L R i:=
 bFt hi (λ_ _=>rfl) ha (λv _ hs=>hs.put hn v) h
end
end Go.Eng
namespace Go.Eng
open Go Go.RowKit
variable {w:World} {A:Option Addr} {m c l h:Nat} {xs:List Int}
theorem Rd.cutI {k:IntKind} (hr:Rd w A m c 1 (ints k xs)) (h1:l<=h) (h2:h<=m):Rd w (jA A l c 1) (h-l) (c-l) 1 (ints k ((xs.drop l).take (h-l))):=
 RdC.cutI (hr.c []) h1 h2 w (Hp.refl _)
theorem Rd.fromI {k:IntKind} (hr:Rd w A m c 1 (ints k xs)) (h1:l<=m):Rd w (jA A l c 1) (m-l) (c-l) 1 (ints k (xs.drop l)):=
 RdC.fromI (hr.c []) h1 w (Hp.refl _)
theorem Rd.toI {k:IntKind} (hr:Rd w A m c 1 (ints k xs)) (h2:h<=m):Rd w A h c 1 (ints k (xs.take h)):=
 RdC.toI (hr.c []) h2 w (Hp.refl _)
theorem fP {x:Int} (h:0<=x/\x<256):(Lit.int .u8 x).wf=true:=by
 have h1:IntKind.u8.min<=x:=h.1
 have h2:x<=IntKind.u8.max:=by
  have:IntKind.u8.max=255:=cC
  omega
 simp[Lit.wf,h1,h2]
theorem SlW.snoc {k:IntKind} {vals:List Value} {ls:List (List Int)} {l:List Int} (h:SlW k w vals ls) (hr:Rd w A m c 1 (ints k l)) (hwf: ∀x∈l,(Lit.int k x).wf=true) (hm:l.length<=140737488355327):SlW k w (vals++[.slice A m c]) (ls++[l]):=by
 obtain rfl:=hr.lenI;refine⟨by rw[ah,ah,h.1];rfl,λj hj=> ?_⟩;rcases fe j ls.length with a|a
 ·obtain ⟨A',c',h1,h2,h3,h4⟩:=h.2 j a
  have e:(ls++[l]).getD j []=ls.getD j []:=by
   rw[ai,ai,ji a]
  rw[e];exact⟨A',c',by rw[ji (by rw[h.1];exact a)];exact h1,h2,h3,h4⟩
 ·have wx:j=ls.length:=by rw[ah] at hj;simp at hj;omega
  have e:(ls++[l]).getD j []=l:=by
   rw[ai,wx,ig (di _)];simp
  rw[e];refine⟨A,c,?_,hr,hwf,hm⟩;rw[wx,<-h.1,ig (di _)];simp
section
variable {P:Program} {n:Nd} {B:Nat} {w0:World} {L:Env} {R:List Row} {ty:TypeId}
end
section
variable {P:Program} {n:Nd} {B:Nat} {w0:World} {L:Env} {R:List Row} {ty:TypeId}
def WRd (P:Program) (n:Nd) (B:Nat) (w0:World) (c:Code) (Q:fC):Nat->Env->List Row->Prop
 |0,_,_=>False
 |m+1,L,R=>W P n B w0 c {Q with nrm:=WRd P n B w0 c Q m} L R
theorem oJ {c:Code} {Q:fC} (m:Nat) (h:WRd P n B w0 c Q m L R):W P n B w0 (.loop c) Q L R:=by
 intro a w hs hp;refine wpIn_loop_rounds m ?_
 have key: ∀(m:Nat) (L:Env) (R:List Row) (a:Act) (w:World),Sat n L a->Hp B w0 w R->WRd P n B w0 c Q m L R->Code.roundsIn (NF n.rd) 0 P c (PQ n B w0 Q) m a w:=by
  intro m
  induction m with
  |zero=>intro L R a w _ _ h;exact h.elim
  |succ m ih=>
   intro L R a w hs hp h;rw[roundsIn_succ];refine Ba (h a w hs hp) ?_;intro e a' w' hq;cases e with
   |normal=>obtain⟨L',R',ef,ci,hw⟩:=hq;exact ih _ _ _ _ ef ci hw
   |exit id=>exact hq
   |goto l=>exact hq
   |ret=>exact hq
   |panic ch=>exact hq
   |outgrown=>exact hq
 exact key m L R a w hs hp h
theorem eH {c:Code} {Q:fC} {m:Nat} (h:W P n B w0 c {Q with nrm:=WRd P n B w0 c Q m} L R):WRd P n B w0 c Q (m+1) L R:=h
theorem bFn {t:TypeId} {x ix:Operand} {u i v:Value} (hx:ev L x=some u) (hi:ev L ix=some i) (h: ∀w,(Instr.index t u i).run P w= .ok v w):Yl P n B w0 (.index t x ix) ty L R v:=by
 intro a w o ho _ hs _;simp[execOp,ho,hs.ev hx,hs.ev hi,h]
end
end Go.Eng
