/- Own work. -/
import Derived.Laws.CopyRow
import Derived.Laws.IdiomCopy
import Derived.Lib.BitFns
import Derived.Shelf.Small.Bits
import Derived.Test.YtdbebmmhdefgdaaGreatProg
import Derived.RangeFuncRecord
import Derived.RangeFuncSeq
import Derived.RangeFuncCalls
import Derived.RangeFuncKeeps
import Derived.RangeFuncBox
import Derived.RangeFuncNested
import Derived.Shelf.SlSortCmp.Kit1
import Derived.Shelf.Abstract
import Derived.WalkKit
import Derived.OwnWalkIn
import Derived.TacticsInMore
import Derived.LoopNIn
import Derived.LoopIn
import Derived.Ground.NamesProg
import Derived.Ground.Names2Prog
import Derived.Shelf.Sort.Plain
import Derived.Shelf.Slices.SearchI
import Derived.Shelf.Slices.In.SortNone
import Derived.Shelf.Slices.Empties
import Derived.Lib.SlKeysI
import Derived.Shelf.Bits.Mul64
import Derived.Test.YtdbebmmhdefgdaaGreatZa2
set_option linter.unusedVariables false
set_option linter.unusedSimpArgs false
set_option maxHeartbeats 8000000
namespace Go.Eng
open Go Go.RowKit
section
variable {P:Program} {n:Nd} {B:Nat} {w0:World} {L:Env} {R:List Row} {ty:TypeId}
theorem YW {g lo c:Nat} (h:lo<c):jD (some ⟨g,0,none⟩) lo c 1=some ⟨g,lo,none⟩:=by
 unfold jD;rw[df G,qg,jy];unfold Addr.add;split<;>simp_all
theorem UM {x y:Operand} {t t2 e:TypeId} {p:AF} {lo dl dc m c m2 c2:Nat} {A A2:AF} {k:IntKind} {l src:AH} (i:Nat) (hi:R[i]? =some ⟨e,1,A,m,c,ints k l,false⟩) (ht:P.underlying t=some (.slice e)) (ff:(P.info? e).map (·.size)=some 1)
  (hx:ev L x=some (.slice p dl dc)) (hy:ev L y=some (.slice A2 m2 c2)) (hp:p=jD A lo c 1) (hdl:dl=m-lo) (v8:lo<m) (jp:RdC B w0 R A2 m2 c2 1 (ints k src)):
  Ac P n B w0 (.call {callee:= .builtin .copy,args:= #[x,y],argTypes:= #[t,t2]}) ty L R (λv R'=>v= .int .i64 ((min m2 (m-lo):Nat):Int)/\R'=R.set i ⟨e,1,A,m,c,ints k (l.take lo++src.take (min m2 (m-lo))++l.drop (lo+min m2 (m-lo))),false⟩):=by
 intro a w o K Q ho Iv hs hw hk;have fc:=Row.lies_w (hw.own _ (gq hi)) rfl;have e9:=jp w hw;have Rb:m2=src.length:=e9.lenI;have hl:m=l.length:=by have:=fc.1;rw[bO] at this;simp only at this;omega
 rcases fc.2 with⟨_,hn⟩|⟨g,cap,cur,hv,hb,hg,hnc,pt,ie,w6⟩
 ·simp only at hn;omega
 simp only[jv,zy] at hv;obtain⟨rfl,rfl⟩:=hv;simp only at w6 ie hnc hg hb;rw[qg] at w6 ie;have cv:p=some ⟨g,lo,none⟩:=by rw[hp];exact YW G
 subst cv;subst hdl;obtain⟨q,hq⟩: ∃q,min m2 (m-lo)=q:=⟨_,rfl⟩;rw[hq] at hk;have Rk:Nat.min m2 (m-lo)=q:=hq;have ki:(ints k (src.take q)).length=q:=by rw[bO,ax];omega
 have hlen:(ints k l).length=m:=by rw[bO];omega
 rcases fe m2 with hz|dy
 ·have io:q=0:=G
  have oa:=run_copy_none (P:=P) w t t2 o.type e (some ⟨g,lo,none⟩) A2 (m-lo) dc m2 c2 ht ff (by rw[hz];exact Nat.zero_min _);unfold Oper.wp execOp;simp only[ho,resolve,invoke,builtin,jl,nu,jo,tq,jq,qo,hs.ev hx,hs.ev hy,oa,Oper.upon];refine hk (.int .i64 ((0:Nat):Int)) w R hw ⟨by rw[io],?_⟩;rw[io];simp only[zg,ji,qf,ik]
  exact(by
   apply uj;intro j;rw[wz];split
   ·rename_i e;subst e;rw[di (gm.1 hi).1,hi]
   ·rfl)
 ·obtain ⟨a2,rfl⟩: ∃a2,A2=some a2:=by
   obtain⟨a2,h,_⟩:=e9.at_ 0 _ (av (by rw[bO];omega));exact⟨a2,h⟩
  have oa:=run_copy_row P w t t2 o.type e g lo (m-lo) dc a2 m2 c2 cur e (ints k (src.take q)) ht ff hg (by rw[ki];exact hq.symm) (λj v hv=>by
   obtain⟨b,h1,h2⟩:=e9.at_ j v (by
    rw[ints,Cg] at hv;rw[pg] at hv;split at hv
    ·exact hv
    ·cases hv)
   obtain rfl:=jd h1
   exact h2) (by rw[ki,ie];omega) (BK k _)
  rw[ki] at oa;unfold Oper.wp execOp;simp only[ho,resolve,invoke,builtin,jl,nu,jo,tq,jq,qo,hs.ev hx,hs.ev hy,oa,Oper.upon];refine hk (.int .i64 (q:Int)) _ _ ?_ ⟨rfl,rfl⟩;refine hw.upd hi (row:=some g) ⟨rfl,rfl,rfl,cD,λj _ hj=>Jy w g j _ (λe=>hj (by simp[e]))⟩ (dn _) (λj hj=>by cases hj;exact⟨_,rfl,rfl⟩) ?_ (λa' nb=> .inl ⟨a',nb,rfl⟩);unfold Row.lies;simp only;refine⟨?_, .inr ⟨g,c,_,rfl,hb,Km w g cur _ e _ hg,hnc,pt,?_,?_⟩⟩
  ·simp only[bO,ai,ax,bn];omega
  ·simp only[qb,ai,ax,bn,jr,bO];omega
  ·simp only[qg];rw[rP,rP]
   have e1:ints k (l.take lo)=cur.toList.take lo:=by
    rw[ints,Cg];show(ints k l).take lo=_;rw[<-w6,List.take_take,zl G]
   have e2:ints k (l.drop (lo+q))=(cur.toList.drop (lo+q)).take (m-(lo+q)):=by
    rw[ints,Ip];show(ints k l).drop (lo+q)=_;rw[<-w6,List.drop_take]
   rw[e1,e2]
   have h1:(cur.toList.take lo++ints k (src.take q)).length=lo+q:=by
    rw[ai,ki,ax,jr];omega
   rw[List.take_append,h1,bi G]
theorem aUp {A:AF} {c:Nat}:A=jD A 0 c 1:=by
 unfold jD;split
 ·rfl
 ·cases A with
  |none=>rfl
  |some a=>simp[Addr.add]
def AJ (v:Int) (p N:Nat):AH:=List.replicate p v++List.replicate (N-p) 0
theorem aKb (v:Int) (N:Nat):AJ v 0 N=List.replicate N 0:=by simp[AJ]
theorem aQd (v:Int) (N:Nat):AJ v N N=List.replicate N v:=by simp[AJ]
theorem PN {v:Int} {p N:Nat}:(AJ v p N).take p=List.replicate p v:=by simp[AJ]
theorem PO {v:Int} {p q N:Nat} {src:AH} (h:p+q<=N) (hs:src=List.replicate q v):(AJ v p N).take p++src++(AJ v p N).drop (p+q)=AJ v (p+q) N:=by
 subst hs;rw[PN];unfold AJ;rw[List.drop_append];simp only[cz,List.drop_replicate,show p-(p+q)=0 by omega,Gj,ig,Em];congr 2;omega
end
end Go.Eng
namespace Go.Proofs.YtdbebmmhdefgdaaGreat
open Go Go.Eng Go.Pure
open Tryz
set_option maxRecDepth 100000
variable {w:World}
theorem aYb {x0:Int} (hv:0<=x0/\x0<18446744073709551616):
  CF 69 #[.int .u64 x0] w (λv R'=> ∃A c,v=sl A ((aU x0).length) c/\R'=[(ru 5 A ((aU x0).length) c (aU x0))]):=by
 refine fn1 Tryz.func69 Z Z Z ?_;have hlen:=dA 9 x0 G;refine wq<|wn Z<|wq<|bR (R1:=[(ru 5 none 0 0 ([]))]) (Sub.refl _) (λ_ h=>h.nil 5 1)<|wn Z<|aD<|aI ?_;refine jK (λ(A1:AF) (n1:Nat) (c1:Nat) (acc:AH) (x:Int)=>[(0, .int .u64 x),(3,sl A1 n1 c1)]) (λA1 n1 c1 acc x=>[(ru 5 A1 n1 c1 acc)]) (λA1 n1 c1 acc x=>(n1=acc.length)/\(0<=x/\x<18446744073709551616)/\(aU x0=acc++aU x)) (λA1 n1 c1 acc x=>x.toNat) ?_ ?_
 ·exact⟨none,0,0,[],x0,⟨(Z),G,(Z)⟩,KP⟩
 intro A1 n1 c1 acc x ⟨dp,Wt,hT⟩;have sm:=bg List.length hT;rw[ai] at sm;refine aD<|wq<|wm Z<|wy (jN Z Z)<|aA<|bA Z (λbc=> ?_) (λbc=> ?_)
 ·refine aH<|aI<|wq<|wm Z<|wm Z<|wy (gU gy dh Z)<|wy (bGg Z Z G)<|wa (bQ .u8 [(x%256)%128+128] ah zs5 Z Z Z) ?_;rintro _ _⟨db,rfl,rfl⟩;refine wa (aY 1 Z ah zb5 Z Z Z (rdr 0 Z)) ?_;rintro _ _⟨fg,fi,rfl,rfl⟩;refine bK (v:=sl fg (n1+1) fi) Z<|wn Z<|aJ<|wm Z<|wy (rF (k:=7) (m:=128) Z Z Z G Z)<|wn Z ?_;exact⟨fg,n1+1,fi,acc++([(x%256)%128+128]),x/128,⟨(by rw[ai,dp];try rfl),G,(aKf hT G G G)⟩,G,SA,λ_ h=>h.sel [1] cC Z⟩
 ·refine aS<|wq<|wm Z<|wm Z<|wy (gU gy dh Z)<|wa (bQ .u8 [x%256] ah zs5 Z Z Z) ?_;rintro _ _⟨fd,rfl,rfl⟩;refine wa (aY 1 Z ah zb5 Z Z Z (rdr 0 Z)) ?_;rintro _ _⟨ft,ee,rfl,rfl⟩;refine bK (v:=sl ft (n1+1) ee) Z<|wn Z<|aX [1] 99 cC Z ?_;refine⟨_,Z,?_⟩;have e:acc++[x%256]=aU x0:=by rw[hT,kC G,qj G G]
  have e2:n1+1=(aU x0).length:=by rw[<-e,ai,dp];rfl
  rw[e,e2];exact⟨_,_,Z,Z⟩
theorem BO {x:Int} (hx:0<=x/\x<4294967296):
  CF 76 #[.int .u32 x] w (λv R'=> ∃A c,v=sl A 4 c/\R'=[(ru 5 A 4 c (fM x))]):=by
 refine fn1 Tryz.func76 Z Z Z ?_;refine wq<|wn Z<|wq<|wa (dM ah zb5 Z Z) ?_;rintro _ _⟨ao,rfl,rfl⟩;refine bK (v:=sl (GG ao) 4 4) Z<|wn Z<|aD<|wq<|wm Z<|wy (aO ah Z)<|wm Z<|aA<|aI<|oJ 5<|dZ<|wq ?_;refine wy (Yl.t (fO Z Z) cC)<|aA<|aD<|dI Z<|aH<|aD<|aI<|wq<|wm Z<|wn Z<|aJ<|wm Z<|wm Z ?_;refine wm Z<|wm Z<|wy (Yl.is (iW Z Z) Z)<|wy (RS (k:=0) (m:=1) Z Z Z G Z)<|wy (gU wu dh Z)<|wy (aG ah sz5 Z Z (rdr 0 Z))<|bY (bG 0 Z sz5 Z Z) ?_;rintro _ _ rfl;refine aA<|aJ<|wy (Yl.is (dK Z Z) Z)<|wm Z<|aA<|dZ<|wq<|wy (Yl.t (fO Z Z) cC)<|aA<|aD<|dI Z<|aH<|aD<|aI ?_;refine wq<|wm Z<|wn Z<|aJ<|wm Z<|wm Z<|wm Z<|wm Z<|wy (Yl.is (iW Z Z) Z)<|wy (RS (k:=8) (m:=256) Z Z Z G Z)<|wy (gU wu dh Z)<|wy (aG ah sz5 Z Z (rdr 0 Z))<|bY (bG 0 Z sz5 Z Z) ?_;rintro _ _ rfl;refine aA<|aJ<|wy (Yl.is (dK Z Z) Z)<|wm Z<|aA<|dZ<|wq<|wy (Yl.t (fO Z Z) cC)<|aA<|aD<|dI Z<|aH<|aD<|aI ?_;refine wq<|wm Z<|wn Z<|aJ<|wm Z<|wm Z<|wm Z<|wm Z<|wy (Yl.is (iW Z Z) Z)<|wy (RS (k:=16) (m:=65536) Z Z Z G Z)<|wy (gU wu dh Z)<|wy (aG ah sz5 Z Z (rdr 0 Z))<|bY (bG 0 Z sz5 Z Z) ?_;rintro _ _ rfl;refine aA<|aJ<|wy (Yl.is (dK Z Z) Z)<|wm Z<|aA<|dZ<|wq<|wy (Yl.t (fO Z Z) cC)<|aA<|aD<|dI Z<|aH<|aD<|aI ?_;refine wq<|wm Z<|wn Z<|aJ<|wm Z<|wm Z<|wm Z<|wm Z<|wy (Yl.is (iW Z Z) Z)<|wy (RS (k:=24) (m:=16777216) Z Z Z G Z)<|wy (gU wu dh Z)<|wy (aG ah sz5 Z Z (rdr 0 Z))<|bY (bG 0 Z sz5 Z Z) ?_;rintro _ _ rfl;refine aA<|aJ<|wy (Yl.is (dK Z Z) Z)<|wm Z<|aA<|dZ<|wq<|wy (Yl.f (fO Z Z) cC)<|aA<|aD<|aN Z<|aS<|wq ?_;refine wm Z<|wn Z<|aX [0] 99 cC Z ?_;exact⟨_,Z,_,_,Z,Z⟩
theorem gH {n:Int} (hv:0<=n/\n<9223372036854775808):
  CF 37 #[I n] w (λv R'=> ∃A c,v=sl A ((aU n).length) c/\R'=[(ru 5 A ((aU n).length) c (aU n))]):=by
 refine fn1 Tryz.func37 Z Z Z ?_;refine wq<|wn Z<|wq<|wm Z<|wy (jI au gy Z)<|wa (aC bKt Z (Ct.fresh (λw hw=>aYb G))) ?_;rintro _ _⟨_,rfl,cr,co,rfl,rfl⟩;refine wn Z<|aX [0] 99 cC Z ?_;exact⟨_,Z,_,_,Z,Z⟩
end Go.Proofs.YtdbebmmhdefgdaaGreat
namespace Go.Pure
open Go Go.Eng
variable {v:Int} {b:AH} {k:Nat}
def iJ:AH->Int
 |[]=>0
 |d::l=>d%128+128*iJ l
theorem vB: ∀l:AH,0<=iJ l
 |[]=>lq _
 |d::l=>by have:=vB l;rw[iJ];omega
def aAh:AH->Prop
 |[]=>False
 |d::l=>(l=[]/\0<=d/\d<128)\/(128<=d/\d<256/\aAh l/\0<iJ l)
theorem SC: ∀(k:Nat) (v:Int),v.toNat<=k->0<=v->iJ (aU v)=v/\aAh (aU v)
 |0,v,h,h0=>by
  rw[kC G];exact⟨by rw[iJ,iJ];omega, .inl ⟨rfl,G,G⟩⟩
 | k+1,v,h,h0=>by
  by_cases z:v<128
  ·rw [kC z];exact⟨by rw[iJ,iJ];omega, .inl ⟨rfl,G,G⟩⟩
  ·rw [sK G];obtain⟨h1,h2⟩:=SC k (v/128) G G;exact⟨by rw[iJ,h1];omega, .inr ⟨G,G,h2,by rw[h1];omega⟩⟩
theorem IU (h:0<=v):iJ (aU v)=v:=(SC _ v (dn _) h).1
theorem TA (h:0<=v):aAh (aU v):=(SC _ v (dn _) h).2
theorem aGb: ∀l:AH,aAh l->aU (iJ l)=l
 |[],h=>h.elim
 | d::l,h=>by
  rcases h with⟨rfl,h0,h1⟩|⟨h0,h1,h2,h3⟩
  ·rw [iJ,iJ,kC G];congr 1;omega
  ·rw [iJ,sK G];have e1:(d%128+128*iJ l)%128+128=d:=G
   have e2:(d%128+128*iJ l)/128=iJ l:=G
   rw[e1,e2,aGb l h2]
theorem aHg: ∀l m s t:AH,aAh l->aAh m->l++s=m++t->l=m
 |[],_,_,_,h,_,_=>h.elim
 |_::_,[],_,_,_,h,_=>h.elim
 |d::l,e::m,s,t,h,g,q=>by
  rw[ja,ja] at q;obtain⟨rfl,q2⟩:=List.cons.inj q;rcases h with⟨rfl,h0,h1⟩|⟨h0,h1,h2,h3⟩<;>rcases g with⟨rfl,g0,g1⟩|⟨g0,g1,g2,g3⟩
  ·rfl
  ·omega
  ·omega
  ·rw[aHg l m s t h2 g2 q2]
def uT (b:AH) (v:Int) (k:Nat):Prop:=(0<=v/\v<18446744073709551616)/\k=(aU v).length/\ ∃t,b=aU v++t
theorem uT.one {w:Int} {m:Nat} (h:uT b v k) (g:uT b w m):v=w/\k=m:=by
 obtain⟨h1,rfl,s,hs⟩:=h;obtain⟨g1,rfl,t,ht⟩:=g;have e:=aHg _ _ s t (TA h1.1) (TA g1.1) (hs.symm.trans ht);have e2:=bg iJ e;rw[IU h1.1,IU g1.1] at e2;subst e2;exact⟨rfl,rfl⟩
theorem uT.drop (h:uT b v k):b=aU v++b.drop k:=by
 obtain⟨_,rfl,t,rfl⟩:=h;rw[Gx]
theorem uT.of (h:0<=v/\v<18446744073709551616) (t:AH):uT (aU v++t) v (aU v).length:=⟨h,rfl,t,rfl⟩
def iP (b:AH):Int:=if b.findIdx (λx=>decide (x<128))<b.length then(b.findIdx (λx=>decide (x<128)):Nat) else -1
theorem aZq {i:Int} (i0:0<=i) (hi:i<b.length) (h:rd b i<128) (hn: ∀j:Int,0<=j->j<i-> ¬rd b j<128):iP b=i:=by
 have e:b.findIdx (λx=>decide (x<128))=i.toNat:=by
  rw[List.findIdx_eq G];refine⟨by rw[fB i0 hi] at h;simpa using h,λj hj=> ?_⟩;have:=hn j G G;rw[fB G G] at this;simpa using this
 unfold iP;rw[e,di G];omega
theorem aMe (hn: ∀j:Int,0<=j->j<b.length-> ¬rd b j<128):iP b= -1:=by
 unfold iP;rw[df];intro h;have hp:=Fq (w:=h);have:=hn (b.findIdx λx=>decide (x<128):Nat) G G;rw[fB G G] at this;simp only[bq] at this;simp only[zw] at hp;exact this hp
variable {b:AH} {d V:Int} {e:Nat}
theorem aTo: ∀(e:Nat) (b:AH),aL b->e<b.length->(∀j:Nat,j<e->128<=rd b j)->rd b (e:Int)<128->(e=0\/rd b (e:Int)≠0)->aAh (b.take (e+1))/\(rd b (e:Int)≠0->0<iJ (b.take (e+1)))
 |0,d::b,hb,h,_,h1,_=>by
  have hd:=hb d cD;have e0:rd (d::b) ((0:Nat):Int)=d:=rfl;rw[e0] at h1 ⊢;refine⟨.inl ⟨rfl,hd.1,h1⟩,λcg=> ?_⟩;show 0<d%128+128*iJ [];rw[iJ];omega
 | e+1,d::b,hb,h,hn,h1,h2=>by
  have hd:=hb d cD;have Fk:128<=d:=hn 0 G
  have er: ∀j:Nat,rd (d::b) ((j+1:Nat):Int)=rd b (j:Int):=λj=>by
   unfold rd;rw[show((j+1:Nat):Int).toNat=j+1 by omega,bq];rfl
  rw[er] at h1 h2 ⊢;have hz:rd b (e:Int)≠0:=h2.resolve_left G;have ih:=aTo e b (λx hx=>hb x (fw _ hx)) (by rw[dm] at h;omega) (λj hj=>by have:=hn (j+1) G;rwa[er] at this) h1 (.inr hz);refine⟨.inr ⟨Fk,hd.2,ih.1,ih.2 hz⟩,λ_=> ?_⟩;show 0<d%128+128*iJ (b.take (e+1));have:=ih.2 hz;omega
 |0,[],_,h,_,_,_=>by simp at h
 |_+1,[],_,h,_,_,_=>by simp at h
theorem IR: ∀(e:Nat) (b:AH),aL b->e<b.length->rd b (e:Int)<128->rd b (e:Int)*128^e<=iJ (b.take (e+1))/\iJ (b.take (e+1))<(rd b (e:Int)+1)*128^e
 |0,d::b,hb,h,h1=>by
  have hd:=hb d cD;have e0:rd (d::b) ((0:Nat):Int)=d:=rfl;rw[e0] at h1 ⊢;show d*128^0<=d%128+128*iJ []/\d%128+128*iJ []<(d+1)*128^0;rw[iJ,ww];omega
 | e+1,d::b,hb,h,h1=>by
  have er:rd (d::b) ((e+1:Nat):Int)=rd b (e:Int):=by
   unfold rd;rw[show((e+1:Nat):Int).toNat=e+1 by omega,bq];rfl
  rw[er] at h1 ⊢;have ih:=IR e b (λx hx=>hb x (fw _ hx)) (by rw[dm] at h;omega) h1;show rd b (e:Int)*128^(e+1)<=d%128+128*iJ (b.take (e+1))/\d%128+128*iJ (b.take (e+1))<(rd b (e:Int)+1)*128^(e+1);rw[xx,<-um,<-um];omega
 |0,[],_,h,_=>by simp at h
 |_+1,[],_,h,_=>by simp at h
theorem yZ (h:0<=iP b):iP b<b.length/\rd b (iP b)<128/\ ∀j:Int,0<=j->j<iP b-> ¬rd b j<128:=by
 have bo:b.findIdx (λx=>decide (x<128))<b.length:=by
  unfold iP at h;split at h
  ·assumption
  ·omega
 have e:iP b=(b.findIdx (λx=>decide (x<128)):Nat):=by unfold iP;rw[di bo]
 have hp:=Fq (w:=bo);refine⟨G,?_,λj j0 hj=> ?_⟩
 ·rw [e,fB G G];simpa using hp
 ·have:=List.not_of_lt_findIdx (xs:=b) (p:=λx=>decide (x<128)) (i:=j.toNat) G;rw[fB j0 G];simpa using this
theorem aNn: ∀n:Fin 256,n.val<2^Lib.bitLen n.val/\(n.val≠0->2^(Lib.bitLen n.val-1)<=n.val/\1<=Lib.bitLen n.val)/\(n.val=0->Lib.bitLen n.val=0):=by decide+kernel
theorem aIf (h0:0<=d) (h1:d<256):d+1<=(2:Int)^Lib.bitLen d.toNat/\(d≠0->(2:Int)^(Lib.bitLen d.toNat-1)<=d/\1<=Lib.bitLen d.toNat)/\(d=0->Lib.bitLen d.toNat=0):=by
 obtain⟨a,b,c⟩:=aNn ⟨d.toNat,G⟩;have e: ∀k:Nat,(2:Int)^k=((2^k:Nat):Int):=λk=>by norm_cast
 refine⟨by rw[e];simp only at a;omega,λh=> ?_,λh=>c (by simp only;omega)⟩;have:=b (by simp only;omega);rw[e];simp only at this;omega
theorem aYe (e:Nat):(128:Int)^e=2^(7*e):=by
 rw[Int.pow_mul];rfl
theorem aTb (h0:0<=d) (h1:d<256) (hV:V<(d+1)*128^e) (h:7*e+Lib.bitLen d.toNat<=64):V<18446744073709551616:=by
 have hb:=(aIf h0 h1).1;have hp:(0:Int)<=128^e:=uz G;have h2:(d+1)*128^e<=2^Lib.bitLen d.toNat*128^e:=og hb hp;rw[aYe,<-zo] at h2
 have h3:(2:Int)^(Lib.bitLen d.toNat+7*e)<=2^64:=by
  have:(2:Nat)^(Lib.bitLen d.toNat+7*e)<=2^64:=Fy G G
  exact_mod_cast this
 rw[aYe] at hV;have:(2:Int)^64=18446744073709551616:=rfl;omega
theorem aZi (h0:0<=d) (h1:d<256) (he:e<=9) (hV:d*128^e<=V) (h:64<7*e+Lib.bitLen d.toNat):18446744073709551616<=V:=by
 obtain⟨_,hb,hz⟩:=aIf h0 h1;have hd:d≠0:=λc=>by have:=hz c;omega
 obtain⟨h2,h3⟩:=hb hd;have hp:(0:Int)<=128^e:=uz G;have h4:2^(Lib.bitLen d.toNat-1)*128^e<=d*128^e:=og h2 hp;rw[aYe,<-zo] at h4
 have h5:(2:Int)^64<=2^(Lib.bitLen d.toNat-1+7*e):=by
  have:(2:Nat)^64<=2^(Lib.bitLen d.toNat-1+7*e):=Fy G G
  exact_mod_cast this
 rw[aYe] at hV;have:(2:Int)^64=18446744073709551616:=rfl;omega
theorem aZh (hb:aL b) (he:iP b=(e:Int)) (h0:e=0\/rd b (e:Int)≠0) (h7:7*e+Lib.bitLen (rd b (e:Int)).toNat<=64):uT b (iJ (b.take (e+1))) (e+1):=by
 obtain⟨f1,f2,f3⟩:=yZ (b:=b) G;rw[he] at f1 f2 f3;have hd:=hb.rd (e:Int);have h1:=(aTo e b hb G (λj hj=>by have:=f3 j G G;omega) f2 h0).1;have h2:=IR e b hb G f2;have h3:=aGb _ h1;refine⟨⟨vB _,aTb hd.1 hd.2 h2.2 h7⟩,?_,b.drop (e+1),?_⟩
 ·rw[h3,ax];omega
 ·rw[h3,ik]
theorem aHh: ∀l t:AH,aAh l->(l++t).findIdx (λx=>decide (x<128))=l.length-1/\0<l.length/\(l.length=1\/rd (l++t) ((l.length-1:Nat):Int)≠0)
 |[],_,h=>h.elim
 | d ::l,t,h=>by
  rcases h with⟨rfl,h0,h1⟩|⟨h0,h1,h2,h3⟩
  ·refine ⟨?_,cD, .inl rfl⟩;rw[ja,List.findIdx_cons,show decide (d<128)=true from ko h1];rfl
  ·obtain ⟨i1,i2,i3⟩:=aHh l t h2;refine⟨?_,cD, .inr ?_⟩
   ·rw [ja,List.findIdx_cons,show decide (d<128)=false from ol G,i1];simp only[dm,cond_false];omega
   ·have er:rd (d::(l++t)) (((l.length-1)+1:Nat):Int)=rd (l++t) ((l.length-1:Nat):Int):=by
     unfold rd;rw[show(((l.length-1)+1:Nat):Int).toNat=(l.length-1)+1 by omega,bq];rfl
    rw[ja,dm,show l.length+1-1=(l.length-1)+1 by omega,er];rcases i3 with i3|i3
    ·intro hz
     match l,i3,h2,h3,hz with
     |[x],_,h2,h3,hz=>
      rw[iJ,iJ] at h3;have:x=0:=hz;omega
    ·exact i3
theorem aTa (hb:aL b) (h:iP b<0\/9<iP b\/(0<iP b/\rd b (iP b)=0)\/64<7*(iP b).toNat+Lib.bitLen (rd b (iP b)).toNat): ¬ ∃v k,uT b v k:=by
 rintro⟨v,k,⟨Wt,Uw⟩,rfl,t,ht⟩;have hE:=TA Wt;obtain⟨i1,i2,i3⟩:=aHh _ t hE;rw[<-ht] at i1 i3;have hlen:(aU v).length<=b.length:=by rw[ht,ai];omega
 have he:iP b=(((aU v).length-1:Nat):Int):=by
  unfold iP;rw[i1,di G]
 have h10:=dA 9 v G;rw[he] at h;rcases h with h|h|⟨h,hz⟩|h
 ·omega
 ·omega
 ·rcases i3 with i3|i3
  ·omega
  ·exact i3 hz
 ·obtain ⟨f1,f2,_⟩:=yZ (b:=b) G;rw[he] at f1 f2;have hd:=hb.rd (((aU v).length-1:Nat):Int);have h2:=IR ((aU v).length-1) b hb G f2
  have e1:b.take ((aU v).length-1+1)=aU v:=by
   rw[show(aU v).length-1+1=(aU v).length by omega]
   conv=>lhs;rw[ht]
   exact Dv
  rw[e1,IU Wt] at h2;rw[bq] at h;have:=aZi hd.1 hd.2 G h2.1 h;omega
theorem UZ: ∀(l:AH) (d:Int),iJ (l++[d])=d%128*2^(7*l.length)+iJ l
 |[],d=>by simp[iJ]
 |x::l,d=>by
  rw[ja,iJ,iJ,UZ l d,dm,show 7*(l.length+1)=7*l.length+7 by omega,zo,<-um];rw[show(2:Int)^7=128 by rfl];omega
theorem zL {q:Nat} (h:q<b.length):iJ (b.take (q+1))=rd b (q:Int)%128*2^(7*q)+iJ (b.take q):=by
 have e:=dF (j:=(q:Int)) (show(0:Int)<=q by omega) (show(q:Int)<b.length by omega);rw[show((q:Int)+1).toNat=q+1 by omega,bq] at e;rw[e,UZ,ax,zl G]
theorem VB {b:AH}: ∀q:Nat,q<=b.length->iJ (b.take q)<2^(7*q)
 |0,_=>by simp[iJ]
 |q+1,h=>by
  have ih:=VB (b:=b) q G;rw[zL G,show 7*(q+1)=7*q+7 by omega,zo];have hp:(0:Int)<2^(7*q):=Fp G;have h1:rd b (q:Int)%128*2^(7*q)<=127*2^(7*q):=og G G;rw[show(2:Int)^7=128 by rfl];omega
theorem VA {b:AH} {q:Nat}: ∀e:Nat,q<=e->e<=b.length->iJ (b.take q)<=iJ (b.take e)
 |0,h,_=>by rw[show q=0 by omega];exact lq _
 | e+1,h,hl=>by
  rcases gu e q with c|c
  ·rw[show q=e+1 by omega];exact lq _
  ·have ih:=VA (b:=b) (q:=q) e c G;have hp:(0:Int)<2^(7*e):=Fp G;have h1:0<=rd b (e:Int)%128*2^(7*e):=Ab G G;rw[zL G];omega
end Go.Pure
namespace Go.Eng
open Go Go.RowKit Go.Pure
section
variable {P:Program} {n:Nd} {B:Nat} {w0:World} {L:Env} {R:List Row} {ty:TypeId}
theorem aVw: ∀n:Fin 256,(BitVec.ofInt 8 (n.val:Int) &&& ~~~ BitVec.ofInt 8 128).toNat=n.val%128:=by decide+kernel
theorem WG (p:Int) (h:0<=p/\p<256) (w:World):(Op.intBits .andNot .u8 p 128).run P w= .ok (.int .u8 (p%128)) w:=by
 have e:=aVw ⟨p.toNat,G⟩;simp only at e;rw[show((p.toNat:Nat):Int)=p by omega] at e;show Result.ok (Value.int .u8 (IntKind.u8.wrap ((BitVec.ofInt 8 p &&& ~~~ BitVec.ofInt 8 128).toNat:Int))) w=_;rw[e,tQ G G];rw[show((p.toNat%128:Nat):Int)=p%128 by omega]
theorem aIq {x y:Operand} {t u:TypeId} {p:Int} (hx:ev L x=some (.int .u8 p)) (hy:ev L y=some (.int .u8 128)) (h:0<=p/\p<256):Yl P n B w0 (.binOp .andNot t x y u) ty L R (.int .u8 (p%128)):=by
 intro a w o ho _ hs _;simp[execOp,ho,binOp,eqGuard,hs.ev hx,hs.ev hy,WG p h]
theorem bGf {x y:Operand} {t u:TypeId} {p q m:Int} (k:Nat) (hx:ev L x=some (.int .u64 q)) (hy:ev L y=some (.int .u64 (p*m))) (hm:(2:Int)^k=m) (h:0<=p/\p*m+q<18446744073709551616) (hq:0<=q/\q<m):Yl P n B w0 (.binOp .or t x y u) ty L R (.int .u64 (p*m+q)):=by
 intro a w o ho _ hs _;have e:=aFo (P:=P) p q k m hm h hq w
 have e2:(Op.intBits .or .u64 q (p*m)).run P w= .ok (.int .u64 (p*m+q)) w:=by
  have c:Op.intBits .or .u64 q (p*m)=Op.intBits .or .u64 (p*m) q:=by
   unfold Op.intBits;simp only[BitVec.or_comm]
  rw[c,e]
 simp[execOp,ho,binOp,eqGuard,hs.ev hx,hs.ev hy,e2]
end
end Go.Eng
namespace Go.Proofs
open Go.Shelf
def Tryz.lays126_ren:Go.Shelf.Ren:=⟨λ|126=>271|n=>n,λ|5=>5|3=>3|9=>9|n=>n,λ|n=>n⟩
theorem Tryz.lays126:Go.Proofs.Lays.n126 Tryz.prog Tryz.lays126_ren:= {
 mixed:=cA
 f126:=Tryz.func271.trans (bg some cA)
 t3:=Af
 a3:=Ga
 z3:=Ec
 v3:=Ba
 t5:=Bv
 a5:=Il
 z5:=Gu
 v5:=Cs
 t9:=Bw
 a9:=Im
 z9:=Gv
 v9:=Cu}
theorem Tryz.bits_Len8 (x:Int) (w:World) (h0:0<=x) (h1:x<=255):
  Calls Tryz.prog 271 #[.int .u8 x] w λe w'=>e= .returned (.int .i64 (Lib.bitLen x.toNat))/\w'=w:=Any.bits_Len8 Tryz.lays126 x w h0 h1
end Go.Proofs
namespace Go.Proofs.YtdbebmmhdefgdaaGreat
open Go Go.Eng Go.Pure
open Tryz
set_option maxRecDepth 100000
variable {w:World} {jx:AF} {pm jz:Nat} {b:AH}
theorem aJm {c:Int}:
  CF 270 #[.int .u8 c] w (λv R'=>v= .bool (decide (c<128))):=by
 refine fn1 Tryz.func270 Z Z Z ?_;refine wq<|wn Z<|wq<|wm Z<|wL Z Z<|wn Z<|bT ?_;refine⟨_,Z,?_⟩;rfl
theorem aTp {w:World} (gv:Rd w jx pm jz 1 (ints .u8 b)) (dd:aL b) (hN:b.length<=1000000):
  CF 269 #[sl jx pm jz, .func (.func 270) #[] #[]] w (λv R'=>v=I (iP b)):=by
 obtain rfl:=gv.lenI;refine fn1 Tryz.func269 Z Z Z ?_;have Kz:=gv.max;refine wq<|wn Z<|aD<|wq<|wm Z<|wy (aO ah Z)<|wm Z<|aA<|aI ?_;refine lF (λ(i:Int)=>[(0,sl jx b.length jz),(1, .func (.func 270) #[] #[]),(7,I (b.length:Int)),(8,I i)]) (λi=>[]) (λi=>(0<=i)/\(i<=b.length)/\(∀j:Int,0<=j->j<i-> ¬rd b j<128)) (λi=>(b.length-i).toNat) ?_ ?_
 ·exact⟨0,⟨G,G,(λj h1 h2=>G)⟩,KP⟩
 intro i ⟨bb,ij,hn⟩;refine wq<|wL Z Z<|aA<|aD<|bA Z (λbc=> ?_) (λbc=> ?_)
 ·have un:=dd.rd i;refine aH<|aD<|aI<|wq<|wm Z<|wn Z<|wq<|wm Z<|wm Z<|wm Z<|wy (aG ah sz5 Z Z (gv.c _))<|wy (aW dh Z Z (gv.c _)) ?_;refine wa (zC bIe Z Z (Ct.quiet (λw hw=>aJm))) ?_;rintro _ _⟨rfl,rfl⟩;refine aA<|bA Z (λda=> ?_) (λda=> ?_)
  ·refine wq<|wm Z<|wn Z<|bT ?_;refine⟨_,Z,?_⟩;exact bg (Value.int .i64) (aZq bb G cF hn).symm
  ·refine aH<|aJ<|wA Z Z<|wm Z<|aA ?_
   exact⟨i+1,⟨G,G,(λj h1 h2=>by
     rcases bu j i with h|h
     ·exact hn j h1 h
     ·obtain rfl:j=i:=G
      assumption)⟩,G,KP⟩
 ·refine aS<|wq<|wn Z<|bT ?_;refine⟨_,Z,?_⟩;exact bg (Value.int .i64) (aMe λj h1 h2=>hn j h1 G).symm
theorem bAc {x:Int} (h:0<=x/\x<256):CF 271 #[.int .u8 x] w (λv R'=>v=I ((Lib.bitLen x.toNat:Nat):Int)):=λw' Oi=>(Tryz.bits_Len8 x w' h.1 G).mono (by rintro e Ql ⟨he,rfl⟩;exact⟨_,[],he,Oi,rfl⟩)
theorem aZj (gv:Rd w jx pm jz 1 (ints .u8 b)) (dd:aL b) (hN:b.length<=1000000):
  CF 227 #[sl jx pm jz] w (λv R'=>(∃(V:Int) (k:Nat),uT b V k/\v= .tuple #[.int .u64 V,I (k:Int),bt])\/((¬ ∃V k,uT b V k)/\v= .tuple #[.int .u64 0,I 0,bf])):=by
 obtain rfl:=gv.lenI;refine fn3 Tryz.func227 Z Z Z ?_;have Kz:=gv.max;refine wq<|wg Z<|wg Z<|wn Z<|wq<|wm Z<|wa (aC bIf Z (Ct.quiet (λw hw=>aTp ((gv.c _) w hw) dd hN))) ?_;rintro _ _⟨rfl,rfl⟩;refine wn Z<|aD<|wq<|wm Z<|wL Z Z<|wm Z<|dD 3 [(0,sl jx b.length jz),(2, .int .u64 0),(5,I (iP b)),(15, .bool (decide (((iP b)<0)\/(9<(iP b)))))] [] ?_ ?_
 ·refine bP 12 Z (λbc=> ?_) (λbc=> ?_)
  ·refine aM Z Z Z Z<|aM Z Z Z Z<|wy (aQ Z Z)<|aA ?_;exact KP
  ·refine aB Z Z<|wm Z<|aB Z Z<|wy (dN Z Z)<|wy (aP Z Z)<|aA ?_;exact KP
 refine aA<|bA Z (λda=> ?_) (λda=> ?_)
 ·refine wq<|wg Z<|wg Z<|wn Z<|bT ?_;refine⟨_,_,_,Z,Z,Z,?_⟩;exact .inr ⟨aTa dd G,Z⟩
 ·obtain ⟨e,he⟩: ∃e:Nat,iP b=(e:Int):=⟨(iP b).toNat,G⟩;have hef:=yZ (b:=b) G;have No:=dd.rd (iP b);have b5:Lib.bitLen (rd b (iP b)).toNat<=8:=Lib.bitLen_le8 ⟨(rd b (iP b)).toNat,G⟩;refine aH<|aD<|wq<|wm Z<|wy (dN Z Z)<|wm Z<|dD 6 [(0,sl jx b.length jz),(2, .int .u64 0),(5,I (iP b)),(24, .bool (decide ((0<(iP b))/\((rd b (iP b))=0))))] [] ?_ ?_
  ·refine bP 18 Z (λfk=> ?_) (λfk=> ?_)
   ·refine aB Z Z<|wm Z<|aB Z Z<|wm Z<|aB Z Z<|wy (aG ah sz5 Z Z (gv.c _))<|aB Z Z<|wy (aW dh Z Z (gv.c _))<|aB Z Z<|wy (gT Z Z)<|wy (aQ Z Z)<|aA ?_;exact KP
   ·refine aM Z Z Z Z<|aM Z Z Z Z<|aM Z Z Z Z<|aM Z Z Z Z<|aM Z Z Z Z<|wy (aP Z Z)<|aA ?_;exact KP
  refine wm Z<|dD 10 [(0,sl jx b.length jz),(2, .int .u64 0),(5,I (iP b)),(35, .bool (decide (((0<(iP b))/\((rd b (iP b))=0))\/(64<((7*(iP b))+((Lib.bitLen (rd b (iP b)).toNat:Nat):Int))))))] [] ?_ ?_
  ·refine bP 25 Z (λiu=> ?_) (λiu=> ?_)
   ·refine aM Z Z Z Z<|aM Z Z Z Z<|aM Z Z Z Z<|aM Z Z Z Z<|aM Z Z Z Z<|aM Z Z Z Z<|aM Z Z Z Z<|aM Z Z Z Z<|aM Z Z Z Z<|wy (aQ Z Z)<|aA ?_;exact KP
   ·refine aB Z Z<|wm Z<|aB Z Z<|wy (iW Z Z)<|aB Z Z<|wm Z<|aB Z Z<|wm Z<|aB Z Z<|wy (aG ah sz5 Z Z (gv.c _))<|aB Z Z<|wy (aW dh Z Z (gv.c _))<|aB Z Z<|wa (aC bId Z (Ct.quiet (λw hw=>bAc (dd.rd _)))) ?_;rintro _ _⟨rfl,rfl⟩;refine aB Z Z<|wA Z Z<|aB Z Z<|wy (dN Z Z)<|wy (aP Z Z)<|aA ?_;exact KP
  refine aA<|bA Z (λkt=> ?_) (λkt=> ?_)
  ·refine wq<|wg Z<|wg Z<|wn Z<|bT ?_;refine⟨_,_,_,Z,Z,Z,?_⟩;exact .inr ⟨aTa dd (by first|exact .inr (.inr (kt.imp id λh=>G))|omega),Z⟩
  ·have b7:uT b (iJ (b.take (e+1))) (e+1):=by
    rw[he] at kt;refine aZh dd he ?_ G;rcases fe e with z|z
    ·exact .inl z
    ·exact .inr λc=>kt (.inl ⟨G,c⟩)
   refine aH<|aD<|wq<|wm Z<|wm Z<|wA Z Z<|wy (gK ah sz5 Z Z (gv.c _))<|wy (aO ah Z)<|wm Z<|aA<|aI ?_;refine dS (λ(q:Nat) (x:Int)=>[(2, .int .u64 x),(5,I (iP b)),(39,sl jx (((iP b)+1).toNat) jz),(40,I ((((iP b)+1).toNat:Nat):Int)),(41,I (q:Int))]) (λq x=>[]) (λq x=>(q<=e+1)/\(x=iJ (b.take q))) (λq x=>(e+1-q)) ?_ ?_
   ·exact⟨0,0,⟨G,(Z)⟩,KP⟩
   intro q x ⟨hq,hx⟩;refine wq<|wL Z Z<|aA<|aD<|bA Z (λxr=> ?_) (λxr=> ?_)
   ·have hbq:=dd.rd (q:Int);have s5:rd ((b).take ((iP b)+1).toNat) (q:Int)=rd b (q:Int):=SV G G;have hstp:=zL (b:=b) (q:=q) G;have hmn:=VA (b:=b) (q:=q+1) (e+1) G G;have hvb:=b7.1.2;have hx0:=vB (b.take q);have My:x<2^(7*q):=by rw[hx];exact VB q G
    have Px:0<=rd b (q:Int)%128*2^(7*q):=Ab G (uz G);have Uu:0<=rd b (q:Int)%128*2^(7*q)/\rd b (q:Int)%128*2^(7*q)<18446744073709551616:=⟨Px,G⟩;refine aH<|aD<|aI<|wq<|wm Z<|wy (aG ah sz5 Z Z (RdC.toI (h:=((iP b)+1).toNat) (gv.c _) G))<|wy (aW dh Z Z (RdC.toI (h:=((iP b)+1).toNat) (gv.c _) G))<|wg Z<|wn Z<|aJ<|wm Z<|wm Z<|wy (aIq Z Z (by rw[s5];exact hbq)) ?_;refine wy (jI dh gy Z)<|wm Z<|wy (Yl.is (iW Z Z) (show Value.int .i64 (7*(q:Int))=Value.int .i64 ((7*q:Nat):Int) by simp))<|wy (yH (k:=7*q) (m:=2^(7*q)) rfl rfl rfl (by rw[s5];exact Uu) (Nat.ble_eq_true_of_le G)) ?_;refine wy (bGf (p:=(rd ((b).take ((iP b)+1).toNat) (q:Int))%128) (m:=2^(7*q)) (7*q) Z Z Z (by rw[s5];exact⟨G,G⟩) ⟨G,My⟩) ?_;refine wn Z<|aJ<|wA Z Z<|wm Z<|aA ?_;exact⟨(q+1),(rd ((b).take ((iP b)+1).toNat) (q:Int))%128*2^(7*q)+x,⟨G,(by rw[s5,zL G,<-hx])⟩,G,KP⟩
   ·refine aS<|wq<|wm Z<|wm Z<|wA Z Z<|wg Z<|wg Z<|wn Z<|bT ?_;refine⟨_,_,_,Z,Z,Z,?_⟩;have eq:q=e+1:=G
    subst eq;subst hx;exact .inl ⟨_,e+1,b7,by rw[he];rfl⟩
theorem IZ {w:World} {an:AF} {ar am:Nat} {u:AH} {i:Int} (al:Rd w an ar am 1 (ints .u8 u)) (hi:0<=i/\i<=u.length) (hN:u.length<=1000000):
  CF 93 #[sl an ar am,I i] w (λv R'=> ∃A c,v=sl A (u.drop i.toNat++u.take i.toNat).length c/\R'=[(ru 5 A ((u.drop i.toNat++u.take i.toNat).length) c (u.drop i.toNat++u.take i.toNat))]):=by
 obtain rfl:=al.lenI;refine fn1 Tryz.func93 Z Z Z ?_;have mv:=al.max;refine wq<|wn Z<|aD<|bL mixed<|wD 1 Z (aK Z)<|wD 2 Z (aK Z)<|wD 3 Z (fJ ah sz5 Z Z)<|wD 5 Z (aK Z)<|wD 6 Z (aK Z)<|wD 7 Z (gK ah sz5 Z Z (al.c _))<|wC 0 Z (bQ .u8 [] ah zs5 Z Z Z) ?_;rintro _ _⟨db,rfl,rfl⟩;refine⟨.inr hrZ,?_⟩;refine wC 4 Z (aY 0 Z ah zb5 Z Z Z (RdC.fromI (al.c _) G)) ?_;rintro _ _⟨fg,fi,rfl,rfl⟩;refine⟨.inl cA,?_⟩;refine jS (v:=sl fg (0+(u.length-(i).toNat)) fi) Z<|wC 8 Z (aY 0 Z ah zb5 Z Z Z (RdC.toI (al.c _) G)) ?_;rintro _ _⟨fz,mj,rfl,rfl⟩;refine⟨.inl cA,?_⟩;refine jS (v:=sl fz ((0+(u.length-(i).toNat))+((i).toNat)) mj) Z<|wD 9 Z (bB Z)<|wN<|aX [0] 99 cC Z ?_;refine⟨_,Z,?_⟩;have e:(0+(u.length-i.toNat)+i.toNat)=(u.drop i.toNat++u.take i.toNat).length:=by rw[ai,bn,ax];omega
 simp only[ig,e];exact⟨_,_,Z,Z⟩
end Go.Proofs.YtdbebmmhdefgdaaGreat
namespace Go.Pure
open Go Go.Eng
theorem QX: ∀ {a b:AH},a.length=b.length->(cmpL a b<0↔ ∃d,d<a.length/\(∀e,e<d->lt a e=lt b e)/\lt a d<lt b d)
 |[],[],_=>by simp[cmpL]
 | x::a,y::b,h=>by
  have ih:=QX (a:=a) (b:=b) (by simpa using h);rw[cmpL];rcases je x y with c|c|c
  ·rw [di c];exact⟨λ_=>⟨0,cD,λe he=>G,c⟩,λ_=>G⟩
  ·subst c;rw[df G,df G,ih];constructor
   ·rintro ⟨d,h1,h2,h3⟩;refine⟨d+1,by simpa using h1,λe he=> ?_,h3⟩;cases e with
    |zero=>rfl
    |succ e=>exact h2 e G
   ·rintro ⟨d,h1,h2,h3⟩;cases d with
    |zero=>exact absurd h3 (by simp[lt])
    |succ d=>exact⟨d,by simpa using h1,λe he=>h2 (e+1) G,h3⟩
  ·rw [df G,di c];refine⟨λh=>G,?_⟩;rintro⟨d,h1,h2,h3⟩;cases d with
   |zero=>have:x<y:=h3;omega
   |succ d=>have:x=y:=h2 0 G;omega
section
variable {s:AH}
def rot (s:AH) (r d:Nat):Int:=om s (r+d)
def jW (s:AH) (r:Int):AH:=s.drop r.toNat++s.take r.toNat
theorem nH (s:AH) (r:Int):(jW s r).length=s.length:=by unfold jW;rw[ai,bn,ax];omega
theorem mM {r d:Nat} (hr:r<=s.length) (hd:d<s.length):lt (jW s r) d=rot s r d:=by
 unfold jW lt rot om;rw[bq];rcases gu (r+d) s.length with g|g
 ·rw[af,jf (by rw[bn];omega),su,mf g,<-af]
 ·rw[af,jh (by rw[bn];omega),bn,qw G,show(r+d)%s.length=d-(s.length-r) by rw[Ak g,mf G];omega,<-af]
theorem SN (r:Nat):Per (rot s r) s.length:=λd=>by
 unfold rot;rw[<-qi];exact rV s _
theorem zX (r:Nat):rot s (r%s.length)=rot s r:=by
 funext d;unfold rot om;rw[Nat.mod_add_mod]
theorem WI {r q:Nat} (hn:0<s.length) (h: ∀d,d<s.length->rot s r d=rot s q d):rot s r=rot s q:=by
 funext d;rw[<-(SN r).mod d,<-(SN q).mod d];exact h _ (yx _ hn)
theorem aPq {r q:Nat} (hr:r<=s.length) (hq:q<=s.length):cmpL (jW s r) (jW s q)<0↔Lt (rot s r) (rot s q):=by
 rw[QX (by rw[nH,nH]),nH];constructor
 ·rintro ⟨d,h1,h2,h3⟩;refine⟨d,λe he=> ?_,?_⟩
  ·rw[<-mM hr G,<-mM hq G];exact h2 e he
  ·rw[<-mM hr h1,<-mM hq h1];exact h3
 ·rintro ⟨d,h2,h3⟩;rcases gu d s.length with g|g
  ·refine ⟨d,g,λe he=> ?_,?_⟩
   ·rw[mM hr G,mM hq G];exact h2 e he
   ·rw[mM hr g,mM hq g];exact h3
  ·exfalso;rcases fe s.length with z|z
   ·have: ∀r d,rot s r d=0:=λr d=>by
     unfold rot om;rw[dx z];rfl
    rw[this,this] at h3;omega
   ·have:=WI z λe he=>h2 e G;rw[this] at h3;omega
structure FL (s:AH) (b:Nat):Prop where
 lt:b<s.length
 le: ∀r,r<s.length-> ¬Lt (rot s r) (rot s b)
 first: ∀r,r<b->Lt (rot s b) (rot s r)
theorem FL.any {b:Nat} (h:FL s b) (r:Nat): ¬Lt (rot s r) (rot s b):=by
 rw[<-zX r];exact h.le _ (yx _ (by have:=h.lt;omega))
theorem FL.one {b c:Nat} (h:FL s b) (g:FL s c):b=c:=by
 rcases xe b c with a|a|a
 ·exact absurd (g.first b a) (h.any c)
 ·exact a
 ·exact absurd (h.first c a) (g.any b)
def iH (s:AH):Nat->Nat
 |0=>0
 |r+1=>if cmpL (jW s r) (jW s (iH s r))<0 then r else iH s r
theorem XK: ∀n:Nat,0<n->n<=s.length->iH s n<n/\(∀r,r<n-> ¬Lt (rot s r) (rot s (iH s n)))/\ ∀r,r<iH s n->Lt (rot s (iH s n)) (rot s r)
 | 1,_,h=>by
  have e:iH s 1=0:=by
   rw[iH,iH];split<;>rfl
  rw[e];exact⟨G,λr hr=>by obtain rfl:r=0:=G;exact λh=>h.asymm h,λr hr=>G⟩
 | n +2,_,h=>by
  have ih:=XK (n+1) G G;rw[iH];split
  ·rename_i c;rw[aPq G G] at c;refine⟨G,λr hr=> ?_,λr hr=> ?_⟩
   ·rcases gu r (n+1) with g|g
    ·exact λbo=>ih.2.1 r g (bo.trans c)
    ·obtain rfl:r=n+1:=G
     exact λh=>h.asymm h
   ·rcases yT (rot s (n+1)) (rot s r) with a|a|a
    ·exact a
    ·exact absurd (by rw[<-funext a];exact c) (ih.2.1 r hr)
    ·exact absurd (a.trans c) (ih.2.1 r hr)
  ·rename_i c;rw[aPq G G] at c;refine⟨G,λr hr=> ?_,ih.2.2⟩;rcases gu r (n+1) with g|g
   ·exact ih.2.1 r g
   ·obtain rfl:r=n+1:=G
    exact c
def nC (s:AH):Int:=iH s s.length
theorem xM (hn:0<s.length):FL s (iH s s.length):=by
 have h:=XK (s:=s) s.length hn (dn _);exact⟨h.1,h.2.1,h.2.2⟩
theorem TE (s:AH):0<=nC s/\nC s<=s.length/\(0<s.length->nC s<s.length):=by
 unfold nC;rcases fe s.length with z|z
 ·rw[z];exact⟨G,by show((0:Nat):Int)<=_;omega,λh=>G⟩
 ·have:=(xM z).lt;omega
structure LA (s:AH) (b:Nat) (i j k:Int):Prop where
 i0:0<=i
 j0:0<=j
 k0:0<=k
 ne:i≠j
 agr: ∀e:Nat,(e:Int)<k->rot s i.toNat e=rot s j.toNat e
 hb:(b:Int)=i\/(b:Int)=j\/(i<b/\j<b)
theorem LA.init (b:Nat):LA s b 0 1 0:=⟨G,G,G,G,λe he=>G,G⟩
variable {b:Nat} {i j k:Int}
theorem LA.swap (h:LA s b i j k):LA s b j i k:=⟨h.j0,h.i0,h.k0,h.ne.symm,λe he=>(h.agr e he).symm,by have:=h.hb;omega⟩
theorem LA.eq (h:LA s b i j k) (he:rot s i.toNat k.toNat=rot s j.toNat k.toNat):LA s b i j (k+1):=
 ⟨h.i0,h.j0,by have:=h.k0;omega,h.ne,λe he'=>by
  rcases bu e k with g|g
  ·exact h.agr e g
  ·have:=h.k0;obtain rfl:e=k.toNat:=G
   exact he,h.hb⟩
theorem LA.out (h:LA s b i j k) (fl:FL s b) (Qs:rot s j.toNat k.toNat<rot s i.toNat k.toNat): ¬(i<=b/\(b:Int)<=i+k):=λhc=>by
 have i0:=h.i0;have k0:=h.k0;obtain⟨t,ht⟩: ∃t:Nat,b=i.toNat+t:=⟨b-i.toNat,G⟩;refine fl.any (j.toNat+t) ⟨k.toNat-t,λe he=> ?_,?_⟩
 ·have:=h.agr (t+e) G;unfold rot at this ⊢;rw[ht,qi,qi];exact this.symm
 ·unfold rot at Qs ⊢;rw[ht,qi,qi,show t+(k.toNat-t)=k.toNat by omega];exact Qs
theorem LA.gt (h:LA s b i j k) (fl:FL s b) (Qs:rot s j.toNat k.toNat<rot s i.toNat k.toNat):(i+(k+1)≠j->LA s b (i+(k+1)) j 0)/\(i+(k+1)=j->LA s b (i+(k+1)) (j+1) 0):=by
 have ho:=h.out fl Qs;have hb:=h.hb;have i0:=h.i0;have j0:=h.j0;have k0:=h.k0;exact⟨λcg=>⟨G,j0,G,cg,λe he=>G,G⟩,λhe=>⟨G,G,G,G,λe he=>G,G⟩⟩
theorem LA.lt (h:LA s b i j k) (fl:FL s b) (bo:rot s i.toNat k.toNat<rot s j.toNat k.toNat):(i≠j+(k+1)->LA s b i (j+(k+1)) 0)/\(i=j+(k+1)->LA s b i (j+(k+1)+1) 0):=by
 have ho:=h.swap.out fl bo;have hb:=h.hb;have i0:=h.i0;have j0:=h.j0;have k0:=h.k0;exact⟨λcg=>⟨i0,G,G,cg,λe he=>G,G⟩,λhe=>⟨G,G,G,G,λe he=>G,G⟩⟩
theorem LA.same (h:LA s b i j k) (fl:FL s b) (hn:(s.length:Int)<=k):min i j=b:=by
 have i0:=h.i0;have j0:=h.j0;have bo:=fl.lt;have he:rot s i.toNat=rot s j.toNat:=WI G λd hd=>h.agr d G;have cg:=h.ne;have no: ∀x:Nat,x<b->rot s x≠rot s b:=λx hx e=>(fl.first x hx).not_eq λd=>by rw[e]
 rcases h.hb with e|e|⟨e1,e2⟩
 ·rcases bu j i with g|g
  ·exact absurd (by rw[show b=i.toNat by omega];exact he.symm) (no j.toNat G)
  ·omega
 ·rcases bu i j with g|g
  ·exact absurd (by rw[show b=j.toNat by omega];exact he) (no i.toNat G)
  ·omega
 ·exfalso
  have key: ∀lo hi:Nat,lo<hi->hi<b->rot s lo=rot s hi->False:=λlo hi h1 h2 e=>by
   refine no (lo+(b-hi)) G ?_;funext d;have:=congrFun e ((b-hi)+d);unfold rot at this ⊢;rw[qi,this];congr 1;omega
  rcases bu i j with g|g
  ·exact key i.toNat j.toNat G G he
  ·exact key j.toNat i.toNat G G he.symm
theorem LA.done (h:LA s b i j k) (fl:FL s b) (hc: ¬(i<s.length/\j<s.length/\k<s.length)):min i j=b:=by
 have hb:=h.hb;have bo:=fl.lt;have cg:=h.ne;by_cases hk:(s.length:Int)<=k
 ·exact h.same fl hk
 ·omega
theorem aPp {i k:Int} (i0:0<=i) (k0:0<=k):rd s ((i+k)%s.length)=rot s i.toNat k.toNat:=by
 have:=bGs s (i.toNat+k.toNat);rw[show((i.toNat+k.toNat:Nat):Int)=i+k by omega] at this;exact this
end
end Go.Pure
namespace Go.Proofs.YtdbebmmhdefgdaaGreat
open Go Go.Eng Go.Pure
open Tryz
set_option maxRecDepth 100000
variable {u:AH} {w:World} {ws:AD}
theorem LA.init0:LA u (iH u u.length) 0 1 0:=LA.init _
theorem bFp {an:AF} {ar am:Nat} (al:Rd w an ar am 1 (ints .u8 u)) (hN:u.length<=1000000):
  CF 190 #[sl an ar am] w (λv R'=>v=I (nC u)):=by
 obtain rfl:=al.lenI;refine fn1 Tryz.func190 Z Z Z ?_;have mv:=al.max;refine wq<|wn Z<|wq<|wm Z<|wy (aO ah Z)<|wn Z<|wq<|wg Z<|wg Z<|wg Z ?_;refine aA<|aD<|aI ?_;refine gW (λ(i:Int) (j:Int) (k:Int)=>[(0,sl an u.length am),(3,I (u.length:Int)),(4,I i),(5,I j),(6,I k)]) (λi j k=>[]) (λi j k=>(LA u (iH u u.length) i j k)/\(i<=2*u.length+2)/\(j<=2*u.length+3)/\(k<=u.length)/\(u.length=0->i=0/\j=1)) (λi j k=>(3*u.length+3-(i+j+k)).toNat) ?_ ?_
 ·exact⟨0,1,0,⟨(LA.init0),G,G,G,G⟩,KP⟩
 intro i j k ⟨Do,v6,hjb,hkb,hz⟩;have bb:=Do.i0;have b8:=Do.j0;have ld:=Do.k0;refine aD<|wq<|wm Z<|wm Z<|wL Z Z<|wm Z<|dD 4 [(0,sl an u.length am),(3,I (u.length:Int)),(4,I i),(5,I j),(6,I k),(18, .bool (decide ((i<(u.length:Int))/\(j<(u.length:Int)))))] [] ?_ ?_
 ·refine bP 14 Z (λbc=> ?_) (λbc=> ?_)
  ·refine aB Z Z<|wm Z<|aB Z Z<|wm Z<|aB Z Z<|wL Z Z<|wy (aQ Z Z)<|aA ?_;exact KP
  ·refine aM Z Z Z Z<|aM Z Z Z Z<|aM Z Z Z Z<|wy (aP Z Z)<|aA ?_;exact KP
 refine wm Z<|dD 4 [(0,sl an u.length am),(3,I (u.length:Int)),(4,I i),(5,I j),(6,I k),(23, .bool (decide (((i<(u.length:Int))/\(j<(u.length:Int)))/\(k<(u.length:Int)))))] [] ?_ ?_
 ·refine bP 19 Z (λda=> ?_) (λda=> ?_)
  ·refine aB Z Z<|wm Z<|aB Z Z<|wm Z<|aB Z Z<|wL Z Z<|wy (aQ Z Z)<|aA ?_;exact KP
  ·refine aM Z Z Z Z<|aM Z Z Z Z<|aM Z Z Z Z<|wy (aP Z Z)<|aA ?_;exact KP
 refine aA<|bA Z (λfk=> ?_) (λfk=> ?_)
 ·have nd:=yw (i+k) (show(u.length:Int)≠0 by omega);have Rb:=vk (i+k) (show(0:Int)<u.length by omega);have hm3:=yw (j+k) (show(u.length:Int)≠0 by omega);have hm4:=vk (j+k) (show(0:Int)<u.length by omega);have fl:=xM (s:=u) G;have ei:=aPp (s:=u) Do.i0 Do.k0;have ej:=aPp (s:=u) Do.j0 Do.k0;refine aH<|aI<|aD<|bL mixed<|wD 0 Z (aK Z)<|wD 1 Z (aK Z)<|wD 2 Z (aK Z)<|wD 3 Z (dK Z Z)<|wD 4 Z (aK Z)<|wD 5 Z (xZ Z Z)<|wD 6 Z (aG ah sz5 Z Z (al.c _))<|wD 7 Z (aW dh Z Z (al.c _))<|wD 8 Z (aK Z)<|wD 9 Z (aK Z)<|wD 10 Z (aK Z) ?_;refine wD 11 Z (dK Z Z)<|wD 12 Z (aK Z)<|wD 13 Z (xZ Z Z)<|wD 14 Z (aG ah sz5 Z Z (al.c _))<|wD 15 Z (aW dh Z Z (al.c _))<|wD 16 Z (bB Z)<|wD 17 Z (bB Z)<|wN<|aD<|aI<|wq<|wm Z<|wm Z<|wy (gT Z Z) ?_;refine wn Z<|bA Z (λiu=> ?_) (λiu=> ?_)
  ·have ff:=Do.eq (by rw[<-ei,<-ej];exact iu);refine wq<|wm Z<|wA Z Z<|wn Z<|aS ?_;exact⟨i,j,k+1,⟨(ff),G,G,G,G⟩,G,KP⟩
  ·refine wq<|wm Z<|wm Z<|wy (dN Z Z)<|wn Z<|bA Z (λkt=> ?_) (λkt=> ?_)
   ·have ff:=Do.gt fl (by rw[<-ei,<-ej];exact kt);refine aJ<|wm Z<|wm Z<|wA Z Z<|wA Z Z<|wn Z<|wq<|wn Z<|wq<|wm Z<|wm Z ?_;refine wy (gT Z Z)<|aA<|bA Z (λxr=> ?_) (λxr=> ?_)
    ·refine aJ<|wm Z<|wA Z Z<|wn Z ?_;exact⟨i+(k+1),j+1,0,⟨(ff.2 G),G,G,G,G⟩,G,KP⟩
    ·refine aH ?_;exact⟨i+(k+1),j,0,⟨(ff.1 G),G,G,G,G⟩,G,KP⟩
   ·have ff:=Do.lt fl (by rw[<-ei,<-ej];omega);refine aJ<|wm Z<|wm Z<|wA Z Z<|wA Z Z<|wn Z<|wq<|wn Z<|wq<|wm Z<|wm Z ?_;refine wy (gT Z Z)<|aA<|bA Z (λMf=> ?_) (λMf=> ?_)
    ·refine aJ<|wm Z<|wA Z Z<|wn Z ?_;exact⟨i,(j+(k+1))+1,0,⟨(ff.2 G),G,G,G,G⟩,G,KP⟩
    ·refine aH ?_;exact⟨i,j+(k+1),0,⟨(ff.1 G),G,G,G,G⟩,G,KP⟩
 ·refine aS<|wq<|wm Z<|wm Z<|wy (uP Z Z)<|wn Z<|bT ?_;refine⟨_,Z,?_⟩;rcases fe u.length with z|z
  ·obtain ⟨rfl,rfl⟩:=hz z;have e:nC u=0:=by unfold nC;rw[z];rfl
   rw[e];rfl
  ·exact bg (Value.int .i64) (Do.done (xM z) G)
theorem aSz {m:Int} (h0:0<=m) (hN:m<=1000000):
  CF 70 #[sl none 0 0,I m] w (λv R'=> ∃A c,v=sl A 0 c/\R'=[(ru 5 A 0 c ([]))]):=by
 refine fn1 Tryz.func70 Z Z Z ?_;refine wq<|bR (R1:=[(ru 5 none 0 0 ([]))]) (Sub.refl _) (λ_ h=>h.nil 5 1)<|wn Z<|aD<|wq<|wm Z<|wy (Yl.f (fO Z Z))<|aA<|aN Z<|aH<|aD<|aD ?_;refine aJ<|wm Z<|wm Z<|wy (bBl ah Z)<|wm Z<|wy (aO ah Z)<|wS Z Z<|wS Z Z<|wn Z<|wq<|wm Z<|wy (dN Z Z)<|aA ?_;refine bA Z (λbc=> ?_) (λbc=> ?_)
 ·refine aJ<|wm Z<|wm Z<|wy (bBl ah Z)<|wy (UT ah sz5 Z Z)<|wy (Yl.is (aK Z) (by rw[show m-(((0:Nat):Int)-((0:Nat):Int))=(m.toNat:Int) by omega])) ?_;refine wa (bAv ah au zb5 Z Z Z G G G) ?_;rintro _ _⟨ao,co,rfl,rfl⟩;refine bR (R1:=[(ru 5 (GG ao) 0 co ([])),(ru 5 none 0 0 ([]))]) (Sub.refl _) (λ_ h=>h.cut (k:=0) (qh _) cD) ?_;refine wm Z<|wy (aO ah Z)<|wy (UT ah sz5 Z Z)<|wn Z<|wq<|wm Z<|wn Z<|aX [0] 99 cC Z ?_;exact⟨_,Z,_,_,Z,Z⟩
 ·refine aH<|wq<|wm Z<|wn Z<|aX [0] 99 cC Z ?_;exact⟨_,Z,_,_,Z,Z⟩
theorem BP (i:Nat):((ws.take i).flatten).length<=ws.flatten.length:=by
 conv=>rhs;rw[<-ik i ws]
 rw[lu,ai];omega
theorem gQ {bl:AF} {cm bm:Nat} {ap:AG} (ba:Rd w bl cm bm 1 ap) (bp:SlW .u8 w ap ws) (hN:ws.flatten.length<=1000000/\ws.length<=1000000):
  CF 38 #[sl bl cm bm] w (λv R'=> ∃A c,v=sl A (ws.flatten).length c/\R'=[(ru 5 A ((ws.flatten).length) c (ws.flatten))]):=by
 obtain rfl:cm=ws.length:=by have:=ba.len;have:=bp.1;omega
 refine fn1 Tryz.func38 Z Z Z ?_;have ob:=ba.max;refine wq<|wn Z<|wq<|wn Z<|aD<|wq<|wm Z<|wy (aO ay Z)<|wm Z<|aA ?_;refine aI ?_;refine dS (λ(i:Int) (z:Int)=>[(0,sl bl ws.length bm),(3,I z),(9,sl bl ws.length bm),(10,I (ws.length:Int)),(11,I i)]) (λi z=>[]) (λi z=>(0<=i)/\(i<=ws.length)/\(z=((ws.take i.toNat).flatten.length:Int))) (λi z=>(ws.length-i).toNat) ?_ ?_
 ·exact⟨0,0,⟨G,G,(Z)⟩,KP⟩
 intro i z ⟨bb,ij,hz⟩;have qu:=BP (ws:=ws) i.toNat;refine wq<|wL Z Z<|aA<|aD<|bA Z (λbc=> ?_) (λbc=> ?_)
 ·have Pj:=BP (ws:=ws) (i+1).toNat;rw[gJ bb G,ai] at Pj;refine aH<|aD<|aI<|wq<|wy (aG ay dP Z Z (ba.c _)) ?_;refine bp.elim (i:=i) G G (λcr co rm wi a7 xo=> ?_);refine wy (pI ah Z Z Z (ba.c _) rm)<|wn Z<|wq<|wm Z<|wm Z<|wy (aO ah Z)<|wA Z Z<|wn Z<|wq<|wm Z<|wy (Yl.f (fO Z Z)) ?_;refine aA<|aN Z<|aH<|aJ<|wA Z Z<|wm Z<|aA ?_;exact⟨i+1,z+(((rdl ws i).length:Nat):Int),⟨G,G,(by rw[gJ bb G,ai,hz];omega)⟩,G,KP⟩
 ·refine aS<|wq<|wm Z<|wa (aC bKs Z (Ct.fresh (λw hw=>aSz G G))) ?_;rintro _ _⟨_,rfl,fh,kh,rfl,rfl⟩;refine wn Z<|aD<|wq<|wm Z<|wy (aO ay Z)<|wm Z<|aA<|aI ?_;refine jK (λ(q:Int) (A1:AF) (n1:Nat) (c1:Nat) (acc:AH)=>[(6,sl A1 n1 c1),(25,sl bl ws.length bm),(26,I (ws.length:Int)),(27,I q)]) (λq A1 n1 c1 acc=>[(ru 5 A1 n1 c1 acc)]) (λq A1 n1 c1 acc=>(0<=q)/\(q<=ws.length)/\(n1=acc.length)/\(acc=(ws.take q.toNat).flatten)) (λq A1 n1 c1 acc=>(ws.length-q).toNat) ?_ ?_
  ·exact⟨0,fh,0,kh,[],⟨G,G,(Z),(Z)⟩,KP⟩
  intro q A1 n1 c1 acc ⟨io,i8,dp,bh⟩;have sp:acc.length<=ws.flatten.length:=by rw[bh];exact BP _
  refine wq<|wL Z Z<|aA<|aD<|bA Z (λda=> ?_) (λda=> ?_)
  ·have Pj:=BP (ws:=ws) (q+1).toNat;rw[gJ io G,ai] at Pj;refine aH<|aD<|aI<|wq<|wy (aG ay dP Z Z (ba.c _)) ?_;refine bp.elim (i:=q) G G (λjj na Ux Uj hb_12 mhr_11=> ?_);refine wy (pI ah Z Z Z (ba.c _) Ux)<|wn Z<|aJ<|wm Z<|wm Z<|wa (aY 0 Z ah zb5 Z Z Z (Uj.c _)) ?_;rintro _ _⟨fa,fb,rfl,rfl⟩;refine bK (v:=sl fa (n1+((rdl ws q).length)) fb) Z<|wn Z<|aJ<|wA Z Z<|wm Z<|aA ?_;exact⟨q+1,fa,n1+((rdl ws q).length),fb,acc++(rdl ws q),⟨G,G,(by rw[ai,dp]),(by rw[gJ io G,bh])⟩,G,KP⟩
  ·refine aS<|wq<|wm Z<|wn Z<|aX [0] 99 cC Z ?_;refine⟨_,Z,?_⟩;rw[bi G] at bh;subst bh;obtain rfl:=dp;exact⟨_,_,Z,Z⟩
end Go.Proofs.YtdbebmmhdefgdaaGreat
namespace Go.Eng
open Go Go.RowKit Go.Proofs Go.Sort
theorem LM {W w':World} (hb:Below W.heap.size W w') (hd:W.drawn<=w'.drawn): ∃q os,w'=grow (W.drewN q) os:=by
 refine⟨w'.drawn-W.drawn,w'.heap.extract W.heap.size w'.heap.size,?_⟩
 have hh:W.heap++w'.heap.extract W.heap.size w'.heap.size=w'.heap:=by
  apply Array.ext_getElem?;intro k;rw[Be];split
  ·rename_i hk;exact(hb.block k hk).symm
  ·rename_i hk;have:=hb.size;rw[Array.getElem?_extract];split
   ·congr 1;omega
   ·rename_i h2;rw[Dl G]
 obtain⟨h1,h2,h3,h4,h5⟩:=w';obtain⟨g1,g2,g3,g4,g5⟩:=W;have b1:=hb.os;have b2:=hb.tape;have b3:=hb.output;simp only at b1 b2 b3 hh hd;subst b1;subst b2;subst b3;simp only[grow,World.drewN,hh,World.mk.injEq,zy,Ag];omega
section
variable {P:Program} {B:Nat} {w0:World} {R:List Row}
def aIl (P:Program) (f g:Nat) (cb:Array Value):Prop:=
 ∀(α:Type) [Inhabited α] (enc:α->AG) (_: ∀x,(enc x).length=2) (_: ∀x,∀v∈enc x,v.oneCell'=true) (cf:α->α->Int) (_:SWO (ltOf cf)) (du off cap:Nat) (d:Array α) (w:World)
  (_:CmpLays P g cb enc 2 cf du off d.size w) (_:HoldsK enc 2 w du off d) (_:du<w.heap.size) (_:d.size<4611686018427387904),
  Calls P f #[.slice (some ⟨du,off,none⟩) d.size cap, .func (.func g) #[] cb] w λe w'=>e= .returned (.tuple #[])/\ ∃d' n os,PermIn 0 d.size d d'/\SortedIn (ltOf cf) 0 d.size d'/\w'=sortWorldK enc 2 w du off n d' os
theorem Hp.but {w W:World} (h:Hp B w0 w R) {i:Nat} {r:Row} (hi:R[i]? =some r) (ho:W.os=w.os) (ht:W.tape=w.tape) (hu:W.output=w.output) (hd:w.drawn<=W.drawn) (hs:w.heap.size<=W.heap.size)
  (hk: ∀k,k<w.heap.size->(∀a,r.A=some a->a.block≠k)->W.heap[k]? =w.heap[k]?):Hp B w0 W (R.eraseIdx i):=by
 have hr:r∈R:=gq hi;refine⟨⟨ho.trans h.below.os,ht.trans h.below.tape,hu.trans h.below.output,ry h.below.size hs,λk hkB=> ?_⟩,ry h.base hs,λq hq=> ?_,h.apart.sublist (List.eraseIdx_sublist _ _),h.late.trans ⟨hd,λk o nv hc=> ?_⟩⟩
 ·rw[hk k (Nat.lt_of_lt_of_le hkB h.base) (λa ha=>by have:=(Row.lies_lt (h.own r hr) a ha).1;omega),h.below.block k hkB]
 ·obtain ⟨j,hj⟩:=List.mem_iff_getElem?.1 hq
  obtain⟨j',vx,cg⟩: ∃j',R[j']? =some q/\j'≠i:=by
   rw[List.getElem?_eraseIdx] at hj;split at hj
   ·exact⟨j,hj,G⟩
   ·exact⟨j+1,hj,G⟩
  refine Row.lies_of_block (h.own q (gq vx)) λa ha=>hk a.block (Row.lies_lt (h.own q (gq vx)) a ha).2 λa' nb=> ?_;have r7:=(gm.1 vx).1;have To:=(gm.1 vx).2;have hil:=(gm.1 hi).1;have d9:=(gm.1 hi).2;rcases Cx cg with bo|bo
  ·have:=dz.1 h.apart j' i r7 hil bo;rw[To,d9] at this;exact λe=>this a a' ha nb e.symm
  ·have:=dz.1 h.apart i j' hil r7 bo;rw[To,d9] at this;exact this a' a nb ha
 ·rw [hk k (gp.1 nv).1 λa ha e=> ?_]
  ·exact nv
  ·subst e;obtain⟨cs,e',fr,da⟩:=Row.lies_cells (h.own r hr) ha;rw[da] at nv;cases nv;cases hc
theorem aBh {f g:Nat} {cb:Array Value} (Su:aIl P f g cb) {T m c:Nat} {A:AF} {l:AE} (i:Nat) (hi:R[i]? =some ⟨T,2,A,m,c,prs l,false⟩) (cg:l≠[]) (hsz:l.length<4611686018427387904) (cmp:Int × Int->Int × Int->Int) (hO:SWO (ltOf cmp))
  (Fi: ∀W,Hp B w0 W (R.eraseIdx i)-> ∀x∈l,∀y∈l,
   Ct P g (#[.agg #[.int .i64 x.1, .int .i64 x.2], .agg #[.int .i64 y.1, .int .i64 y.2]]++cb) W.heap.size W [] (λv _=>v= .int .i64 (cmp x y))):
  Ct P f #[.slice A m c, .func (.func g) #[] cb] B w0 R (λv R'=>v= .tuple #[]/\ ∃l',l'.Perm l/\l'.Pairwise (λx y=> ¬cmp y x<0)/\R'=R.set i ⟨T,2,A,m,c,prs l',false⟩):=by
 intro w hw;have fc:=Row.lies_w (hw.own _ (gq hi)) rfl;have jp:=Row.rd (hw.own _ (gq hi))
 have hm:m=l.length:=by
  have:=jp.len;rw[nQ] at this;simp only at this;omega
 have dy:0<l.length:=List.length_pos_iff.2 cg;rcases fc.2 with⟨_,hn⟩|⟨du,cap,cur,hv,hb,hg,hnc,pt,ie,ht⟩
 ·simp only at hn;omega
 simp only[jv,zy] at hv;obtain⟨rfl,rfl⟩:=hv;simp only at ht ie hg hnc
 haveI:Inhabited {p:Int × Int//p∈l}:=⟨⟨l[0],ky _⟩⟩
 let d:Array {p:Int × Int//p∈l}:=l.attach.toArray
 have sq:d.size=l.length:=by simp[d]
 have Nr:d.toList.map Subtype.val=l:=Bf l;have bo:du<w.heap.size:=(gp.1 hg).1
 have hH:HoldsK encP 2 w du 0 d:=by
  intro j hj
  have vx:j<l.length*2:=by
   have:j<(flatK encP 2 d).size:=hj;rw[size_flatK,sq] at this;exact this
  have hf:=QH d;rw[Nr] at hf
  have e:(prs l)[j]? =some ((flatK encP 2 d)[j]!):=by
   rw[<-hf,qd,nk hj,qp _ j hj]
  refine⟨?_,?_⟩
  ·rw [mg];exact hw.cellAt i hi rfl e
  ·exact hw.openAt i (0+j) hi rfl rfl
 have rh:CmpLays P g cb (encP (l:=l)) 2 (λx y=>cmp x.1 y.1) du 0 d.size w:=by
  intro m' os dk Pf x y
  have hW:w.heap.size<=(sortWorldK (encP (l:=l)) 2 w du 0 m' dk os).heap.size:=by
   unfold sortWorldK;rw[size_grow];unfold putRowK;rw[Go.Sort.size_putRow];exact Bq _ _
  have hk: ∀k,k<w.heap.size->(∀a:Addr,some (⟨du,0,none⟩:Addr)=some a->a.block≠k)->(sortWorldK (encP (l:=l)) 2 w du 0 m' dk os).heap[k]? =w.heap[k]? :=by
   intro k hk cg;have Kt:du≠k:=cg _ rfl;unfold sortWorldK;rw[heap_grow_old _ _ (by unfold putRowK;rw[Go.Sort.size_putRow];exact hk)];simp[putRowK,putRow,mapBlock,uy,Kt,Sort.ahead]
  refine(Fi _ (hw.but (W:=sortWorldK (encP (l:=l)) 2 w du 0 m' dk os) hi rfl rfl rfl (by show w.drawn<=w.drawn+m';omega) hW hk) x.1 x.2 y.1 y.2 _ (Hp.refl _)).mono ?_;rintro e w' ⟨v,R',rfl,hh,rfl⟩;exact⟨rfl,LM hh.below hh.late.1⟩
 have Ss:SWO (ltOf λ(x y: {p:Int × Int//p∈l})=>cmp x.1 y.1):=⟨λx=>hO.irrefl x.1,λx y z=>hO.trans x.1 y.1 z.1,λx y z=>hO.ntrans x.1 y.1 z.1⟩;have rv:=Su _ encP (λ_=>rfl) (λx v hv=>by simp[encP] at hv;rcases hv with rfl|rfl<;>rfl) _ Ss du 0 c d w rh hH bo (by rw[sq];exact hsz);rw[sq,<-hm] at rv;refine rv.mono ?_;rintro e w' ⟨rfl,d',n,os,⟨eh,_,nc⟩,d6,rfl⟩;have b6:d'.size=l.length:=by rw[eh,sq]
 refine⟨_,_,rfl,?_,rfl,d'.toList.map Subtype.val,?_,?_,rfl⟩
 ·have Fr:(sortWorldK encP 2 w du 0 n d' os).heap[du]? =some (.cells (putCells id 0 (flatK encP 2 d') cur) T (0,0)):=by
   unfold sortWorldK;rw[heap_grow_old _ _ (by unfold putRowK;rw[Go.Sort.size_putRow];exact bo)];simp[putRowK,putRow,mapBlock,uy,Sort.ahead,hg,onCells]
  refine hw.upd hi (row:=some du) ⟨rfl,rfl,rfl,?_,λk hk cg=> ?_⟩ ?_ (λk hk=> ?_) ?_ (λa' nb=> .inl ⟨a',nb,rfl⟩)
  ·unfold sortWorldK;rw[size_grow];unfold putRowK;rw[Go.Sort.size_putRow];exact Bq _ _
  ·have Kt:du≠k:=λe=>cg (by rw[e]);unfold sortWorldK;rw[heap_grow_old _ _ (by unfold putRowK;rw[Go.Sort.size_putRow];exact hk)];simp[putRowK,putRow,mapBlock,uy,Kt,Sort.ahead]
  ·show w.drawn<=w.drawn+n;omega
  ·obtain rfl:=jd hk;exact⟨_,rfl,rfl⟩
  ·unfold Row.lies;simp only;refine⟨by rw[nQ,az,jr,b6,hm], .inr ⟨du,c,_,rfl,hb,Fr,hnc,pt,?_,?_⟩⟩
   ·simp only[putCells,Array.size_mapIdx];exact ie
   ·have hf:=QH d';rw[<-hf];have Nu:(flatK encP 2 d').size=m*2:=by rw[size_flatK,b6,hm]
    apply uj;intro t;rw[pg];split
    ·rename_i yi
     have Ws:t<cur.size:=by
      have:m*2<=c*2:=ul _ hnc;omega
     rw[qd,qd,nk (by simp[putCells];exact Ws),nk (by rw[Nu];exact yi)];simp only[putCells,Fg,id];rw[di ⟨qh _,by rw[mg,Nu];exact yi⟩,xz,qp _ t (by rw[Nu];exact yi)]
    ·rename_i yi;rw[lm (by rw[jr,Nu];omega)]
 ·have e1:(d'.extract 0 m).toList=d'.toList:=by rw[show m=d'.size by omega];simp
  have e2:(d.extract 0 m).toList=d.toList:=by rw[show m=d.size by omega];simp
  rw[e1,e2] at nc;have:=nc.map Subtype.val;rwa[Nr] at this
 ·refine ib.2 (dz.2 λa b ha j7 vt=> ?_);rw[jr] at ha j7;have h1:=d6 a b (qh _) vt G;rw[qp d' a ha,qp d' b j7] at h1;simp only[ltOf,uk] at h1;simpa using h1
end
end Go.Eng
namespace Go.Eng
open Go Go.RowKit
section
variable {B:Nat} {w0 w w':World} {R R':List Row}
theorem Hp.allocObj (h:Hp B w0 w R) (o:Obj):Hp B w0 (w.alloc o) R:=
 h.join (Rn:=[]) ⟨(Er _ _).alloc (dn _) _,cD,λ_ hr=>(by cases hr), .nil,Late.alloc _ _⟩
theorem Hp.putObj (h:Hp B w0 w R) {l:Nat} {o:Obj} (ho:w.heap[l]? =some o) (hn:XH o=true) (o':Obj) (hB:B<=l) (h0:w0.heap.size<=l):Hp B w0 (w.putObj l o') R:=by
 refine⟨h.below.trans ((Er _ _).grown (grownBy_putObj' w l o') h.base λk e=>by cases e;exact hB),by rw[World.putObj_size];exact h.base,λr hr=> ?_,h.apart,⟨h.late.1,λk q hk hc=> ?_⟩⟩
 ·refine Row.lies_of_block (h.own r hr) λa ha=>World.putObj_heap_other λe=> ?_;obtain⟨cs,e',fr,hc⟩:=Row.lies_cells (h.own r hr) ha;rw[e,ho] at hc;cases hc;cases hn
 ·rw [World.putObj_heap_other (λe=>by have:=(gp.1 hk).1;omega)];exact h.late.2 k q hk hc
theorem Hp.rebase (h:Hp B w0 w R):Hp B w w R:=⟨Er _ _,h.base,h.own,h.apart,Late.refl _⟩
theorem Hp.comp (h:Hp B w0 w R) (h':Hp B w w' R'):Hp B w0 w' R':=⟨h.below.trans h'.below,h'.base,h'.own,h'.apart,h.late.trans h'.late⟩
theorem Rd.cb {W:World} {A:AF} {n c sz:Nat} {xs:AG} (h:Rd w A n c sz xs) (hb:Below w.heap.size w W) (R:List Row):RdC w.heap.size W R A n c sz xs:=
 λ_ hw=>h.below (hb.trans hw.below)
end
def mark (D:Nat):Deferred:= {target:= .collected D,args:= #[]}
section
variable {P:Program} {n:Nd} {B:Nat} {w0 w00:World} {F:Exit->Act->World->Prop} {L:Env} {R:List Row}
def V (P:Program) (n:Nd) (B:Nat) (w0:World) (c:Code) (F:Exit->Act->World->Prop) (L:Env) (R:List Row):Prop:=
 ∀a w,Sat n L a->Hp B w0 w R->c.wpIn (NF n.rd) 0 P F a w
def FQ (F:Exit->Act->World->Prop) (n:Nd) (B:Nat) (w0:World):eZ:=
 ⟨λL R=> ∀a w,Sat n L a->Hp B w0 w R->F .normal a w,λL R=> ∀a w,Sat n L a->Hp B w0 w R->F .ret a w,λi L R=> ∀a w,Sat n L a->Hp B w0 w R->F (.exit i) a w⟩
theorem v_w {c:Code} (h:W P n B w0 c (FQ F n B w0) L R):V P n B w0 c F L R:=λa w hs hp=>by
 refine Ah (h a w hs hp) λe a' w' hq=> ?_;cases e with
 |normal=>obtain⟨L',R',eh,cv,hf⟩:=hq;exact hf a' w' eh cv
 |ret=>obtain⟨L',R',eh,cv,hf⟩:=hq;exact hf a' w' eh cv
 |exit i=>obtain⟨L',R',eh,cv,hf⟩:=hq;exact hf a' w' eh cv
 |goto l=>exact hq.elim
 |panic ch=>exact hq.elim
 |outgrown=>exact hq.elim
theorem dL {x y:Code} (h:W P n B w0 x {FQ F n B w0 with nrm:=λL R=>V P n B w0 y F L R} L R):V P n B w0 (.seq x y) F L R:=λa w hs hp=>by
 refine wpIn_seq (Ah (h a w hs hp) λe a' w' hq=> ?_);cases e with
 |normal=>obtain⟨L',R',eh,cv,hf⟩:=hq;exact hf a' w' eh cv
 |ret=>obtain⟨L',R',eh,cv,hf⟩:=hq;exact hf a' w' eh cv
 |exit i=>obtain⟨L',R',eh,cv,hf⟩:=hq;exact hf a' w' eh cv
 |goto l=>exact hq.elim
 |panic ch=>exact hq.elim
 |outgrown=>exact hq.elim
theorem ES {x y:Code} (h:V P n B w0 x (Exit.then (y.wpIn (NF n.rd) 0 P F) F) L R):V P n B w0 (.seq x y) F L R:=λa w hs hp=>wpIn_seq (h a w hs hp)
def VN (n:Nd) (B:Nat) (w0:World) (F:Exit->Act->World->Prop) (L:Env) (R:List Row):Prop:= ∀a w,Sat n L a->Hp B w0 w R->F .normal a w
theorem VC {y:Code} {rd:Option Nat} (h:V P n B w0 y F L R) (jp:n.rd=rd:=by exact rfl):VN n B w0 (Exit.then (y.wpIn (NF rd) 0 P F) F) L R:=λa w hs hp=>by subst jp;exact h a w hs hp
theorem IV {id:Nat} (h:VN n B w0 F L R):VN n B w0 (Exit.inBlock id F) L R:=h
theorem rJ {id:Nat} {c:Code} (h:V P n B w0 c (Exit.inBlock id F) L R):V P n B w0 (.block id c) F L R:=λa w hs hp=>wpIn_block (h a w hs hp)
def prm:List Nat->AG->Env->Env
 |p::ps,v::vs,L=>prm ps vs ((p,v)::L)
 |_,_,L=>L
theorem Sat.prm: ∀(pl:List Nat) (vs:AG) {m:Nat} {ds:List Deferred} {rd:Option Nat} {L:Env} {t:Array Value},pl.all (λp=>Nat.blt p m)=true->Sat ⟨m,ds,rd⟩ L {tmps:=t,defers:=ds}->
  Sat ⟨m,ds,rd⟩ (prm pl vs L) {tmps:=(pl.zip vs).foldl (λt (p,v)=>t.setIfInBounds p v) t,defers:=ds}
 |[],_,_,_,_,_,_,_,h=>h
 |_::_,[],_,_,_,_,_,_,h=>h
 |p::pl,v::vs,m,ds,rd,L,t,hp,h=>by
  simp only[Ey,pz] at hp;have h1:Sat ⟨m,ds,rd⟩ ((p,v)::L) {tmps:=t.setIfInBounds p v,defers:=ds}:=h.put (d:=p) hp.1 v;exact Sat.prm pl vs hp.2 h1
def Iter (P:Program) (gf:Nat) (lb:Array Value) (po:World->Prop) (N:Nat) (f:Nat->AG):Prop:=
 ∀(l:Nat) (J:Nat->World->Prop) (W:World),(∀k W,J k W->po W)->(∀k W (d:Nat),J k W->W.drawn<=d->J k {W with drawn:=d})->
  (∀k W,k<N->J k W->YieldAt Fence.wide 0 P l (f k).toArray W λe W'=>e= .returned (.bool true)/\J (k+1) W')->
  J 0 W->CallsIn Fence.wide 0 P gf (#[.func (.yield l) #[] #[]]++lb) W λe W'=>(∃v,e= .returned v)/\J N W'
structure Gd (B:Nat) (w00:World) (n:Nd) (w0:World):Prop where
 below:Below B w00 w0
 late:Late w00 w0
 nodup:n.ds.Nodup
 marks: ∀d∈n.ds,∃D,d=mark D/\B<=D/\w00.heap.size<=D/\w0.heap[D]? =some (.deferred (some []))
theorem Gd.refl {m:Nat}:Gd B w00 (m:Nd) w00:=⟨Er _ _,Late.refl _, .nil,λ_ h=>(by cases h)⟩
theorem rounds {σ:Type} {m:Nat} {pl:List Nat} {assign body:Code} {gf:Nat} {lb:Array Value} {po:World->Prop} {N:Nat} {f:Nat->AG} (it:Iter P gf lb po N f)
  (sm:pl.all (λp=>Nat.blt p m)=true) (qu: ∀k,(f k).length=pl.length) (Rx:Nat->σ->List Row) (J:Nat->σ->Prop) (ox: ∀k s w,J k s->Hp B w0 w (Rx k s)->po w)
  (round: ∀l k s W2,k<N->J k s->Below B w0 W2->W P ⟨m,[],some l⟩ B W2 assign ⟨λL' R'=> ∀W3,Below B w0 W3->W P ⟨m,[],some l⟩ B W3 body ⟨λ_ vc=> ∃s',J (k+1) s'/\ ∀W4 w,Hp B W4 w vc->Hp B W4 w (Rx (k+1) s'),λ_ _=>False,λ_ _ _=>False⟩ L' R',λ_ _=>False,λ_ _ _=>False⟩ (prm pl (f k) L) (Rx k s))
  {l:Nat} {rec:LoopState->Loop} {fn:FuncId} {t:Array Value} {Df:Nat} (ir:rec=λst=> {state:=st,pending:=none,fn,tmps:=t,params:=pl.toArray,assign,body,defers:=Df}) (ht:Sat ⟨m,[],some l⟩ L {tmps:=t,defers:=[]}) (Tp:B<=l) (v7:w0.heap.size<=l) (X:World->Prop)
  (hX: ∀W W' R R',X W->Hp B w0 W R->Hp B W W' R'->X W') (Ta: ∀W o,X W->X (W.putObj l o)) {W1:World} (Dd:W1.heap[l]? =some (.loop (rec .ready))) (Yc:X W1) {s0:σ} (n9:J 0 s0) (qn:Hp B w0 W1 (Rx 0 s0)):
  CallsIn Fence.wide 0 P gf (#[.func (.yield l) #[] #[]]++lb) W1 λe W'=>(∃v,e= .returned v)/\ ∃s,J N s/\Hp B w0 W' (Rx N s)/\W'.heap[l]? =some (.loop (rec .ready))/\X W':=by
 refine it l (λk W=> ∃s,J k s/\Hp B w0 W (Rx k s)/\W.heap[l]? =some (.loop (rec .ready))/\X W) W1 (λk W ⟨s,hJ,hp,_⟩=>ox k s W hJ hp) (λk W d ⟨s,hJ,hp,hl,hx⟩ hd=>⟨s,hJ,hp.drawn d hd,hl,hX _ _ _ _ hx hp (hp.rebase.drawn d hd)⟩) ?_ ⟨s0,n9,qn,Dd,Yc⟩;rintro k W hk ⟨s,hJ,hp,hl,hx⟩;have hy:=run_yield (P:=P) (args:=(f k).toArray) hl (by rw[ir];simp[qu k])
 have xl:Sat ⟨m,[],some l⟩ (prm pl (f k) L) {tmps:=(rec .ready).params.zip (f k).toArray|>.foldl (λt (p,v)=>t.setIfInBounds p v) (rec .ready).tmps,defers:=[]}:=by
  rw[ir];simpa using Sat.prm pl (f k) sm ht
 refine⟨fn,_,assign,body,by rw[hy,ir],roundIn_of_wpIn trivial ?_⟩;refine Ah ((round l k s W hk hJ hp.below) _ _ (by rw[ir] at xl;exact xl) hp.rebase) ?_;rintro e a1 Wa hq;cases e with
 | normal=>
  obtain⟨L',R',eh,cv,hb⟩:=hq;have Gk:=cv.late.2 _ _ hl rfl;have wd:=hp.comp cv;have bo:=(gp.1 Gk).1;have Yn:=run_beginRound (P:=P) Gk (by rw[ir]);refine⟨_,Yn,?_⟩;have nf:Hp B w0 (Wa.putObj l (.loop {rec .ready with state:= .busy})) R':=wd.putObj Gk rfl _ Tp v7;have sr:(Wa.putObj l (.loop {rec .ready with state:= .busy})).heap[l]? =some (.loop {rec .ready with state:= .busy}):=World.putObj_heap_same bo;have hx2:=Ta _ (.loop {rec .ready with state:= .busy}) (hX _ _ _ _ hx hp cv);refine Ah (hb _ nf.below a1 _ eh nf.rebase) ?_;rintro e a3 W3 hq;cases e with
  | normal=>
   obtain⟨L3,R3,_,wc,s',Xt,Nh⟩:=hq;have yv:=wc.late.2 _ _ sr rfl;have Yz:=run_endRound (P:=P) none yv;refine⟨_,_,Yz,rfl,s',Xt,?_,?_,?_⟩
   ·exact(nf.comp (Nh _ _ wc)).putObj yv rfl _ Tp v7
   ·rw [World.putObj_heap_same (gp.1 yv).1,ir];rfl
   ·exact Ta _ _ (hX _ _ _ _ hx2 nf wc)
  |ret=>obtain⟨_,_,_,_,h⟩:=hq;exact h.elim
  |exit id=>obtain⟨_,_,_,_,h⟩:=hq;exact h.elim
  |goto t=>exact hq.elim
  |panic ch=>exact hq.elim
  |outgrown=>exact hq.elim
 |ret=>obtain⟨_,_,_,_,h⟩:=hq;exact h.elim
 |exit id=>obtain⟨_,_,_,_,h⟩:=hq;exact h.elim
 |goto t=>exact hq.elim
 |panic ch=>exact hq.elim
 |outgrown=>exact hq.elim
theorem aFd {σ:Type} {m:Nat} {ds:List Deferred} {g:Operand} {pl:List Nat} {assign body:Code} {gf:Nat} {lb:Array Value} {po:World->Prop} {N:Nat} {f:Nat->AG} (hg:ev L g=some (.func (.func gf) #[] lb))
  (o7: ∀args w,(callFunc gf args).run P w= .ok (.enter gf args) w) (it:Iter P gf lb po N f)
  (sm:pl.all (λp=>Nat.blt p m)=true) (qu: ∀k,(f k).length=pl.length) (hG:Gd B w00 ⟨m,ds,none⟩ w0) (Rx:Nat->σ->List Row) (J:Nat->σ->Prop) (h0: ∃s,J 0 s/\ ∀w,Hp B w0 w R->Hp B w0 w (Rx 0 s)) (ox: ∀k s w,J k s->Hp B w0 w (Rx k s)->po w)
  (round: ∀l k s W2,k<N->J k s->Below B w0 W2->W P ⟨m,[],some l⟩ B W2 assign ⟨λL' R'=> ∀W3,Below B w0 W3->W P ⟨m,[],some l⟩ B W3 body ⟨λ_ vc=> ∃s',J (k+1) s'/\ ∀W4 w,Hp B W4 w vc->Hp B W4 w (Rx (k+1) s'),λ_ _=>False,λ_ _ _=>False⟩ L' R',λ_ _=>False,λ_ _ _=>False⟩ (prm pl (f k) L) (Rx k s))
  (after: ∀W5 D s,J N s->Below B w0 W5->Gd B w00 ⟨m,mark D::ds,none⟩ W5->VN ⟨m,mark D::ds,none⟩ B W5 F L (Rx N s)):
  V P ⟨m,ds,none⟩ B w0 (.rangeFunc g pl.toArray assign body) F L R:=by
 intro a w hs hp;refine wpIn_rangeFunc ?_;intro fn _;obtain⟨rec,ir⟩: ∃rec:LoopState->Loop,rec=λst=> {state:=st,pending:=none,fn,tmps:=a.tmps,params:=pl.toArray,assign,body,defers:=w.heap.size}:=⟨_,rfl⟩;obtain⟨W1,i6⟩: ∃W1,(w.alloc (.deferred (some []))).alloc (.loop (rec .ready))=W1:=⟨_,rfl⟩
 have Dd:W1.heap[w.heap.size+1]? =some (.loop (rec .ready)):=by
  rw[<-i6];have:=World.alloc_heap_new (w.alloc (.deferred (some []))) (.loop (rec .ready));rwa[World.size_alloc] at this
 have Xw:W1.heap[w.heap.size]? =some (.deferred (some [])):=by
  rw[<-i6];exact(Below.heap_alloc _ _ _ cD).trans (World.alloc_heap_new w _)
 obtain⟨s0,n9,Lq⟩:=h0;have qn:Hp B w0 W1 (Rx 0 s0):=by rw[<-i6];exact((Lq w hp).allocObj _).allocObj _
 have Ts:w0.heap.size<=w.heap.size:=hp.below.size;have Tt:=hp.base;refine⟨w.heap.size+1,[mark w.heap.size],W1,{target:= .fn (.func gf) lb,args:= #[.func (.yield (w.heap.size+1)) #[] #[]]},W1,gf,#[.func (.yield (w.heap.size+1)) #[] #[]]++lb,W1,?_,?_,λ_ _=>trivial,?_,λh=>(by cases h),?_⟩
 ·rw[<-i6,ir];exact run_enterLoop_outer _ _ _ _ _
 ·simp only[resolve,hs.ev hg];simp[go_sem]
 ·simp[invoke,go_sem,o7]
 ·refine CallsIn.mono (rounds (w0:=w0) (m:=m) (L:=L) it sm qu Rx J ox round (l:=w.heap.size+1) (rec:=rec) ir ⟨hs.size,rfl,hs.val⟩ G G (λW=>W.heap[w.heap.size]? =some (.deferred (some []))/\Late w W) ?_ ?_ Dd ⟨Xw,?_⟩ n9 qn) ?_
  ·rintro W W' R R' ⟨hk,hl⟩ _ h2;exact⟨h2.late.2 _ _ hk rfl,hl.trans h2.late⟩
  ·rintro W o ⟨hk,hl⟩;refine⟨(World.putObj_heap_other G).trans hk,hl.1,λk q nv hc=> ?_⟩;rw[World.putObj_heap_other (λe=>by have:=(gp.1 nv).1;omega)];exact hl.2 k q nv hc
  ·rw [<-i6];exact(Late.alloc _ _).trans (Late.alloc _ _)
  ·rintro e W2 ⟨⟨v,rfl⟩,s,hJ,nf,sr,Po,b9⟩;have sg:=run_endLoop (P:=P) sr (by rw[ir];simp);have Ug:(rec .ready).pending=none:=by rw[ir]
   refine⟨none,W2.putObj (w.heap.size+1) (.loop {rec .ready with state:= .exhausted}),sg.trans (bg (λp=>Result.ok p _) Ug),?_⟩;have wc:Hp B w0 (W2.putObj (w.heap.size+1) (.loop {rec .ready with state:= .exhausted})) (Rx N s):=nf.putObj sr rfl _ G G;have Zi:(W2.putObj (w.heap.size+1) (.loop {rec .ready with state:= .exhausted})).heap[w.heap.size]? =some (.deferred (some [])):=(World.putObj_heap_other G).trans Po
   have Pp:Late w (W2.putObj (w.heap.size+1) (.loop {rec .ready with state:= .exhausted})):=⟨b9.1,λk q nv hc=>by
    rw[World.putObj_heap_other (λe=>by have:=(gp.1 nv).1;omega)]
    exact b9.2 k q nv hc⟩
   have sq:=hs.defers;refine after _ w.heap.size s hJ wc.below ⟨hG.below.trans wc.below,hG.late.trans wc.late,ve.2 ⟨λkx=> ?_,hG.nodup⟩,λd hd=> ?_⟩ _ _ ⟨hs.size,by simp only[ny,sq],hs.val⟩ wc.rebase
   ·obtain ⟨D,he,_,_,hD⟩:=hG.marks _ kx;have h1:=(gp.1 hD).1;simp only[mark,Deferred.mk.injEq,Target.collected.injEq,Ag] at he;omega
   ·rcases iw.1 hd with rfl|hd
    ·exact⟨_,rfl,G,by have:=hG.below.size;omega,Zi⟩
    ·obtain ⟨D,he,h1,h2,hD⟩:=hG.marks _ hd;exact⟨D,he,h1,h2,wc.late.2 _ _ hD rfl⟩
theorem aOn {σ0 σ1:Type} {m:Nat} {ds:List Deferred} {g:Operand} {pl:List Nat} {assign body:Code} {gf:Nat} {lb:Array Value} {po:World->Prop} {N:Nat} {f:Nat->AG} (hg:ev L g=some (.func (.func gf) #[] lb))
  (o7: ∀args w,(callFunc gf args).run P w= .ok (.enter gf args) w) (it:Iter P gf lb po N f)
  (sm:pl.all (λp=>Nat.blt p m)=true) (qu: ∀k,(f k).length=pl.length) (hG:Gd B w00 ⟨m,ds,none⟩ w0) (Rx:Nat->σ0->σ1->List Row) (J:Nat->σ0->σ1->Prop)
  (h0: ∃x0 x1,J 0 x0 x1/\ ∀w,Hp B w0 w R->Hp B w0 w (Rx 0 x0 x1)) (ox: ∀k x0 x1 w,J k x0 x1->Hp B w0 w (Rx k x0 x1)->po w)
  (round: ∀l k x0 x1 W2,k<N->J k x0 x1->Below B w0 W2->W P ⟨m,[],some l⟩ B W2 assign ⟨λL' R'=> ∀W3,Below B w0 W3->W P ⟨m,[],some l⟩ B W3 body ⟨λ_ vc=> ∃y0 y1,J (k+1) y0 y1/\ ∀W4 w,Hp B W4 w vc->Hp B W4 w (Rx (k+1) y0 y1),λ_ _=>False,λ_ _ _=>False⟩ L' R',λ_ _=>False,λ_ _ _=>False⟩ (prm pl (f k) L) (Rx k x0 x1))
  (after: ∀W5 D x0 x1,J N x0 x1->Below B w0 W5->Gd B w00 ⟨m,mark D::ds,none⟩ W5->VN ⟨m,mark D::ds,none⟩ B W5 F L (Rx N x0 x1)):
  V P ⟨m,ds,none⟩ B w0 (.rangeFunc g pl.toArray assign body) F L R:=by
 obtain⟨x0,x1,h1,h2⟩:=h0;refine aFd (σ:=σ0 × σ1) hg o7 it sm qu hG (λk p=>Rx k p.1 p.2) (λk p=>J k p.1 p.2) ⟨(x0,x1),h1,h2⟩ (λk p=>ox k p.1 p.2) (λl k p W2 hk hp hb=>iC (round l k p.1 p.2 W2 hk hp hb) ?_ (λ_ _ h=>h) (λ_ _ _ h=>h)) (λW5 D p=>after W5 D p.1 p.2);intro L' R' h W3 Md;refine iC (h W3 Md) ?_ (λ_ _ h=>h) (λ_ _ _ h=>h);rintro _ vc ⟨y0,y1,g1,g2⟩;exact⟨(y0,y1),g1,g2⟩
theorem zM {σ0 σ1 σ2 σ3:Type} {m:Nat} {ds:List Deferred} {g:Operand} {pl:List Nat} {assign body:Code} {gf:Nat} {lb:Array Value} {po:World->Prop} {N:Nat} {f:Nat->AG} (hg:ev L g=some (.func (.func gf) #[] lb))
  (o7: ∀args w,(callFunc gf args).run P w= .ok (.enter gf args) w) (it:Iter P gf lb po N f)
  (sm:pl.all (λp=>Nat.blt p m)=true) (qu: ∀k,(f k).length=pl.length) (hG:Gd B w00 ⟨m,ds,none⟩ w0) (Rx:Nat->σ0->σ1->σ2->σ3->List Row) (J:Nat->σ0->σ1->σ2->σ3->Prop)
  (h0: ∃x0 x1 x2 x3,J 0 x0 x1 x2 x3/\ ∀w,Hp B w0 w R->Hp B w0 w (Rx 0 x0 x1 x2 x3)) (ox: ∀k x0 x1 x2 x3 w,J k x0 x1 x2 x3->Hp B w0 w (Rx k x0 x1 x2 x3)->po w)
  (round: ∀l k x0 x1 x2 x3 W2,k<N->J k x0 x1 x2 x3->Below B w0 W2->W P ⟨m,[],some l⟩ B W2 assign ⟨λL' R'=> ∀W3,Below B w0 W3->W P ⟨m,[],some l⟩ B W3 body ⟨λ_ vc=> ∃y0 y1 y2 y3,J (k+1) y0 y1 y2 y3/\ ∀W4 w,Hp B W4 w vc->Hp B W4 w (Rx (k+1) y0 y1 y2 y3),λ_ _=>False,λ_ _ _=>False⟩ L' R',λ_ _=>False,λ_ _ _=>False⟩ (prm pl (f k) L) (Rx k x0 x1 x2 x3))
  (after: ∀W5 D x0 x1 x2 x3,J N x0 x1 x2 x3->Below B w0 W5->Gd B w00 ⟨m,mark D::ds,none⟩ W5->VN ⟨m,mark D::ds,none⟩ B W5 F L (Rx N x0 x1 x2 x3)):
  V P ⟨m,ds,none⟩ B w0 (.rangeFunc g pl.toArray assign body) F L R:=by
 obtain⟨x0,x1,x2,x3,h1,h2⟩:=h0;refine aFd (σ:=σ0 × σ1 × σ2 × σ3) hg o7 it sm qu hG (λk p=>Rx k p.1 p.2.1 p.2.2.1 p.2.2.2) (λk p=>J k p.1 p.2.1 p.2.2.1 p.2.2.2) ⟨(x0,x1,x2,x3),h1,h2⟩ (λk p=>ox k p.1 p.2.1 p.2.2.1 p.2.2.2) (λl k p W2 hk hp hb=>iC (round l k p.1 p.2.1 p.2.2.1 p.2.2.2 W2 hk hp hb) ?_ (λ_ _ h=>h) (λ_ _ _ h=>h)) (λW5 D p=>after W5 D p.1 p.2.1 p.2.2.1 p.2.2.2);intro L' R' h W3 Md;refine iC (h W3 Md) ?_ (λ_ _ h=>h) (λ_ _ _ h=>h);rintro _ vc ⟨y0,y1,y2,y3,g1,g2⟩;exact⟨(y0,y1,y2,y3),g1,g2⟩
def Fin (P:Program) (fn:Func) (B:Nat) (w00:World) (Post:Value->List Row->Prop):Exit->Act->World->Prop:=
 bodyPostM Fence.wide 0 P fn λe w'=> ∃v R',e= .returned v/\Hp B w00 w' R'/\Post v R'
theorem BH {fn:Func} {Post:Value->List Row->Prop} {tmps:Array Value} {v:Value} {w0:World} (hB:Below B w00 w0) (hL:Late w00 w0): ∀(ds:List Deferred) (w:World),ds.Nodup->(∀d∈ds,∃D,d=mark D/\B<=D/\w00.heap.size<=D/\w.heap[D]? =some (.deferred (some [])))->Hp B w00 w R->(∀w,(results fn tmps).run P w= .ok v w)->Post v R->
  LeavesInM Fence.wide 0 P fn tmps (λe w'=> ∃v R',e= .returned v/\Hp B w00 w' R'/\Post v R') ds .returning w
 |[],w,_,_,hp,hr,hv=>⟨v,hr w,v,R,rfl,hp,hv⟩
 |d::ds,w,hn,hm,hp,hr,hv=>by
  obtain⟨D,rfl,h1,h2,hD⟩:=hm _ (.head _);refine⟨cD, .inl ⟨D,_,rfl,run_takeDeferred hD,BH hB hL ds _ (ve.1 hn).2 (λd hd=> ?_) (hp.putObj hD rfl _ h1 h2) hr hv⟩⟩;obtain⟨D',he,Xm,h2',hD'⟩:=hm d (.tail _ hd);refine⟨D',he,Xm,h2',(World.putObj_heap_other λe=> ?_).trans hD'⟩;subst e;subst he;exact(ve.1 hn).1 hd
theorem aTi {fn:Func} {Post:Value->List Row->Prop} {v:Value} (hG:Gd B w00 n w0) (Mu: ∀a w,Sat n L a->(results fn a.tmps).run P w= .ok v w) (hv:Post v R): ∀a w,Sat n L a->Hp B w0 w R->Fin P fn B w00 Post .ret a w/\Fin P fn B w00 Post .normal a w:=by
 intro a w hs hp;have cv:Hp B w00 w R:=⟨hG.below.trans hp.below,hp.base,hp.own,hp.apart,hG.late.trans hp.late⟩
 have h:=BH (P:=P) (fn:=fn) (Post:=Post) (tmps:=a.tmps) (v:=v) hG.below hG.late n.ds w hG.nodup (λd hd=>by
  obtain⟨D,he,h1,h2,hD⟩:=hG.marks d hd
  exact⟨D,he,h1,h2,hp.late.2 _ _ hD rfl⟩) cv (λw=>Mu a w hs) hv
 rw[<-hs.defers] at h;exact⟨h,h⟩
theorem bGv {fn:Func} {Post:Value->List Row->Prop} {r:Nat} (hr:fn.results= #[.tmp r]) (hG:Gd B w00 n w0) (h: ∃v,lk L r=some v/\Post v R): ∀a w,Sat n L a->Hp B w0 w R->Fin P fn B w00 Post .ret a w:=by
 obtain⟨v,hv,ov⟩:=h;exact λa w hs hp=>(aTi hG (λa w hs=>by rw[results_tmp hr,hs.getD hv]) ov a w hs hp).1
theorem aLx {fn:Func} {Post:Value->List Row->Prop} {r s:Nat} (hr:fn.results= #[.tmp r, .tmp s]) (hG:Gd B w00 n w0) (h: ∃v u,lk L r=some v/\lk L s=some u/\Post (.tuple #[v,u]) R): ∀a w,Sat n L a->Hp B w0 w R->Fin P fn B w00 Post .ret a w:=by
 obtain⟨v,u,hv,hu,ov⟩:=h;exact λa w hs hp=>(aTi hG (λa w hs=>by rw[results_tmp2 hr,hs.getD hv,hs.getD hu]) ov a w hs hp).1
theorem fnV {f:FuncId} {fn:Func} {c:Code} {args:AG} {Post:Value->List Row->Prop} (hf:P.funcs[f]? =some fn) (hb:fn.body=some c) (hl:Nat.ble args.length fn.ntmps=true)
  (h:V P (fn.ntmps:Nd) B w00 c (Fin P fn B w00 Post) (ini 0 args) R):Ct P f args.toArray B w00 R Post:=by
 intro w hw;have Ra:args.length<=fn.ntmps:=ak hl;refine callsIn_wide.1 (callsIn_of_wp_marks (F:=Fence.wide) (n:=0) hf hb trivial (h _ w ⟨cG,rfl,λt v ht=> ?_⟩ hw));obtain⟨_,h2⟩:=aCl args 0 t v ht;simp only[xz] at h2;have bo:=(gm.1 h2).1;rw[<-h2];simp[Be,bo]
end
section
variable {P:Program} {n:Nd} {B:Nat} {w0 w00:World} {F:Exit->Act->World->Prop} {L:Env} {R:List Row}
theorem aFp {σ:Type} {m:Nat} {pl:List Nat} {assign body:Code} {gf:Nat} {lb:Array Value} {po:World->Prop} {N:Nat} {f:Nat->AG} (it:Iter P gf lb po N f)
  (sm:pl.all (λp=>Nat.blt p m)=true) (qu: ∀k,(f k).length=pl.length) (Rx:Nat->σ->List Row) (J:Nat->σ->Prop) (ox: ∀k s w,J k s->Hp B w0 w (Rx k s)->po w)
  (round: ∀l k s W2,k<N->J k s->Below B w0 W2->W P ⟨m,[],some l⟩ B W2 assign ⟨λL' R'=> ∀W3,Below B w0 W3->(∃rc,W3.heap[l]? =some (.loop rc))->W P ⟨m,[],some l⟩ B W3 body ⟨λ_ vc=> ∃s',J (k+1) s'/\ ∀W4 w,Hp B W4 w vc->Hp B W4 w (Rx (k+1) s'),λ_ _=>False,λ_ _ _=>False⟩ L' R',λ_ _=>False,λ_ _ _=>False⟩ (prm pl (f k) L) (Rx k s))
  {l:Nat} {rec:LoopState->Loop} {fn:FuncId} {t:Array Value} {Df:Nat} (ir:rec=λst=> {state:=st,pending:=none,fn,tmps:=t,params:=pl.toArray,assign,body,defers:=Df}) (ht:Sat ⟨m,[],some l⟩ L {tmps:=t,defers:=[]}) (Tp:B<=l) (v7:w0.heap.size<=l) (X:World->Prop)
  (hX: ∀W W' R R',X W->Hp B w0 W R->Hp B W W' R'->X W') (Ta: ∀W o,X W->X (W.putObj l o)) {W1:World} (Dd:W1.heap[l]? =some (.loop (rec .ready))) (Yc:X W1) {s0:σ} (n9:J 0 s0) (qn:Hp B w0 W1 (Rx 0 s0)):
  CallsIn Fence.wide 0 P gf (#[.func (.yield l) #[] #[]]++lb) W1 λe W'=>(∃v,e= .returned v)/\ ∃s,J N s/\Hp B w0 W' (Rx N s)/\W'.heap[l]? =some (.loop (rec .ready))/\X W':=by
 refine it l (λk W=> ∃s,J k s/\Hp B w0 W (Rx k s)/\W.heap[l]? =some (.loop (rec .ready))/\X W) W1 (λk W ⟨s,hJ,hp,_⟩=>ox k s W hJ hp) (λk W d ⟨s,hJ,hp,hl,hx⟩ hd=>⟨s,hJ,hp.drawn d hd,hl,hX _ _ _ _ hx hp (hp.rebase.drawn d hd)⟩) ?_ ⟨s0,n9,qn,Dd,Yc⟩;rintro k W hk ⟨s,hJ,hp,hl,hx⟩;have hy:=run_yield (P:=P) (args:=(f k).toArray) hl (by rw[ir];simp[qu k])
 have xl:Sat ⟨m,[],some l⟩ (prm pl (f k) L) {tmps:=(rec .ready).params.zip (f k).toArray|>.foldl (λt (p,v)=>t.setIfInBounds p v) (rec .ready).tmps,defers:=[]}:=by
  rw[ir];simpa using Sat.prm pl (f k) sm ht
 refine⟨fn,_,assign,body,by rw[hy,ir],roundIn_of_wpIn trivial ?_⟩;refine Ah ((round l k s W hk hJ hp.below) _ _ (by rw[ir] at xl;exact xl) hp.rebase) ?_;rintro e a1 Wa hq;cases e with
 | normal=>
  obtain⟨L',R',eh,cv,hb⟩:=hq;have Gk:=cv.late.2 _ _ hl rfl;have wd:=hp.comp cv;have bo:=(gp.1 Gk).1;have Yn:=run_beginRound (P:=P) Gk (by rw[ir]);refine⟨_,Yn,?_⟩;have nf:Hp B w0 (Wa.putObj l (.loop {rec .ready with state:= .busy})) R':=wd.putObj Gk rfl _ Tp v7;have sr:(Wa.putObj l (.loop {rec .ready with state:= .busy})).heap[l]? =some (.loop {rec .ready with state:= .busy}):=World.putObj_heap_same bo;have hx2:=Ta _ (.loop {rec .ready with state:= .busy}) (hX _ _ _ _ hx hp cv);refine Ah (hb _ nf.below ⟨_,sr⟩ a1 _ eh nf.rebase) ?_;rintro e a3 W3 hq;cases e with
  | normal=>
   obtain⟨L3,R3,_,wc,s',Xt,Nh⟩:=hq;have yv:=wc.late.2 _ _ sr rfl;have Yz:=run_endRound (P:=P) none yv;refine⟨_,_,Yz,rfl,s',Xt,?_,?_,?_⟩
   ·exact(nf.comp (Nh _ _ wc)).putObj yv rfl _ Tp v7
   ·rw [World.putObj_heap_same (gp.1 yv).1,ir];rfl
   ·exact Ta _ _ (hX _ _ _ _ hx2 nf wc)
  |ret=>obtain⟨_,_,_,_,h⟩:=hq;exact h.elim
  |exit id=>obtain⟨_,_,_,_,h⟩:=hq;exact h.elim
  |goto t=>exact hq.elim
  |panic ch=>exact hq.elim
  |outgrown=>exact hq.elim
 |ret=>obtain⟨_,_,_,_,h⟩:=hq;exact h.elim
 |exit id=>obtain⟨_,_,_,_,h⟩:=hq;exact h.elim
 |goto t=>exact hq.elim
 |panic ch=>exact hq.elim
 |outgrown=>exact hq.elim
theorem aOm {σ:Type} {m:Nat} {ds:List Deferred} {g:Operand} {pl:List Nat} {assign body:Code} {gf:Nat} {lb:Array Value} {po:World->Prop} {N:Nat} {f:Nat->AG} (hg:ev L g=some (.func (.func gf) #[] lb))
  (o7: ∀args w,(callFunc gf args).run P w= .ok (.enter gf args) w) (it:Iter P gf lb po N f)
  (sm:pl.all (λp=>Nat.blt p m)=true) (qu: ∀k,(f k).length=pl.length) (hG:Gd B w00 ⟨m,ds,none⟩ w0) (Rx:Nat->σ->List Row) (J:Nat->σ->Prop) (h0: ∃s,J 0 s/\ ∀w,Hp B w0 w R->Hp B w0 w (Rx 0 s)) (ox: ∀k s w,J k s->Hp B w0 w (Rx k s)->po w)
  (round: ∀l k s W2,k<N->J k s->Below B w0 W2->W P ⟨m,[],some l⟩ B W2 assign ⟨λL' R'=> ∀W3,Below B w0 W3->(∃rc,W3.heap[l]? =some (.loop rc))->W P ⟨m,[],some l⟩ B W3 body ⟨λ_ vc=> ∃s',J (k+1) s'/\ ∀W4 w,Hp B W4 w vc->Hp B W4 w (Rx (k+1) s'),λ_ _=>False,λ_ _ _=>False⟩ L' R',λ_ _=>False,λ_ _ _=>False⟩ (prm pl (f k) L) (Rx k s))
  (after: ∀W5 D s,J N s->Below B w0 W5->Gd B w00 ⟨m,mark D::ds,none⟩ W5->VN ⟨m,mark D::ds,none⟩ B W5 F L (Rx N s)):
  V P ⟨m,ds,none⟩ B w0 (.rangeFunc g pl.toArray assign body) F L R:=by
 intro a w hs hp;refine wpIn_rangeFunc ?_;intro fn _;obtain⟨rec,ir⟩: ∃rec:LoopState->Loop,rec=λst=> {state:=st,pending:=none,fn,tmps:=a.tmps,params:=pl.toArray,assign,body,defers:=w.heap.size}:=⟨_,rfl⟩;obtain⟨W1,i6⟩: ∃W1,(w.alloc (.deferred (some []))).alloc (.loop (rec .ready))=W1:=⟨_,rfl⟩
 have Dd:W1.heap[w.heap.size+1]? =some (.loop (rec .ready)):=by
  rw[<-i6];have:=World.alloc_heap_new (w.alloc (.deferred (some []))) (.loop (rec .ready));rwa[World.size_alloc] at this
 have Xw:W1.heap[w.heap.size]? =some (.deferred (some [])):=by
  rw[<-i6];exact(Below.heap_alloc _ _ _ cD).trans (World.alloc_heap_new w _)
 obtain⟨s0,n9,Lq⟩:=h0;have qn:Hp B w0 W1 (Rx 0 s0):=by rw[<-i6];exact((Lq w hp).allocObj _).allocObj _
 have Ts:w0.heap.size<=w.heap.size:=hp.below.size;have Tt:=hp.base;refine⟨w.heap.size+1,[mark w.heap.size],W1,{target:= .fn (.func gf) lb,args:= #[.func (.yield (w.heap.size+1)) #[] #[]]},W1,gf,#[.func (.yield (w.heap.size+1)) #[] #[]]++lb,W1,?_,?_,λ_ _=>trivial,?_,λh=>(by cases h),?_⟩
 ·rw[<-i6,ir];exact run_enterLoop_outer _ _ _ _ _
 ·simp only[resolve,hs.ev hg];simp[go_sem]
 ·simp[invoke,go_sem,o7]
 ·refine CallsIn.mono (aFp (w0:=w0) (m:=m) (L:=L) it sm qu Rx J ox round (l:=w.heap.size+1) (rec:=rec) ir ⟨hs.size,rfl,hs.val⟩ G G (λW=>W.heap[w.heap.size]? =some (.deferred (some []))/\Late w W) ?_ ?_ Dd ⟨Xw,?_⟩ n9 qn) ?_
  ·rintro W W' R R' ⟨hk,hl⟩ _ h2;exact⟨h2.late.2 _ _ hk rfl,hl.trans h2.late⟩
  ·rintro W o ⟨hk,hl⟩;refine⟨(World.putObj_heap_other G).trans hk,hl.1,λk q nv hc=> ?_⟩;rw[World.putObj_heap_other (λe=>by have:=(gp.1 nv).1;omega)];exact hl.2 k q nv hc
  ·rw [<-i6];exact(Late.alloc _ _).trans (Late.alloc _ _)
  ·rintro e W2 ⟨⟨v,rfl⟩,s,hJ,nf,sr,Po,b9⟩;have sg:=run_endLoop (P:=P) sr (by rw[ir];simp);have Ug:(rec .ready).pending=none:=by rw[ir]
   refine⟨none,W2.putObj (w.heap.size+1) (.loop {rec .ready with state:= .exhausted}),sg.trans (bg (λp=>Result.ok p _) Ug),?_⟩;have wc:Hp B w0 (W2.putObj (w.heap.size+1) (.loop {rec .ready with state:= .exhausted})) (Rx N s):=nf.putObj sr rfl _ G G;have Zi:(W2.putObj (w.heap.size+1) (.loop {rec .ready with state:= .exhausted})).heap[w.heap.size]? =some (.deferred (some [])):=(World.putObj_heap_other G).trans Po
   have Pp:Late w (W2.putObj (w.heap.size+1) (.loop {rec .ready with state:= .exhausted})):=⟨b9.1,λk q nv hc=>by
    rw[World.putObj_heap_other (λe=>by have:=(gp.1 nv).1;omega)]
    exact b9.2 k q nv hc⟩
   have sq:=hs.defers;refine after _ w.heap.size s hJ wc.below ⟨hG.below.trans wc.below,hG.late.trans wc.late,ve.2 ⟨λkx=> ?_,hG.nodup⟩,λd hd=> ?_⟩ _ _ ⟨hs.size,by simp only[ny,sq],hs.val⟩ wc.rebase
   ·obtain ⟨D,he,_,_,hD⟩:=hG.marks _ kx;have h1:=(gp.1 hD).1;simp only[mark,Deferred.mk.injEq,Target.collected.injEq,Ag] at he;omega
   ·rcases iw.1 hd with rfl|hd
    ·exact⟨_,rfl,G,by have:=hG.below.size;omega,Zi⟩
    ·obtain ⟨D,he,h1,h2,hD⟩:=hG.marks _ hd;exact⟨D,he,h1,h2,wc.late.2 _ _ hD rfl⟩
theorem aIu {σ0 σ1 σ2 σ3:Type} {m:Nat} {ds:List Deferred} {g:Operand} {pl:List Nat} {assign body:Code} {gf:Nat} {lb:Array Value} {po:World->Prop} {N:Nat} {f:Nat->AG} (hg:ev L g=some (.func (.func gf) #[] lb))
  (o7: ∀args w,(callFunc gf args).run P w= .ok (.enter gf args) w) (it:Iter P gf lb po N f)
  (sm:pl.all (λp=>Nat.blt p m)=true) (qu: ∀k,(f k).length=pl.length) (hG:Gd B w00 ⟨m,ds,none⟩ w0) (Rx:Nat->σ0->σ1->σ2->σ3->List Row) (J:Nat->σ0->σ1->σ2->σ3->Prop)
  (h0: ∃x0 x1 x2 x3,J 0 x0 x1 x2 x3/\ ∀w,Hp B w0 w R->Hp B w0 w (Rx 0 x0 x1 x2 x3)) (ox: ∀k x0 x1 x2 x3 w,J k x0 x1 x2 x3->Hp B w0 w (Rx k x0 x1 x2 x3)->po w)
  (round: ∀l k x0 x1 x2 x3 W2,k<N->J k x0 x1 x2 x3->Below B w0 W2->W P ⟨m,[],some l⟩ B W2 assign ⟨λL' R'=> ∀W3,Below B w0 W3->(∃rc,W3.heap[l]? =some (.loop rc))->W P ⟨m,[],some l⟩ B W3 body ⟨λ_ vc=> ∃y0 y1 y2 y3,J (k+1) y0 y1 y2 y3/\ ∀W4 w,Hp B W4 w vc->Hp B W4 w (Rx (k+1) y0 y1 y2 y3),λ_ _=>False,λ_ _ _=>False⟩ L' R',λ_ _=>False,λ_ _ _=>False⟩ (prm pl (f k) L) (Rx k x0 x1 x2 x3))
  (after: ∀W5 D x0 x1 x2 x3,J N x0 x1 x2 x3->Below B w0 W5->Gd B w00 ⟨m,mark D::ds,none⟩ W5->VN ⟨m,mark D::ds,none⟩ B W5 F L (Rx N x0 x1 x2 x3)):
  V P ⟨m,ds,none⟩ B w0 (.rangeFunc g pl.toArray assign body) F L R:=by
 obtain⟨x0,x1,x2,x3,h1,h2⟩:=h0;refine aOm (σ:=σ0 × σ1 × σ2 × σ3) hg o7 it sm qu hG (λk p=>Rx k p.1 p.2.1 p.2.2.1 p.2.2.2) (λk p=>J k p.1 p.2.1 p.2.2.1 p.2.2.2) ⟨(x0,x1,x2,x3),h1,h2⟩ (λk p=>ox k p.1 p.2.1 p.2.2.1 p.2.2.2) (λl k p W2 hk hp hb=>iC (round l k p.1 p.2.1 p.2.2.1 p.2.2.2 W2 hk hp hb) ?_ (λ_ _ h=>h) (λ_ _ _ h=>h)) (λW5 D p=>after W5 D p.1 p.2.1 p.2.2.1 p.2.2.2);intro L' R' h W3 Md yv;refine iC (h W3 Md yv) ?_ (λ_ _ h=>h) (λ_ _ _ h=>h);rintro _ vc ⟨y0,y1,y2,y3,g1,g2⟩;exact⟨(y0,y1,y2,y3),g1,g2⟩
theorem aWm {σ:Type} {m l0:Nat} {g:Operand} {pl:List Nat} {assign body:Code} {gf:Nat} {lb:Array Value} {po:World->Prop} {N:Nat} {f:Nat->AG} {Q:eZ} (hg:ev L g=some (.func (.func gf) #[] lb))
  (o7: ∀args w,(callFunc gf args).run P w= .ok (.enter gf args) w) (it:Iter P gf lb po N f)
  (sm:pl.all (λp=>Nat.blt p m)=true) (qu: ∀k,(f k).length=pl.length) (v7: ∃rc,w0.heap[l0]? =some (.loop rc)) (Rx:Nat->σ->List Row) (J:Nat->σ->Prop) (h0: ∃s,J 0 s/\ ∀w,Hp B w0 w R->Hp B w0 w (Rx 0 s)) (ox: ∀k s w,J k s->Hp B w0 w (Rx k s)->po w)
  (round: ∀l k s W2,k<N->J k s->Below B w0 W2->W P ⟨m,[],some l⟩ B W2 assign ⟨λL' R'=> ∀W3,Below B w0 W3->(∃rc,W3.heap[l]? =some (.loop rc))->W P ⟨m,[],some l⟩ B W3 body ⟨λ_ vc=> ∃s',J (k+1) s'/\ ∀W4 w,Hp B W4 w vc->Hp B W4 w (Rx (k+1) s'),λ_ _=>False,λ_ _ _=>False⟩ L' R',λ_ _=>False,λ_ _ _=>False⟩ (prm pl (f k) L) (Rx k s))
  (after: ∀s,J N s->Q.nrm L (Rx N s)):
  W P ⟨m,[],some l0⟩ B w0 (.rangeFunc g pl.toArray assign body) Q L R:=by
 obtain⟨r0,Hk⟩:=v7;intro a w hs hp;have Zk:=hp.late.2 _ _ Hk rfl;refine wpIn_rangeFunc ?_;intro fn _;obtain⟨rec,ir⟩: ∃rec:LoopState->Loop,rec=λst=> {state:=st,pending:=none,fn,tmps:=a.tmps,params:=pl.toArray,assign,body,defers:=r0.defers}:=⟨_,rfl⟩;obtain⟨W1,i6⟩: ∃W1,w.alloc (.loop (rec .ready))=W1:=⟨_,rfl⟩;have Dd:W1.heap[w.heap.size]? =some (.loop (rec .ready)):=by rw[<-i6];exact World.alloc_heap_new w _
 obtain⟨s0,n9,Lq⟩:=h0;have qn:Hp B w0 W1 (Rx 0 s0):=by rw[<-i6];exact(Lq w hp).allocObj _
 have Ts:w0.heap.size<=w.heap.size:=hp.below.size;have Tt:=hp.base;refine⟨w.heap.size,[],W1,{target:= .fn (.func gf) lb,args:= #[.func (.yield w.heap.size) #[] #[]]},W1,gf,#[.func (.yield w.heap.size) #[] #[]]++lb,W1,?_,?_,λ_ _=>trivial,?_,λh=>(by cases h),?_⟩
 ·rw[<-i6,ir];exact run_enterLoop_inner Zk _ _ _ _ _
 ·simp only[resolve,hs.ev hg];simp[go_sem]
 ·simp[invoke,go_sem,o7]
 ·refine CallsIn.mono (aFp (w0:=w0) (m:=m) (L:=L) it sm qu Rx J ox round (l:=w.heap.size) (rec:=rec) ir ⟨hs.size,rfl,hs.val⟩ G G (λ_=>True) (λ_ _ _ _ _ _ _=>trivial) (λ_ _ _=>trivial) Dd trivial n9 qn) ?_;rintro e W2 ⟨⟨v,rfl⟩,s,hJ,nf,sr,_⟩;have sg:=run_endLoop (P:=P) sr (by rw[ir];simp);have Ug:(rec .ready).pending=none:=by rw[ir]
  refine⟨none,W2.putObj w.heap.size (.loop {rec .ready with state:= .exhausted}),sg.trans (bg (λp=>Result.ok p _) Ug),?_⟩;have sq:=hs.defers;exact⟨L,Rx N s,⟨hs.size,by simp only[ig,sq],hs.val⟩,nf.putObj sr rfl _ G G,after s hJ⟩
theorem aOi {σ0 σ1 σ2 σ3:Type} {m l0:Nat} {g:Operand} {pl:List Nat} {assign body:Code} {gf:Nat} {lb:Array Value} {po:World->Prop} {N:Nat} {f:Nat->AG} {Q:eZ} (hg:ev L g=some (.func (.func gf) #[] lb))
  (o7: ∀args w,(callFunc gf args).run P w= .ok (.enter gf args) w) (it:Iter P gf lb po N f)
  (sm:pl.all (λp=>Nat.blt p m)=true) (qu: ∀k,(f k).length=pl.length) (v7: ∃rc,w0.heap[l0]? =some (.loop rc)) (Rx:Nat->σ0->σ1->σ2->σ3->List Row) (J:Nat->σ0->σ1->σ2->σ3->Prop)
  (h0: ∃x0 x1 x2 x3,J 0 x0 x1 x2 x3/\ ∀w,Hp B w0 w R->Hp B w0 w (Rx 0 x0 x1 x2 x3)) (ox: ∀k x0 x1 x2 x3 w,J k x0 x1 x2 x3->Hp B w0 w (Rx k x0 x1 x2 x3)->po w)
  (round: ∀l k x0 x1 x2 x3 W2,k<N->J k x0 x1 x2 x3->Below B w0 W2->W P ⟨m,[],some l⟩ B W2 assign ⟨λL' R'=> ∀W3,Below B w0 W3->(∃rc,W3.heap[l]? =some (.loop rc))->W P ⟨m,[],some l⟩ B W3 body ⟨λ_ vc=> ∃y0 y1 y2 y3,J (k+1) y0 y1 y2 y3/\ ∀W4 w,Hp B W4 w vc->Hp B W4 w (Rx (k+1) y0 y1 y2 y3),λ_ _=>False,λ_ _ _=>False⟩ L' R',λ_ _=>False,λ_ _ _=>False⟩ (prm pl (f k) L) (Rx k x0 x1 x2 x3))
  (after: ∀x0 x1 x2 x3,J N x0 x1 x2 x3->Q.nrm L (Rx N x0 x1 x2 x3)):
  W P ⟨m,[],some l0⟩ B w0 (.rangeFunc g pl.toArray assign body) Q L R:=by
 obtain⟨x0,x1,x2,x3,h1,h2⟩:=h0;refine aWm (σ:=σ0 × σ1 × σ2 × σ3) hg o7 it sm qu v7 (λk p=>Rx k p.1 p.2.1 p.2.2.1 p.2.2.2) (λk p=>J k p.1 p.2.1 p.2.2.1 p.2.2.2) ⟨(x0,x1,x2,x3),h1,h2⟩ (λk p=>ox k p.1 p.2.1 p.2.2.1 p.2.2.2) (λl k p W2 hk hp hb=>iC (round l k p.1 p.2.1 p.2.2.1 p.2.2.2 W2 hk hp hb) ?_ (λ_ _ h=>h) (λ_ _ _ h=>h)) (λp=>after p.1 p.2.1 p.2.2.1 p.2.2.2);intro L' R' h W3 Md yv;refine iC (h W3 Md yv) ?_ (λ_ _ h=>h) (λ_ _ _ h=>h);rintro _ vc ⟨y0,y1,y2,y3,g1,g2⟩;exact⟨(y0,y1,y2,y3),g1,g2⟩
def SlR (k:IntKind) (Rs:List Row) (vals:AG) (ls:AD):Prop:=vals.length=ls.length/\ ∀j:Nat,j<ls.length-> ∃(A:AF) (c:Nat),vals[j]? =some (.slice A (ls.getD j []).length c)/\ ∀(B:Nat) (w0 w:World),Hp B w0 w Rs->Rd w A (ls.getD j []).length c 1 (ints k (ls.getD j []))
theorem SlR.nil (k:IntKind):SlR k [] [] []:=⟨rfl,λj hj=>by simp at hj⟩
theorem SlR.snoc {k:IntKind} {Rs:List Row} {vals:AG} {ls:AD} {A:AF} {n c e:Nat} {l:AH} {ro:Bool} (h:SlR k Rs vals ls) (hn:n=l.length):SlR k (⟨e,1,A,n,c,ints k l,ro⟩::Rs) (vals++[.slice A n c]) (ls++[l]):=by
 subst hn;refine⟨by simp[h.1],λj hj=> ?_⟩;rcases gu j ls.length with g|g
 ·obtain ⟨A',c',h1,h2⟩:=h.2 j g
  have e1:(ls++[l]).getD j []=ls.getD j []:=by
   rw[af,af,jf g]
  rw[e1];exact⟨A',c',by rw[jf (by rw[h.1];exact g)];exact h1,λB w0 w hw=>h2 B w0 w hw.tail⟩
 ·have r7:j=ls.length:=by simp at hj;omega
  subst r7;have e1:(ls++[l]).getD ls.length []=l:=by simp[af]
  rw[e1];refine⟨A,c,by rw[<-h.1];simp,λB w0 w hw=> ?_⟩;exact rdr (R:=⟨e,1,A,l.length,c,ints k l,ro⟩::Rs) 0 rfl w hw
theorem SlR.at {k:IntKind} {Rs:List Row} {vals:AG} {ls:AD} (h:SlR k Rs vals ls) {i:Int} (h0:0<=i) (h1:i<ls.length): ∃(A:AF) (c:Nat),vals[i.toNat]? =some (.slice A (rdl ls i).length c)/\ ∀(B:Nat) (w0 w:World),Hp B w0 w Rs->Rd w A (rdl ls i).length c 1 (ints k (rdl ls i)):=h.2 i.toNat G
theorem Hp.left {w:World} {X T:List Row} (h:Hp B w0 w (X++T)):Hp B w0 w X:=h.sublist (List.sublist_append_left X T)
theorem Hp.toTail0 {w:World} {X Rs Y:List Row} (h:Hp B w0 w ((X++Rs)++Y)):Hp B w0 w (X++(Y++Rs)):=by
 refine h.perm ?_;rw[ek];exact xk X rf
theorem bKk {Q:eZ} {c:Code} {d:Nat} {v:Value} (h:lk L d=some v) (k:W P n B w0 c Q ((d,v)::L) R):W P n B w0 c Q L R:=λa w hs hp=>k a w ⟨hs.size,hs.defers,λt u ht=>by
 unfold lk at ht;cases e:Nat.beq d t with
 |true=>rw[e] at ht;simp only[cond_true] at ht;obtain rfl:=xq e;exact hs.val _ _ (h.trans ht)
 |false=>rw[e] at ht;simp only[cond_false] at ht;exact hs.val _ _ ht⟩ hp
theorem Hp.toTail {w:World} {X Rs Y T:List Row} (h:Hp B w0 w ((X++Rs)++(Y++T))):Hp B w0 w (X++(Y++(Rs++T))):=by
 refine h.perm ?_;rw[ek];refine xk X ?_;rw[<-ek,<-ek];exact Dp T rf
end
end Go.Eng
namespace Go.Eng
open Go Go.RowKit Go.Proofs Go.Sort
section
variable {P:Program} {B:Nat} {w0:World} {R:List Row}
def aWd (P:Program) (f g:Nat) (cb:Array Value) (k:Nat):Prop:=
 ∀(α:Type) [Inhabited α] (enc:α->AG) (_: ∀x,(enc x).length=k) (_: ∀x,∀v∈enc x,v.oneCell'=true) (cf:α->α->Int) (_:SWO (ltOf cf)) (du off cap:Nat) (d:Array α) (w:World)
  (_:CmpLays P g cb enc k cf du off d.size w) (_:HoldsK enc k w du off d) (_:du<w.heap.size) (_:d.size<4611686018427387904),
  Calls P f #[.slice (some ⟨du,off,none⟩) d.size cap, .func (.func g) #[] cb] w λe w'=>e= .returned (.tuple #[])/\ ∃d' n os,PermIn 0 d.size d d'/\SortedIn (ltOf cf) 0 d.size d'/\w'=sortWorldK enc k w du off n d' os
def aWe (P:Program) (f g:Nat) (cb:Array Value):Prop:=
 ∀(α:Type) [Inhabited α] (enc:α->Value) (_:OneCell enc) (cf:α->α->Int) (_:SWO (ltOf cf)) (du off cap:Nat) (d:Array α) (w:World)
  (_:CmpLays1 P g cb enc cf du off d.size w) (_:Holds enc w du off d) (_:du<w.heap.size) (_:d.size<4611686018427387904),
  Calls P f #[.slice (some ⟨du,off,none⟩) d.size cap, .func (.func g) #[] cb] w λe w'=>e= .returned (.tuple #[])/\ ∃d' n os,PermIn 0 d.size d d'/\SortedIn (ltOf cf) 0 d.size d'/\w'=sortWorld enc w du off n d' os
def xU (P:Program) (f:Nat):Prop:= ∀(p:AF) (cap:Nat) (fv:Value) (w:World),Calls P f #[.slice p 0 cap,fv] w λe w'=>e= .returned (.tuple #[])/\w'=w
theorem Hp.putRow {w:World} (hw:Hp B w0 w R) {i T k m c du:Nat} {vs:AG} (hi:R[i]? =some ⟨T,k,some ⟨du,0,none⟩,m,c,vs,false⟩) (xs:Array Value) (Vf:xs.size=m*k) (n:Nat) (os:Array Obj):
  Hp B w0 (grow (putRow id (Sort.ahead w n) du 0 xs) os) (R.set i ⟨T,k,some ⟨du,0,none⟩,m,c,xs.toList,false⟩)/\Hp B w0 (grow (putRow id (Sort.ahead w n) du 0 xs) os) (R.eraseIdx i):=by
 have fc:=Row.lies_w (hw.own _ (gq hi)) rfl;rcases fc.2 with⟨hv,hn⟩|⟨g,cap,cur,hv,hb,hg,hnc,pt,ie,ht⟩
 ·simp at hv
 simp only[jv,lv,Bb,Ag,zy] at hv;obtain⟨rfl,rfl⟩:=hv;simp only at ht ie hg hnc hb;have bo:du<w.heap.size:=(gp.1 hg).1
 have hsz:w.heap.size<=(grow (Go.Sort.putRow id (Sort.ahead w n) du 0 xs) os).heap.size:=by
  rw[size_grow,Go.Sort.size_putRow];exact Bq _ _
 have hk: ∀k,k<w.heap.size->du≠k->(grow (Go.Sort.putRow id (Sort.ahead w n) du 0 xs) os).heap[k]? =w.heap[k]? :=by
  intro k hk Kt;rw[heap_grow_old _ _ (by rw[Go.Sort.size_putRow];exact hk)];simp[Go.Sort.putRow,mapBlock,uy,Kt,Sort.ahead]
 have Fr:(grow (Go.Sort.putRow id (Sort.ahead w n) du 0 xs) os).heap[du]? =some (.cells (putCells id 0 xs cur) T (0,0)):=by
  rw[heap_grow_old _ _ (by rw[Go.Sort.size_putRow];exact bo)];simp[Go.Sort.putRow,mapBlock,uy,Sort.ahead,hg,onCells]
 refine⟨?_,hw.but hi rfl rfl rfl (by show w.drawn<=w.drawn+n;omega) hsz λk h1 h2=>hk k h1 (h2 _ rfl)⟩;refine hw.upd hi (row:=some du) ⟨rfl,rfl,rfl,hsz,λk h1 cg=>hk k h1 λe=>cg (by rw[e])⟩ ?_ (λk hk=> ?_) ?_ (λa' nb=> .inl ⟨a',nb,rfl⟩)
 ·show w.drawn<=w.drawn+n;omega
 ·obtain rfl:=jd hk;exact⟨_,rfl,rfl⟩
 ·unfold Row.lies;simp only;refine⟨by rw[jr,Vf], .inr ⟨du,c,_,rfl,hb,Fr,hnc,pt,?_,?_⟩⟩
  ·simp only[putCells,Array.size_mapIdx];exact ie
  ·apply uj;intro t;rw[pg];split
   ·rename_i yi
    have Ws:t<cur.size:=by
     have:m*k<=c*k:=ul _ hnc;omega
    rw[qd,qd,nk (by simp[putCells];exact Ws),nk (by rw[Vf];exact yi)];simp only[putCells,Fg,id];rw[di ⟨qh _,by rw[mg,Vf];exact yi⟩,xz,qp _ t (by rw[Vf];exact yi)]
   ·rename_i yi;rw[lm (by rw[jr,Vf];omega)]
theorem LX {α:Type} [Inhabited α] {enc:α->AG} {k:Nat} (hk: ∀x,(enc x).length=k) (d:Array α):(flatK enc k d).toList=d.toList.flatMap enc:=by
 have hlen: ∀l:List α,(l.flatMap enc).length=l.length*k:=λl=>by
  induction l with
  |nil=>simp
  |cons x l ih=>rw[zq,ai,ih,hk,dm,yg];omega
 have Ze: ∀(l:List α) (t:Nat) (x:α),0<k->l[t/k]? =some x->(l.flatMap enc)[t]? =(enc x)[t%k]? :=λl=>by
  induction l with
  |nil=>intro t x _ h;simp at h
  | cons y l ih=>
   intro t x k0 h;rw[zq];rcases gu t k with g|g
   ·rw [Ev g] at h;simp only[List.getElem?_cons_zero,lv] at h;subst h;rw[jf (by rw[hk];exact g),mf g]
   ·have e:t/k=(t-k)/k+1:=by
     rw[<-qx g,Nat.add_div_right _ k0];simp
    rw[e,Dh] at h;rw[jh (by rw[hk];exact g),hk,ih (t-k) x k0 h,<-Ak g]
 apply uj;intro t;have hs:(flatK enc k d).size=d.size*k:=size_flatK _ _ _;rcases gu t (d.size*k) with h|h
 ·have k0:0<k:=Ha λe=>by subst e;simp at h
  have Pf:t/k<d.size:=Nat.div_lt_of_lt_mul (by rw[zt];exact h)
  have e1:(flatK enc k d)[t]? =some ((flatK enc k d)[t]!):=by
   rw[nk (by rw[hs];exact h),qp _ t (by rw[hs];exact h)]
  rw[qd,e1,get_flatK enc k d t h,Ze d.toList t d[t/k] k0 (by rw[qd,nk Pf]),qp d _ Pf];have hm:t%k<(enc d[t/k]).length:=by rw[hk];exact yx _ k0
  rw[av hm,qp (enc d[t/k]) (t%k) hm]
 ·rw[lm (by rw[jr,hs];exact h),lm (by rw[hlen,jr];exact h)]
theorem aTh {α:Type} {enc:α->AG} {k:Nat} (hk: ∀x,(enc x).length=k) (l:List α):(l.flatMap enc).length=l.length*k:=by
 induction l with
 |nil=>simp
 |cons x l ih=>rw[zq,ai,ih,hk,dm,yg];omega
theorem vN {α:Type} [Inhabited α] {d d':Array α} (h:PermIn 0 d.size d d'):d'.toList.Perm d.toList:=by
 obtain⟨hs,_,hp⟩:=h;have e1:(d'.extract 0 d.size).toList=d'.toList:=by rw[<-hs];simp
 have e2:(d.extract 0 d.size).toList=d.toList:=cD
 rw[e1,e2] at hp;exact hp
theorem yB {α:Type} [Inhabited α] {cf:α->α->Int} {d':Array α} {n:Nat} (h:SortedIn (ltOf cf) 0 n d') (hn:d'.size=n):d'.toList.Pairwise λx y=> ¬cf y x<0:=by
 refine dz.2 λa b ha j7 vt=> ?_;rw[jr] at ha j7;have h1:=h a b (qh _) vt G;rw[qp d' a ha,qp d' b j7] at h1;simp only[ltOf,uk] at h1;simpa using h1
theorem aGo {w:World} (hw:Hp B w0 w R) {i T k c:Nat} {A:AF} {vs:AG} (hi:R[i]? =some ⟨T,k,A,0,c,vs,false⟩):R.set i ⟨T,k,A,0,c,[],false⟩=R/\vs=[]:=by
 have fc:=Row.lies_w (hw.own _ (gq hi)) rfl;have hl:=fc.1;simp only[Dz] at hl;obtain rfl:=dx hl;refine⟨?_,rfl⟩;apply uj;intro j;rw[wz];split
 ·rename_i h;subst h;split
  ·exact hi.symm
  ·rename_i h2;rw[lm G]
 ·rfl
theorem aBi {α:Type} {f g k:Nat} {cb:Array Value} {enc:α->AG} (Su:aWd P f g cb k) (St:xU P f) (hk: ∀x,(enc x).length=k) (h1: ∀x,∀v∈enc x,v.oneCell'=true) {T c:Nat} {A:AF} {l:List α} (i:Nat) (hi:R[i]? =some ⟨T,k,A,l.length,c,l.flatMap enc,false⟩) (hsz:l.length<4611686018427387904) (cmp:α->α->Int) (hO:SWO (ltOf cmp))
  (Fi: ∀W,Hp B w0 W (R.eraseIdx i)-> ∀x∈l,∀y∈l,
   Ct P g (#[.agg (enc x).toArray, .agg (enc y).toArray]++cb) W.heap.size W [] (λv _=>v= .int .i64 (cmp x y))):
  Ct P f #[.slice A l.length c, .func (.func g) #[] cb] B w0 R (λv R'=>v= .tuple #[]/\ ∃l':List α,l'.Perm l/\l'.Pairwise (λx y=> ¬cmp y x<0)/\R'=R.set i ⟨T,k,A,l'.length,c,l'.flatMap enc,false⟩):=by
 intro w hw;rcases l with _|⟨x0,l0⟩
 ·refine (St A c _ w).mono ?_;rintro e w' ⟨rfl,rfl⟩;obtain⟨h1,h2⟩:=aGo hw hi;exact⟨_,_,rfl,hw,rfl,[], .refl _, .nil,h1.symm⟩
 generalize hl:x0::l0=l at*;have dy:0<l.length:=by rw[<-hl];simp
 have fc:=Row.lies_w (hw.own _ (gq hi)) rfl;rcases fc.2 with⟨_,hn⟩|⟨du,cap,cur,hv,hb,hg,hnc,pt,ie,ht⟩
 ·simp only at hn;omega
 simp only[jv,zy] at hv;obtain⟨rfl,rfl⟩:=hv;simp only at ht ie hg hnc
 haveI:Inhabited {p:α//p∈l}:=⟨⟨l[0],ky _⟩⟩
 obtain⟨d,hd⟩: ∃d:Array {p:α//p∈l},d=l.attach.toArray:=⟨_,rfl⟩;have sq:d.size=l.length:=by rw[hd];simp
 have Nr:d.toList.map Subtype.val=l:=by rw[hd];exact Bf l
 have Po: ∀x: {p:α//p∈l},(enc x.1).length=k:=λx=>hk x.1;have hfm: ∀e:List {p:α//p∈l},e.flatMap (λx=>enc x.1)=(e.map Subtype.val).flatMap enc:=λe=>by rw[List.flatMap_map]
 have bo:du<w.heap.size:=(gp.1 hg).1
 have hH:HoldsK (λx: {p:α//p∈l}=>enc x.1) k w du 0 d:=by
  intro j hj
  have vx:j<l.length*k:=by
   have:j<(flatK (λx: {p:α//p∈l}=>enc x.1) k d).size:=hj;rw[size_flatK,sq] at this;exact this
  have hf:=LX Po d;rw[hfm,Nr] at hf
  have e:(l.flatMap enc)[j]? =some ((flatK (λx: {p:α//p∈l}=>enc x.1) k d)[j]!):=by
   rw[<-hf,qd,nk hj,qp _ j hj]
  refine⟨?_,?_⟩
  ·rw [mg];exact hw.cellAt i hi rfl e
  ·exact hw.openAt i (0+j) hi rfl rfl
 have rh:CmpLays P g cb (λx: {p:α//p∈l}=>enc x.1) k (λx y=>cmp x.1 y.1) du 0 d.size w:=by
  intro m' os dk Pf x y;have hW:=(hw.putRow hi (flatK (λx: {p:α//p∈l}=>enc x.1) k dk) (by rw[size_flatK,Pf,sq]) m' os).2;refine(Fi (sortWorldK (λx: {p:α//p∈l}=>enc x.1) k w du 0 m' dk os) hW x.1 x.2 y.1 y.2 _ (Hp.refl _)).mono ?_;rintro e w' ⟨v,R',rfl,hh,rfl⟩;exact⟨rfl,LM hh.below hh.late.1⟩
 have Ss:SWO (ltOf λ(x y: {p:α//p∈l})=>cmp x.1 y.1):=⟨λx=>hO.irrefl x.1,λx y z=>hO.trans x.1 y.1 z.1,λx y z=>hO.ntrans x.1 y.1 z.1⟩;have rv:=Su _ (λx: {p:α//p∈l}=>enc x.1) Po (λx=>h1 x.1) _ Ss du 0 c d w rh hH bo (by rw[sq];exact hsz);rw[sq] at rv;refine rv.mono ?_;rintro e w' ⟨rfl,d',n,os,nc,d6,rfl⟩;rw[<-sq] at nc;have b6:d'.size=l.length:=by rw[nc.1,sq]
 have hW:=(hw.putRow hi (flatK (λx: {p:α//p∈l}=>enc x.1) k d') (by rw[size_flatK,b6]) n os).1;rw[LX Po,hfm] at hW
 have cv:(d'.toList.map Subtype.val).Perm l:=by
  have:=(vN nc).map Subtype.val;rwa[Nr] at this
 refine⟨_,_,rfl,hW,rfl,d'.toList.map Subtype.val,cv,?_,?_⟩
 ·exact ib.2 (yB d6 b6)
 ·rw[cv.length_eq]
theorem aBj {α:Type} {f g:Nat} {cb:Array Value} {enc:α->Value} (Su:aWe P f g cb) (St:xU P f) (h1: ∀x,(enc x).oneCell'=true) {T c:Nat} {A:AF} {l:List α} (i:Nat) (hi:R[i]? =some ⟨T,1,A,l.length,c,l.map enc,false⟩) (hsz:l.length<4611686018427387904) (cmp:α->α->Int) (hO:SWO (ltOf cmp))
  (Fi: ∀W,Hp B w0 W (R.eraseIdx i)-> ∀x∈l,∀y∈l,
   Ct P g (#[enc x,enc y]++cb) W.heap.size W [] (λv _=>v= .int .i64 (cmp x y))):
  Ct P f #[.slice A l.length c, .func (.func g) #[] cb] B w0 R (λv R'=>v= .tuple #[]/\ ∃l':List α,l'.Perm l/\l'.Pairwise (λx y=> ¬cmp y x<0)/\R'=R.set i ⟨T,1,A,l'.length,c,l'.map enc,false⟩):=by
 intro w hw;rcases l with _|⟨x0,l0⟩
 ·refine (St A c _ w).mono ?_;rintro e w' ⟨rfl,rfl⟩;obtain⟨h1,h2⟩:=aGo hw hi;exact⟨_,_,rfl,hw,rfl,[], .refl _, .nil,h1.symm⟩
 generalize hl:x0::l0=l at*;have dy:0<l.length:=by rw[<-hl];simp
 have fc:=Row.lies_w (hw.own _ (gq hi)) rfl;rcases fc.2 with⟨_,hn⟩|⟨du,cap,cur,hv,hb,hg,hnc,pt,ie,ht⟩
 ·simp only at hn;omega
 simp only[jv,zy] at hv;obtain⟨rfl,rfl⟩:=hv;simp only at ht ie hg hnc
 haveI:Inhabited {p:α//p∈l}:=⟨⟨l[0],ky _⟩⟩
 obtain⟨d,hd⟩: ∃d:Array {p:α//p∈l},d=l.attach.toArray:=⟨_,rfl⟩;have sq:d.size=l.length:=by rw[hd];simp
 have Nr:d.toList.map Subtype.val=l:=by rw[hd];exact Bf l
 have bo:du<w.heap.size:=(gp.1 hg).1
 have Uh: ∀(W:World) (dk:Array {p:α//p∈l}),putRow (λx: {p:α//p∈l}=>enc x.1) W du 0 dk=putRow id W du 0 (dk.map λx=>enc x.1):=by
  intro W dk;unfold putRow;congr 1;funext cs;unfold putCells;apply Array.ext
  ·simp
  ·intro j h1 h2;simp only[Fg,Array.size_map,id,xz,mg];split
   ·rename_i hc;rw[qp dk j hc.2,qp (dk.map λx=>enc x.1) j (by simpa using hc.2)];simp
   ·rfl
 have hH:Holds (λx: {p:α//p∈l}=>enc x.1) w du 0 d:=by
  intro j hj;have vx:j<l.length:=by rw[<-sq];exact hj
  have e:(l.map enc)[j]? =some (enc d[j]!.1):=by
   have e0:(d.toList.map λx=>enc x.1)=l.map enc:=by
    conv=>rhs;rw[<-Nr]
    rw[rq];rfl
   rw[<-e0,kv,qd,nk hj,qp d j hj];rfl
  refine⟨?_,?_⟩
  ·rw [mg];exact hw.cellAt i hi rfl e
  ·exact hw.openAt i (0+j) hi rfl rfl
 have rh:CmpLays1 P g cb (λx: {p:α//p∈l}=>enc x.1) (λx y=>cmp x.1 y.1) du 0 d.size w:=by
  intro m' os dk Pf x y;have hW:=(hw.putRow hi (dk.map λx=>enc x.1) (by simp[Pf,sq]) m' os).2;rw[<-Uh] at hW;refine(Fi (sortWorld (λx: {p:α//p∈l}=>enc x.1) w du 0 m' dk os) hW x.1 x.2 y.1 y.2 _ (Hp.refl _)).mono ?_;rintro e w' ⟨v,R',rfl,hh,rfl⟩;exact⟨rfl,LM hh.below hh.late.1⟩
 have Ss:SWO (ltOf λ(x y: {p:α//p∈l})=>cmp x.1 y.1):=⟨λx=>hO.irrefl x.1,λx y z=>hO.trans x.1 y.1 z.1,λx y z=>hO.ntrans x.1 y.1 z.1⟩;have rv:=Su _ (λx: {p:α//p∈l}=>enc x.1) (λx=>h1 x.1) _ Ss du 0 c d w rh hH bo (by rw[sq];exact hsz);rw[sq] at rv;refine rv.mono ?_;rintro e w' ⟨rfl,d',n,os,nc,d6,rfl⟩;rw[<-sq] at nc;have b6:d'.size=l.length:=by rw[nc.1,sq]
 have hW:=(hw.putRow hi (d'.map λx=>enc x.1) (by simp[b6]) n os).1;rw[<-Uh] at hW
 have cv:(d'.toList.map Subtype.val).Perm l:=by
  have:=(vN nc).map Subtype.val;rwa[Nr] at this
 have em:(d'.map λx=>enc x.1).toList=(d'.toList.map Subtype.val).map enc:=cD
 rw[em] at hW;refine⟨_,_,rfl,hW,rfl,d'.toList.map Subtype.val,cv,?_,?_⟩
 ·exact ib.2 (yB d6 b6)
 ·rw[cv.length_eq]
end
end Go.Eng
namespace Go.Pure
open Go Go.Eng
def Bd (u:AH) (n k:Nat):Prop:=k<n/\ ∀e,e<k->lt u e=lt u (n-k+e)
def MB (u:AH) (n:Nat) (k:Int):Prop:=0<=k/\Bd u n k.toNat/\ ∀q:Nat,Bd u n q->(q:Int)<=k
def KI (u:AH) (i:Nat) (n:Int):Prop:=0<=n/\Bd u i n.toNat/\ ∀q:Nat,Bd u i q->n<q->lt u q≠lt u i
variable {u:AH}
theorem MB.one:MB u 1 0:=⟨G,⟨G,λe he=>by simp at he⟩,λq h=>by have:=h.1;omega⟩
theorem MB.bd {n:Nat} {k:Int} (h:MB u n k):0<=k/\k<n:=⟨h.1,by have:=h.2.1.1;have:=h.1;omega⟩
theorem KI.bd {n:Nat} {k:Int} (h:KI u n k):0<=k/\k<n:=⟨h.1,by have:=h.2.1.1;have:=h.1;omega⟩
theorem KI.init {i:Nat} {n:Int} (h:MB u i n):KI u i n:=⟨h.1,h.2.1,λq hq hn=>by have:=h.2.2 q hq;omega⟩
theorem KI.step {i:Nat} {n m:Int} (h:KI u i n) (cg:lt u n.toNat≠lt u i) (hb:MB u n.toNat m):KI u i m:=by
 obtain⟨h0,⟨h1,h2⟩,h3⟩:=h;obtain⟨g0,⟨g1,g2⟩,g3⟩:=hb;refine⟨g0,⟨G,λe he=> ?_⟩,λq hq Zp=> ?_⟩
 ·rw [g2 e he,h2 (n.toNat-m.toNat+e) G];congr 1;omega
 ·rcases xe q n.toNat with a|a|a
  ·have:Bd u n.toNat q:=⟨a,λe he=>by
    rw[hq.2 e he,h2 (n.toNat-q+e) G];congr 1
    omega⟩
   have:=g3 q this;omega
  ·subst a;exact cg
  ·exact h3 q hq G
theorem KI.hit {i:Nat} {n:Int} (h:KI u i n) (he:lt u n.toNat=lt u i):MB u (i+1) (n+1):=by
 obtain⟨h0,⟨h1,h2⟩,h3⟩:=h;refine⟨G,⟨G,λe hE=> ?_⟩,λq hq=> ?_⟩
 ·rcases gu e n.toNat with a|a
  ·rw[h2 e a];congr 1;omega
  ·obtain rfl:e=n.toNat:=G
   rw[he];congr 1;omega
 ·rcases q with _|q
  ·omega
  ·have hb:Bd u i q:=⟨by have:=hq.1;omega,λe hE=>by rw[hq.2 e G];congr 1;omega⟩;have hl:=hq.2 q G;have:=hq.1;rw[show i+1-(q+1)+q=i by omega] at hl;rcases bu n q with a|a
   ·exact absurd hl (h3 q hb a)
   ·omega
theorem KI.miss {i:Nat} {n:Int} (h:KI u i n) (hn:n<=0) (he:lt u n.toNat≠lt u i):MB u (i+1) n:=by
 obtain⟨h0,⟨h1,h2⟩,h3⟩:=h;obtain rfl:n=0:=G
 refine⟨G,⟨G,λe hE=>by simp at hE⟩,λq hq=> ?_⟩;rcases q with _|q
 ·omega
 ·have hb:Bd u i q:=⟨by have:=hq.1;omega,λe hE=>by rw[hq.2 e G];congr 1;omega⟩;have hl:=hq.2 q G;have:=hq.1;rw[show i+1-(q+1)+q=i by omega] at hl;rcases fe q with a|a
  ·subst a;exact absurd hl he
  ·exact absurd hl (h3 q hb G)
theorem aIh {n k:Nat} (hn:n=u.length) (hk:k<n):Bd u n k↔NG u (n-k):=by
 subst hn;rw[KL];constructor
 ·intro h i hi;have:=h.2 i G;unfold lt at this;rw[this];congr 1;omega
 ·intro h;refine⟨hk,λe he=> ?_⟩;have:=h e G;unfold lt;rw[<-this];congr 1;omega
theorem MB.least {k:Int} (hn:0<u.length) (h:MB u u.length k):(u.length:Int)-k=lp u:=by
 obtain⟨r,e,r1,r2,hp,Pq⟩:=HZ hn;obtain⟨k0,hb,sk⟩:=h;have pj:=hb.1;have h1:=sk (u.length-r) ((aIh rfl G).2 (by rw[show u.length-(u.length-r)=r by omega];exact hp));have h2:=(aIh rfl hb.1).1 hb;rcases gu (u.length-k.toNat) r with a|a
 ·exact absurd h2 (Pq _ G a)
 ·omega
theorem kS: ∀a b:AH,cmpL b a= -cmpL a b
 |[],[]=>rfl
 |[],_::_=>rfl
 |_::_,[]=>rfl
 |x::a,y::b=>by
  rw[cmpL,cmpL,kS a b];split<;>split<;>omega
theorem cmpL_eq: ∀a b:AH,cmpL a b=0↔a=b
 |[],[]=>by simp[cmpL]
 |[],_::_=>by simp[cmpL]
 |_::_,[]=>by simp[cmpL]
 | x::a,y::b=>by
  have ih:=cmpL_eq a b;rw[cmpL];split
  ·simp;omega
  ·split
   ·simp;omega
   ·rw[ih];simp;omega
theorem IC: ∀a b c:AH,cmpL a b<=0->cmpL b c<=0->cmpL a c<=0
 |[],[],_,_,h=>h
 |[],_::_,[],_,h=>by simp[cmpL] at h
 |[],_::_,_::_,_,_=>by simp[cmpL]
 |_::_,[],_,h,_=>by simp[cmpL] at h
 |_::_,_::_,[],_,h=>by simp[cmpL] at h
 | x ::a,y::b,z::c,h1,h2=>by
  have ih:=IC a b c;rw[cmpL] at h1 h2 ⊢;split at h1
  ·split at h2
   ·rw[di G];omega
   ·split at h2
    ·omega
    ·rw[di G];omega
  ·split at h1
   ·omega
   ·split at h2
    ·rw[di G];omega
    ·split at h2
     ·omega
     ·rw[df G,df G];exact ih h1 h2
abbrev RT:=AH × Int
def jP (a b:RT):Int:=if cmpL a.1 b.1≠0 then cmpL a.1 b.1 else kG a.2 b.2
theorem qB (a b:RT):jP b a= -jP a b:=by
 unfold jP;rw[kS a.1 b.1,aMx a.2 b.2];split<;>split<;>omega
theorem TH (a b:RT):jP a b=0↔a=b:=by
 unfold jP;have h1:=cmpL_eq a.1 b.1;have h2:= @kT a.2 b.2;rw[Prod.ext_iff];split
 ·rename_i c;constructor
  ·intro h;exact absurd h c
  ·intro h;exact absurd (h1.2 h.1) c
 ·rename_i c;rw[h2];constructor
  ·intro h;exact⟨h1.1 G,h⟩
  ·intro h;exact h.2
theorem bAe {a b:Int}:kG a b<=0↔a<=b:=by unfold kG;split<;>(try split)<;>omega
theorem vV {a b:RT}:jP a b<=0↔cmpL a.1 b.1<0\/a.1=b.1/\a.2<=b.2:=by
 unfold jP;have h1:=cmpL_eq a.1 b.1;have h2:= @bAe a.2 b.2;split
 ·rename_i c;constructor
  ·intro h;left;omega
  ·rintro (h|h)
   ·omega
   ·exact absurd (h1.2 h.1) c
 ·rename_i c;rw[h2];constructor
  ·intro h;exact .inr ⟨h1.1 G,h⟩
  ·rintro (h|h)
   ·omega
   ·exact h.2
theorem IA (a b c:RT) (h1:jP a b<=0) (h2:jP b c<=0):jP a c<=0:=by
 rw[vV] at h1 h2 ⊢;have h:=IC a.1 b.1 c.1;have e1:=cmpL_eq a.1 b.1;have e2:=cmpL_eq b.1 c.1;have e3:=cmpL_eq a.1 c.1;rcases h1 with h1|h1
 ·rcases h2 with h2|h2
  ·have a1:=h G G;rcases Aj a1 with g|g
   ·exact .inl g
   ·have e:=e3.1 g;rw[e,kS b.1 c.1] at h1;omega
  ·exact .inl (by rw[<-h2.1];exact h1)
 ·rcases h2 with h2|h2
  ·exact .inl (by rw[h1.1];exact h2)
  ·exact .inr ⟨h1.1.trans h2.1,G⟩
theorem FY {l m:List RT} (hp:l.Perm m) (hl:l.Pairwise λa b=>jP a b<=0) (hm:m.Pairwise λa b=>jP a b<=0):l=m:=
 hp.eq_of_pairwise (λa b _ _ h1 h2=>(TH a b).1 (by rw[qB a b] at h2;omega)) hl hm
def lw (u:AH):AH:=jW u (nC u)
def jO (c:AH):AH:=c.take (rl c).toNat
def gF (c:AH):Int:=(c.length:Int)/rl c
def nJ (u:AH):RT:=(jO (lw u),gF (lw u))
def cZ (ws:AD):List RT:=(ws.filter λw=>decide (0<w.length)).map nJ
def iT (ws:AD):List RT:=(cZ ws).mergeSort λa b=>decide (jP a b<=0)
def IW (r:RT):AH:=rep r.1 r.2
def canon (ws:AD):AD:=(iT ws).map IW
theorem iE (ws:AD):(iT ws).Perm (cZ ws):=List.mergeSort_perm _ _
theorem pK (ws:AD):(iT ws).Pairwise λa b=>jP a b<=0:=by
 have:=List.pairwise_mergeSort (le:=λa b:RT=>decide (jP a b<=0)) (λa b c h1 h2=>ko (IA a b c (yu h1) (yu h2))) (λa b=>by
  rw[Ar,zw,zw,qB a b];omega) (cZ ws)
 exact this.imp λh=>yu h
theorem DK {ws:AD} {l:List RT} (hp:l.Perm (cZ ws)) (hs:l.Pairwise λa b=>jP a b<=0):l=iT ws:=FY (hp.trans (iE ws).symm) hs (pK ws)
theorem WM {ws xs:AD} (hp:(cZ ws).Perm (cZ xs)):iT ws=iT xs:=DK ((iE ws).trans hp) (pK ws)
theorem jQ (u:AH):(lw u).length=u.length:=nH u _
theorem bEm:lw []=[]:=rfl
theorem aPo {r:Nat} (hr:r<=u.length) (hn:0<u.length):om (jW u r)=rot u r:=by
 have h1:=rV (jW u r);rw[nH] at h1;funext d;rw[<-h1.mod d,<-(SN (s:=u) r).mod d];have hd:=yx d hn;have:=mM hr hd;rw[oO (by rw[nH];exact hd)];rw[show((r:Nat):Int)=(r:Int) from rfl] at*;exact this
theorem SL {r q:Nat} (hr:r<=u.length) (hn:0<u.length):rot (jW u r) q=rot u (r+q):=by
 funext d;show om (jW u r) (q+d)=om u (r+q+d);rw[aPo hr hn];show om u (r+(q+d))=_;rw[qi]
theorem aZb (u:AH):nC (lw u)=0:=by
 rcases fe u.length with z|z
 ·rw[dx z];rfl
 ·have hl:=jQ u;have fl:=xM z;have hb:iH u u.length<=u.length:=by have:=fl.lt;omega
  have e:lw u=jW u (iH u u.length:Nat):=rfl
  have f2:FL (lw u) 0:=⟨G,λr hr=>by
   rw[e,SL hb z,SL hb z]
   exact fl.any _,λr hr=>G⟩
  have f3:=xM (s:=lw u) G;have:=f3.one f2;unfold nC;omega
theorem bEe {a b:AH} (hl:a.length=b.length) (h:om a=om b):a=b:=by
 refine bE hl λj h0 h1=> ?_;have:=congrFun h j.toNat;rw[oO G,oO G] at this;exact this
theorem bDm {c:AH} (h:0<c.length):(c.length:Int)%rl c=0:=by
 obtain⟨r,e,r1,r2,_,_⟩:=HZ h;unfold rl;split
 ·exact Int.emod_self
 ·omega
theorem zY {c:AH} (h:0<c.length):((jO c).length:Int)=rl c:=by
 have:=oL h;unfold jO;rw[ax];omega
theorem OP {c:AH} (h:0<c.length):gF c*rl c=c.length:=Int.ediv_mul_cancel (Int.dvd_of_emod_eq_zero (bDm h))
theorem pW {c:AH} (h:0<c.length):0<gF c:=by
 have h1:=OP h;have h2:=oL h;rcases bu 0 (gF c) with a|a
 ·exact a
 ·have:=Int.mul_nonneg_of_nonpos_of_nonpos a (show -(rl c)<=0 by omega);rw[Int.mul_neg] at this;omega
theorem aXn {c:AH} (h:0<c.length):om (jO c)=om c:=by
 obtain⟨r,e,r1,r2,ho,_⟩:=SQ h;funext i;rw[ho i];unfold jO;rw[e];rfl
theorem rM {c:AH} (h:0<c.length):rep (jO c) (gF c)=c:=by
 have hr:=zY h;have hp:=oL h;have ht:=pW h
 have hl:(rep (jO c) (gF c)).length=c.length:=by
  rw[nK];have h1:=OP h
  have:((gF c).toNat*(jO c).length:Int)=c.length:=by
   rw[lc G,hr,h1]
  exact_mod_cast this
 refine bEe hl ?_;rw[show gF c=((gF c).toNat:Int) by omega];funext i;rw[aRn G G,aXn h]
theorem OH {w:AH} (h:0<w.length):IW (nJ w)=lw w:=rM (by rw[jQ];exact h)
theorem aKo {ws:AD} {r:RT} (h:r∈cZ ws): ∃w∈ws,0<w.length/\r=nJ w:=by
 unfold cZ at h;obtain⟨w,hw,e⟩:=gz.1 h;obtain⟨h1,h2⟩:=mr.1 hw;exact⟨w,h1,yu h2,e.symm⟩
theorem sV {ws:AD} {r:RT} (h:r∈iT ws): ∃w∈ws,0<w.length/\r=nJ w:=aKo ((iE ws).subset h)
theorem aKp {ws:AD} {c:AH} (h:c∈canon ws): ∃w∈ws,0<w.length/\c=lw w:=by
 obtain⟨r,hr,rfl⟩:=gz.1 h;obtain⟨w,h1,h2,rfl⟩:=sV hr;exact⟨w,h1,h2,OH h2⟩
theorem jX (a b:AD):cZ (a++b)=cZ a++cZ b:=by unfold cZ;rw[sj,jc]
theorem RA (ws:AD):(canon ws).length=(cZ ws).length:=by
 unfold canon;rw[az,(iE ws).length_eq]
end Go.Pure
namespace Go.Eng
open Go Go.RowKit Go.Pure
section
variable {P:Program} {n:Nd} {B:Nat} {w0:World} {L:Env} {R:List Row} {ty:TypeId}
theorem aKd {w:World} {A:AF} {m c:Nat} {k:IntKind} {u:AH} (h:Rd w A m c 1 (ints k u)) (hA:A.isNone=true):u=[]:=by
 cases u with
 |nil=>rfl
 |cons y l=>
  obtain⟨b,g,_⟩:=h.at_ 0 (.int k y) (by simp[ints]);rw[g] at hA;cases hA
theorem SlR.weak {k:IntKind} {Rs Sb:List Row} {vals:AG} {ls:AD} (h:SlR k Rs vals ls) (hr: ∀B w0 w,Hp B w0 w Sb->Hp B w0 w Rs):SlR k Sb vals ls:=
 ⟨h.1,λj hj=>by
  obtain⟨A,c,h1,h2⟩:=h.2 j hj
  exact⟨A,c,h1,λB w0 w hw=>h2 B w0 w (hr B w0 w hw)⟩⟩
theorem SlR.right {k:IntKind} {Rs:List Row} {vals:AG} {ls:AD} (h:SlR k Rs vals ls) (X:List Row):SlR k (X++Rs) vals ls:=h.weak λ_ _ _ hw=>hw.right
theorem SlR.left {k:IntKind} {Rs:List Row} {vals:AG} {ls:AD} (h:SlR k Rs vals ls) (T:List Row):SlR k (Rs++T) vals ls:=h.weak λ_ _ _ hw=>hw.left
theorem XU {l m:AD} {j:Nat} (h:j<l.length):(l++m).getD j []=l.getD j []:=by
 rw[af,af,jf h]
theorem SlR.app {k:IntKind} {Rs:List Row} {v1 v2:AG} {l1 l2:AD} (h:SlR k Rs v1 l1) (g:SlR k Rs v2 l2):SlR k Rs (v1++v2) (l1++l2):=by
 refine⟨by simp[h.1,g.1],λj hj=> ?_⟩;rcases gu j l1.length with q|q
 ·obtain ⟨A,c,h1,h2⟩:=h.2 j q;rw[XU q,jf (by rw[h.1];exact q)];exact⟨A,c,h1,h2⟩
 ·rw [ai] at hj;obtain⟨A,c,h1,h2⟩:=g.2 (j-l1.length) G
  have e:(l1++l2).getD j []=l2.getD (j-l1.length) []:=by
   rw[af,af,jh q]
  rw[e,jh (by rw[h.1];exact q),h.1];exact⟨A,c,h1,h2⟩
theorem SlR.take {k:IntKind} {Rs:List Row} {vals:AG} {ls:AD} (h:SlR k Rs vals ls) (i:Nat):SlR k Rs (vals.take i) (ls.take i):=by
 refine⟨by simp[h.1],λj hj=> ?_⟩;rw[ax] at hj;obtain⟨A,c,h1,h2⟩:=h.2 j G
 have e:(ls.take i).getD j []=ls.getD j []:=by
  rw[af,af,qw G]
 rw[e,qw G];exact⟨A,c,h1,h2⟩
theorem SlR.drop {k:IntKind} {Rs:List Row} {vals:AG} {ls:AD} (h:SlR k Rs vals ls) (i:Nat):SlR k Rs (vals.drop i) (ls.drop i):=by
 refine⟨by simp[h.1],λj hj=> ?_⟩;rw[bn] at hj;obtain⟨A,c,h1,h2⟩:=h.2 (i+j) G
 have e:(ls.drop i).getD j []=ls.getD (i+j) []:=by
  rw[af,af,su]
 rw[e,su];exact⟨A,c,h1,h2⟩
theorem SlR.single {k:IntKind} {Rs:List Row} {A:AF} {m c:Nat} {l:AH} (hm:m=l.length) (h: ∀B w0 w,Hp B w0 w Rs->Rd w A m c 1 (ints k l)):SlR k Rs [.slice A m c] [l]:=by
 subst hm;refine⟨rfl,λj hj=> ?_⟩;simp only[ii] at hj;obtain rfl:j=0:=G
 exact⟨A,c,rfl,h⟩
theorem SlR.push {k:IntKind} {Rs:List Row} {vals:AG} {ls:AD} {A:AF} {m c:Nat} {l:AH} (h:SlR k Rs vals ls) (hm:m=l.length) (hr: ∀B w0 w,Hp B w0 w Rs->Rd w A m c 1 (ints k l)):SlR k Rs (vals++[.slice A m c]) (ls++[l]):=h.app (SlR.single hm hr)
theorem SlR.one {k:IntKind} {Rs:List Row} {vals:AG} {ls:AD} (h:SlR k Rs vals ls): ∀v∈vals,v.oneCell'=true:=λv hv=>by
 obtain⟨j,hj,e⟩:=ic.1 hv;obtain⟨A,c,h1,_⟩:=h.2 j (by rw[<-h.1];exact hj);rw[av hj,e] at h1;obtain rfl:=jd h1;simp[Value.oneCell']
def OkB (ls:AD):Prop:= ∀l∈ls,aL l/\l.length<=140737488355327
theorem SlR.slw {Rs:List Row} {vals:AG} {ls:AD} (h:SlR .u8 Rs vals ls) (hb:OkB ls) {w:World} (hw:Hp B w0 w Rs):SlW .u8 w vals ls:=
 ⟨h.1,λj hj=>by
  obtain⟨A,c,h1,h2⟩:=h.2 j hj
  have hm:ls.getD j []∈ls:=by
   rw[af,av hj];exact ky hj
  exact⟨A,c,h1,h2 _ _ _ hw,λx hx=>dQ ((hb _ hm).1 x hx),(hb _ hm).2⟩⟩
theorem SlW.take {k:IntKind} {w:World} {vals:AG} {ls:AD} (h:SlW k w vals ls) (i:Nat):SlW k w (vals.take i) (ls.take i):=by
 refine⟨by simp[h.1],λj hj=> ?_⟩;rw[ax] at hj
 have e:(ls.take i).getD j []=ls.getD j []:=by
  rw[af,af,qw G]
 rw[e,qw G];exact h.2 j G
theorem SlW.one {k:IntKind} {w:World} {vals:AG} {ls:AD} (h:SlW k w vals ls): ∀v∈vals,v.oneCell'=true:=λv hv=>by
 obtain⟨j,hj,e⟩:=ic.1 hv;obtain⟨A,c,h1,_⟩:=h.2 j (by rw[<-h.1];exact hj);rw[av hj,e] at h1;obtain rfl:=jd h1;simp[Value.oneCell']
theorem SlW.app {k:IntKind} {w:World} {v1 v2:AG} {l1 l2:AD} (h:SlW k w v1 l1) (g:SlW k w v2 l2):SlW k w (v1++v2) (l1++l2):=by
 refine⟨by simp[h.1,g.1],λj hj=> ?_⟩;rcases gu j l1.length with q|q
 ·rw [XU q,jf (by rw[h.1];exact q)];exact h.2 j q
 ·rw [ai] at hj
  have e:(l1++l2).getD j []=l2.getD (j-l1.length) []:=by
   rw[af,af,jh q]
  rw[e,jh (by rw[h.1];exact q),h.1];exact g.2 (j-l1.length) G
theorem SlW.okB {w:World} {vals:AG} {ls:AD} (h:SlW .u8 w vals ls):OkB ls:=λl hl=>by
 obtain⟨j,hj,e⟩:=ic.1 hl;obtain⟨A,c,_,_,h3,h4⟩:=h.2 j hj;have e2:ls.getD j []=l:=by rw[af,av hj,e];rfl
 rw[e2] at h3 h4;exact⟨byteL_wf h3,h4⟩
structure RC where
 A:AF
 c:Nat
 root:AH
 times:Int
def encR (r:RC):AG:=[.slice r.A r.root.length r.c, .int .i64 r.times]
def RC.rt (r:RC):RT:=(r.root,r.times)
def rdG (l:List RC) (i:Int):RC:=l.getD i.toNat ⟨none,0,[],0⟩
def rgs (l:List RC):AG:=l.flatMap encR
def RgR (Rs:List Row) (l:List RC):Prop:= ∀r∈l,aL r.root/\ ∀(B:Nat) (w0 w:World),Hp B w0 w Rs->Rd w r.A r.root.length r.c 1 (ints .u8 r.root)
theorem RgR.nil (Rs:List Row):RgR Rs []:=λr h=>by cases h
theorem RgR.weak {Rs Sb:List Row} {l:List RC} (h:RgR Rs l) (hr: ∀B w0 w,Hp B w0 w Sb->Hp B w0 w Rs):RgR Sb l:=λr h'=>⟨(h r h').1,λB w0 w hw=>(h r h').2 B w0 w (hr B w0 w hw)⟩
theorem RgR.right {Rs:List Row} {l:List RC} (h:RgR Rs l) (X:List Row):RgR (X++Rs) l:=h.weak λ_ _ _ hw=>hw.right
theorem RgR.snoc {Rs:List Row} {l:List RC} {e m:Nat} {A:AF} {c:Nat} {u:AH} {t:Int} {ro:Bool} (h:RgR Rs l) (hm:m=u.length) (hb:aL u):RgR (⟨e,1,A,m,c,ints .u8 u,ro⟩::Rs) (l++[⟨A,c,u,t⟩]):=λr hr=>by
 subst hm;rcases fo.1 hr with hr|hr
 ·exact⟨(h r hr).1,λB w0 w hw=>(h r hr).2 B w0 w hw.tail⟩
 ·obtain rfl:=jb.1 hr;exact⟨hb,λB w0 w hw=>rdr (R:=⟨e,1,A,u.length,c,ints .u8 u,ro⟩::Rs) 0 rfl w hw⟩
theorem RgR.perm {Rs:List Row} {l m:List RC} (h:RgR Rs l) (hp:m.Perm l):RgR Rs m:=λr hr=>h r (hp.subset hr)
theorem aFt (l:List RC):(rgs l).length=l.length*2:=aTh (enc:=encR) (λ_=>rfl) l
theorem aFu (l m:List RC):rgs (l++m)=rgs l++rgs m:=Cb
theorem aXt (l:List RC): ∀v∈rgs l,v.oneCell'=true:=λv hv=>by
 obtain⟨r,_,h⟩:=Ae.1 hv;simp only[encR,iw,uq,Hq] at h;rcases h with rfl|rfl<;>rfl
theorem aTs (x:RC): ∀v∈encR x,v.oneCell'=true:=λv hv=>by
 simp only[encR,iw,uq,Hq] at hv;rcases hv with rfl|rfl<;>rfl
theorem xI {l:List RC} {i:Int} (h0:0<=i) (h1:i<l.length):rdG l i∈l:=by
 unfold rdG;rw[af,av G];exact ky _
theorem bDr {l:List RC} {i:Int} (h0:0<=i) (h1:i<l.length):((rgs l).drop (i.toNat*2)).take 2=encR (rdG l i):=by
 have e:l=l.take i.toNat++rdG l i::l.drop (i.toNat+1):=by
  conv=>lhs;rw[<-ik i.toNat l]
  congr 1;rw[kz G];congr 1;unfold rdG;rw[af,av G];rfl
 have hl:(rgs (l.take i.toNat)).length=i.toNat*2:=by rw[aFt,ax,zl G]
 have e2:rgs l=rgs (l.take i.toNat)++(encR (rdG l i)++rgs (l.drop (i.toNat+1))):=by
  conv=>lhs;rw[e]
  rw[aFu];rfl
 rw[e2,Gg hl];rfl
theorem bBk {x:Operand} {t:TypeId} {d:TypeDesc} {A:AF} {m c:Nat} {l:List RC} {i:Int} (hu:P.underlying t=some d) (hd:NC d=true) (ff:(P.info? t).map (·.size)=some 2) (hx:ev L x=some (.pointer (pat A (i.toNat*2)))) (hr:RdC B w0 R A m c 2 (rgs l)) (h0:0<=i) (h1:i<l.length):
  Yl P n B w0 (.load t x) ty L R (.agg #[.slice (rdG l i).A (rdG l i).root.length (rdG l i).c, .int .i64 (rdG l i).times]):=by
 have:=aOb (P:=P) (n:=n) (B:=B) (w0:=w0) (R:=R) (ty:=ty) hu hd ff hx rfl hr (by rw[aFt];omega) G;rwa[bDr h0 h1] at this
theorem aNu {s x:Operand} {t e:TypeId} {z:Value} {bytes m p c c2:Nat} {A A2:AF} {l news:List RC} (i:Nat) (hi:R[i]? =some ⟨e,2,A,p,c,rgs l,false⟩) (ht:P.underlying t=some (.slice e)) (dq:(P.info? e).map (λi=>(i.zero,i.size,i.bytes))=some (some z,2,bytes)) (hz:z.cells.size=2) (vu:Nat.blt 0 bytes=true)
  (hs:ev L s=some (.slice A p c)) (hx:ev L x=some (.slice A2 m c2)) (jp:RdC B w0 R A2 m c2 2 (rgs news)) (iz:(p+m)*bytes<=140737488355328):
  Ac P n B w0 (.call {callee:= .builtin .append,args:= #[s,x],argTypes:= #[t,t]}) ty L R (λv R'=> ∃A' c',v= .slice A' (p+m) c'/\R'=R.set i ⟨e,2,A',p+m,c',rgs (l++news),false⟩):=by
 have:=eY (P:=P) (n:=n) (B:=B) (w0:=w0) (ty:=ty) i hi rfl ht dq hz rfl vu hs hx jp (aXt news) iz;simp only[<-aFu] at this;exact this
theorem bFr {t e:TypeId} {x:Operand} (r:RC) (ht:P.underlying t=some (.slice e)) (dq:(P.info? e).map (λi=>(i.zero,i.size))=some (some (.agg #[.slice none 0 0, .int .i64 0]),2)) (hx:ev L x=some (.agg #[.slice r.A r.root.length r.c, .int .i64 r.times])):
  Ac P n B w0 (.buildSlice t 1 #[(0,x)]) ty L R (λv R'=> ∃g,v= .slice (some ⟨g,0,none⟩) 1 1/\R'=⟨e,2,some ⟨g,0,none⟩,1,1,rgs [r],false⟩::R):=by
 have hv:evp L [(0,x)]=some [(0, .agg #[.slice r.A r.root.length r.c, .int .i64 r.times])]:=by simp[evp,hx]
 exact pU (P:=P) (n:=n) (B:=B) (w0:=w0) (L:=L) (R:=R) (ty:=ty) (len:=1) (ps:=[(0,x)]) (cells:= #[.slice r.A r.root.length r.c, .int .i64 r.times]) ht dq hv cC cC cA (by rfl)
end
end Go.Eng
namespace Go.Proofs.YtdbebmmhdefgdaaGreat
open Go Go.Eng Go.Pure
open Tryz
set_option maxRecDepth 100000
variable {w:World} {x:Int}
theorem QD:
  CF 194 #[I x] w (λv R'=>v=bf):=by
 refine fn1 Jq Z Z Z ?_;refine wq<|wn Z<|wq<|wm Z<|wm Z<|wy (Yl.f (iI Z Z))<|wn Z<|bT ?_;refine⟨_,Z,?_⟩;rfl
theorem oV {y:Int}:
  CF 121 #[I x,I y] w (λv R'=>v=I (kG x y)):=by
 refine fn1 Tryz.func121 Z Z Z ?_;refine wq<|wn Z<|wq<|wm Z<|wa (aC bCl Z (Ct.quiet (λw hw=>QD))) ?_;rintro _ _⟨rfl,rfl⟩;refine wn Z<|wq<|wm Z<|wa (aC bCl Z (Ct.quiet (λw hw=>QD))) ?_;rintro _ _⟨rfl,rfl⟩;refine wn Z<|aD<|wq<|wm Z<|aA<|aN Z<|aH<|aD<|wq<|wm Z<|aA<|aN Z ?_;refine aH<|aD<|wq<|wm Z<|wm Z<|wL Z Z<|aA<|bA Z (λbc=> ?_) (λbc=> ?_)
 ·refine wq<|wn Z<|bT ?_;refine⟨_,Z,?_⟩;exact bg (Value.int .i64) (by unfold kG;rw[di G])
 ·refine aH<|aD<|wq<|wm Z<|wm Z<|wy (dN Z Z)<|aA<|bA Z (λda=> ?_) (λda=> ?_)
  ·refine wq<|wn Z<|bT ?_;refine⟨_,Z,?_⟩;exact bg (Value.int .i64) (by unfold kG;rw[df G,di G])
  ·refine aH<|wq<|wn Z<|bT ?_;refine⟨_,Z,?_⟩;exact bg (Value.int .i64) (by unfold kG;rw[df G,df G])
theorem OD {an:AF} {ar am:Nat} {u:AH} {qe:AF} {qv qk:Nat} {t:AH} (al:Rd w an ar am 1 (ints .u8 u)) (xp:Rd w qe qv qk 1 (ints .u8 t)):
  CF 96 #[sl an ar am,sl qe qv qk] w (λv R'=>v=I (cmpL u t)):=by
 obtain rfl:=al.lenI;obtain rfl:=xp.lenI;refine fn1 Tryz.func96 Z Z Z ?_;have mv:=al.max;have m_t:=xp.max;refine wq<|wn Z<|aD<|wq<|wn Z<|aI ?_;refine lF (λ(i:Int)=>[(0,sl an u.length am),(1,sl qe t.length qk),(5,I i)]) (λi=>[]) (λi=>(0<=i)/\(i<=u.length)/\(i<=t.length)/\(cmpL u t=cmpL (u.drop i.toNat) (t.drop i.toNat))) (λi=>(u.length-i).toNat) ?_ ?_
 ·exact⟨0,⟨G,G,G,cD⟩,KP⟩
 intro i ⟨bb,Zh,hit,hc⟩;refine aD<|wq<|wm Z<|wm Z<|wy (aO ah Z)<|wL Z Z<|wm Z<|dD 5 [(0,sl an u.length am),(1,sl qe t.length qk),(5,I i),(15, .bool (decide ((i<(u.length:Int))/\(i<(t.length:Int)))))] [] ?_ ?_
 ·refine bP 10 Z (λbc=> ?_) (λbc=> ?_)
  ·refine aB Z Z<|wm Z<|aB Z Z<|wm Z<|aB Z Z<|wy (aO ah Z)<|aB Z Z<|wL Z Z<|wy (aQ Z Z)<|aA ?_;exact KP
  ·refine aM Z Z Z Z<|aM Z Z Z Z<|aM Z Z Z Z<|aM Z Z Z Z<|wy (aP Z Z)<|aA ?_;exact KP
 refine aA<|bA Z (λda=> ?_) (λda=> ?_)
 ·refine aH<|aD<|aI<|aD<|bL mixed<|wD 0 Z (aK Z)<|wD 1 Z (aK Z)<|wD 2 Z (aG ah sz5 Z Z (al.c _))<|wD 3 Z (aW dh Z Z (al.c _))<|wD 4 Z (aK Z)<|wD 5 Z (aK Z)<|wD 6 Z (aG ah sz5 Z Z (xp.c _))<|wD 7 Z (aW dh Z Z (xp.c _))<|wD 8 Z (iI Z Z)<|wN ?_;refine bA Z (λfk=> ?_) (λfk=> ?_)
  ·refine aD<|aD<|bL mixed<|wD 0 Z (aK Z)<|wD 1 Z (aK Z)<|wD 2 Z (aG ah sz5 Z Z (al.c _))<|wD 3 Z (aW dh Z Z (al.c _))<|wD 4 Z (aK Z)<|wD 5 Z (aK Z)<|wD 6 Z (aG ah sz5 Z Z (xp.c _))<|wD 7 Z (aW dh Z Z (xp.c _))<|wD 8 Z (fO Z Z)<|wN<|bA Z (λiu=> ?_) (λiu=> ?_)
   ·refine wq<|wn Z<|bT ?_;refine⟨_,Z,?_⟩;exact bg (Value.int .i64) (by rw[hc,EJ bb G G,di G])
   ·refine aH<|wq<|wn Z<|bT ?_;refine⟨_,Z,?_⟩;exact bg (Value.int .i64) (by rw[hc,EJ bb G G,df G,di G])
  ·refine aH<|aJ<|wm Z<|wA Z Z<|wn Z ?_;exact⟨i+1,⟨G,G,G,(by rw[hc,EJ bb G G,df G,df G])⟩,G,KP⟩
 ·refine aS<|aD<|aI<|wq<|wm Z<|wy (aO ah Z)<|wm Z<|wy (aO ah Z)<|wL Z Z<|wn Z<|bA Z (λkt=> ?_) (λkt=> ?_)
  ·refine wq<|wn Z<|bT ?_;refine⟨_,Z,?_⟩;exact bg (Value.int .i64) (by rw[hc,MM bb Zh hit G,di G])
  ·refine wq<|wm Z<|wy (aO ah Z)<|wm Z<|wy (aO ah Z)<|wy (dN Z Z)<|wn Z<|bA Z (λxr=> ?_) (λxr=> ?_)
   ·refine wq<|wn Z<|bT ?_;refine⟨_,Z,?_⟩;exact bg (Value.int .i64) (by rw[hc,MM bb Zh hit G,df G,di G])
   ·refine aH<|wq<|wn Z<|bT ?_;refine⟨_,Z,?_⟩;exact bg (Value.int .i64) (by rw[hc,MM bb Zh hit G,df G,df G])
variable {u:AH} {i k:Int} {w:World} {an:AF} {ar am:Nat}
theorem LG (s:AH): ∀n:Nat,0<n->iH s n<n
 | 1,_=>by
  have e:iH s 1=0:=by
   rw[iH,iH];split<;>rfl
  omega
 |n+2,_=>by
  have ih:=LG s (n+1) G;rw[iH];split<;>omega
theorem aKy (i1:1<=i) (hk:k=iH u i.toNat) (h:cmpL (jW u i) (jW u k)<0):i=iH u (i+1).toNat:=by
 rw[show(i+1).toNat=i.toNat+1 by omega,iH,di (by rw[<-hk,lc G];exact h)];omega
theorem aSc (i1:1<=i) (hk:k=iH u i.toNat) (h: ¬cmpL (jW u i) (jW u k)<0):k=iH u (i+1).toNat:=by
 rw[show(i+1).toNat=i.toNat+1 by omega,iH,df (by rw[<-hk,lc G];exact h),hk]
theorem bEg (al:Rd w an ar am 1 (ints .u8 u)) (ac:aL u) (hN:u.length<=1000000):
  CF 116 #[sl an ar am] w (λv R'=> ∃A c,v=sl A (lw u).length c/\R'=[(ru 5 A ((lw u).length) c (lw u))]):=by
 obtain rfl:=al.lenI;refine fn1 Tryz.func116 Z Z Z ?_;have mv:=al.max;have Hb:=TE u;have hfe:([u.drop (nC u).toNat,u.take (nC u).toNat]:AD).flatten=lw u:=by simp[lw,jW]
 have hlw:=jQ u;refine wq<|wn Z<|wq<|wm Z<|wa (aC bIx Z (Ct.quiet (λw hw=>bFp ((al.c _) w hw) cE))) ?_;rintro _ _⟨rfl,rfl⟩;refine wn Z<|aD<|bL mixed<|wD 0 Z (aK Z)<|wD 1 Z (aK Z)<|wD 2 Z (fJ ah sz5 Z Z)<|wD 3 Z (aK Z)<|wD 4 Z (aK Z)<|wD 5 Z (gK ah sz5 Z Z (al.c _)) ?_;have l5:SlW .u8 w [sl (jD an (nC u).toNat am 1) (u.length-(nC u).toNat) (am-(nC u).toNat),sl an ((nC u).toNat) am] [u.drop (nC u).toNat,u.take (nC u).toNat]:=((eB _ _).snoc (al.fromI (l:=(nC u).toNat) G) (λx hx=>dQ (ac x (ng hx))) (by rw[bn];omega)).snoc (al.toI G) (λx hx=>dQ (ac x (ll hx))) (by rw[ax];omega);refine wC 6 Z (iA [Value.slice (jD an (nC u).toNat am 1) (u.length-(nC u).toNat) (am-(nC u).toNat),Value.slice an ((nC u).toNat) am] ay mJ Z Z Z Z) ?_;rintro _ _⟨db,rfl,rfl⟩;refine⟨.inr hrZ,?_⟩;refine wC 7 Z (aC xX Z (Ct.fresh (λw hw=>gQ ((rdr 0 Z) w hw) (l5.c hw) (by rw[hfe];exact⟨G,cD⟩)))) ?_;rintro _ _⟨_,rfl,fg,fi,rfl,rfl⟩;refine⟨.inr hrZ,?_⟩;refine wD 8 Z (bB Z)<|wN<|aX [0] 99 cC Z ?_;refine⟨_,Z,?_⟩;rw[hfe];exact⟨_,_,Z,Z⟩
theorem qD (al:Rd w an ar am 1 (ints .u8 u)) (hN:u.length<=1000000):
  CF 57 #[sl an ar am] w (λv R'=> ∃A c,v=sl A (u).length c/\R'=[(ru 5 A ((u).length) c (u))]):=by
 obtain rfl:=al.lenI;refine fn1 Tryz.func57 Z Z Z ?_;have mv:=al.max;refine wq<|bR (R1:=[(ru 5 none 0 0 ([]))]) (Sub.refl _) (λ_ h=>h.nil 5 1)<|wn Z<|aD<|wq<|wm Z<|wy (aEy ah Z Z)<|aA<|IQ Z (λbc=> ?_) (λbc=> ?_)
 ·refine wq<|wn Z<|aX [0] 99 cC Z ?_;refine⟨_,Z,?_⟩;obtain rfl:=aKd al bc;exact⟨_,_,Z,Z⟩
 ·refine aH<|wq<|wa (bQ .u8 [] ah zs5 Z Z Z) ?_;rintro _ _⟨db,rfl,rfl⟩;refine wm Z<|wa (aY 0 Z ah zb5 Z Z Z (al.c _)) ?_;rintro _ _⟨fg,fi,rfl,rfl⟩;refine bK (v:=sl fg (0+u.length) fi) Z<|wn Z<|aX [0] 99 cC Z ?_;refine⟨_,Z,?_⟩;simp only[ig,mg];exact⟨_,_,Z,Z⟩
theorem CB {qe:AF} {qv qk:Nat} {t:AH} (al:Rd w an ar am 1 (ints .u8 u)) (xp:Rd w qe qv qk 1 (ints .u8 t)) (ac:aL u) (As:aL t):
  CF 120 #[sl an ar am,sl qe qv qk] w (λv R'=>v=I (cmpL u t)):=by
 obtain rfl:=al.lenI;obtain rfl:=xp.lenI;refine fn1 Tryz.func120 Z Z Z ?_;have mv:=al.max;have m_t:=xp.max;refine wq<|wn Z<|wq<|wm Z<|wm Z<|wa (bKc Tryz.func193 cA cA cA cA Z Z (al.c _) (xp.c _) ac As) ?_;rintro _ _⟨rfl,rfl⟩;refine wn Z<|bT ?_;refine⟨_,Z,?_⟩;rfl
theorem aIw (al:Rd w an ar am 1 (ints .u8 u)) (hi:0<=i/\i<u.length) (hk:0<=k/\k<u.length) (hN:u.length<=1000000):
  CF 162 #[sl an ar am,I i,I k] w (λv R'=>v=I (cmpL (jW u i) (jW u k))):=by
 obtain rfl:=al.lenI;refine fn1 Tryz.func162 Z Z Z ?_;have mv:=al.max;refine wq<|wn Z<|aD<|wq<|wm Z<|wy (Yl.f (fO Z Z))<|wm Z<|aB Z Z<|wm Z<|aB Z Z<|wm Z<|aB Z Z ?_;refine wy (aO ah Z)<|aB Z Z<|wy (Yl.f (jN Z Z))<|wy (aP Z Z)<|wm Z<|aB Z Z<|wm Z<|aB Z Z<|wy (Yl.f (fO Z Z))<|wy (aP Z Z)<|wm Z<|aB Z Z<|wm Z<|aB Z Z<|wm Z ?_;refine aB Z Z<|wy (aO ah Z)<|aB Z Z<|wy (Yl.f (jN Z Z))<|wy (aP Z Z)<|aA<|aN Z<|aH<|wq<|wm Z<|wm Z<|wa (aC bEv Z (Ct.fresh (λw hw=>IZ ((al.c _) w hw) ⟨hi.1,G⟩ cE))) ?_;rintro _ _⟨_,rfl,cr,co,rfl,rfl⟩;refine wm Z<|wm Z<|wa (aC bEv Z (Ct.fresh (λw hw=>IZ ((al.c _) w hw) ⟨hk.1,G⟩ cE))) ?_;rintro _ _⟨_,rfl,me,mz,rfl,rfl⟩;refine wa (aC bGw Z (Ct.quiet (λw hw=>OD ((rdr 1 Z) w hw) ((rdr 0 Z) w hw)))) ?_;rintro _ _⟨rfl,rfl⟩;refine wn Z<|aX [] 99 cC Z ?_;refine⟨_,Z,?_⟩;rfl
theorem bAs (al:Rd w an ar am 1 (ints .u8 u)) (hN:u.length<=1000000):
  CF 94 #[sl an ar am] w (λv R'=>v=I (nC u)):=by
 obtain rfl:=al.lenI;refine fn1 Tryz.func94 Z Z Z ?_;have mv:=al.max;refine wq<|wn Z<|wq<|wn Z<|aD<|wq<|wn Z<|aI ?_;refine dS (λ(i:Int) (k:Int)=>[(0,sl an u.length am),(3,I k),(4,I i)]) (λi k=>[]) (λi k=>(1<=i)/\(i<=u.length\/i=1)/\(k=iH u i.toNat)) (λi k=>(u.length-i).toNat) ?_ ?_
 ·exact⟨1,0,⟨G,G,(by have:=LG u 1 cC;show(0:Int)=((iH u 1:Nat):Int);omega)⟩,KP⟩
 intro i k ⟨ij,Qu,hk⟩;have Nx:=LG u i.toNat G;refine aD<|wq<|wm Z<|wm Z<|wy (aO ah Z)<|wL Z Z<|aA<|bA Z (λbc=> ?_) (λbc=> ?_)
 ·refine aH<|aD<|aI<|wq<|wm Z<|wm Z<|wm Z<|wa (aC bJd Z (Ct.quiet (λw hw=>aIw ((al.c _) w hw) cE cE cE))) ?_;rintro _ _⟨rfl,rfl⟩;refine wL Z Z<|aA<|bA Z (λda=> ?_) (λda=> ?_)
  ·refine aJ<|wm Z<|wn Z<|aJ<|wm Z<|wA Z Z<|wn Z ?_;exact⟨i+1,i,⟨G,G,(aKy ij hk cF)⟩,G,KP⟩
  ·refine aH<|aJ<|wm Z<|wA Z Z<|wn Z ?_;exact⟨i+1,k,⟨G,G,(aSc ij hk cF)⟩,G,KP⟩
 ·refine aS<|wq<|wm Z<|wn Z<|bT ?_;refine⟨_,Z,?_⟩;rcases fe u.length with z|z
  ·obtain rfl:k=0:=G
   have e:nC u=0:=by unfold nC;rw[z];rfl
   rw[e]
  ·obtain rfl:i=u.length:=G
   rw[hk,bq];rfl
theorem bEh (al:Rd w an ar am 1 (ints .u8 u)) (hN:u.length<=1000000):
  CF 52 #[sl an ar am] w (λv R'=> ∃A c,v=sl A (lw u).length c/\R'=[(ru 5 A ((lw u).length) c (lw u))]):=by
 obtain rfl:=al.lenI;refine fn1 Tryz.func52 Z Z Z ?_;have mv:=al.max;have Hb:=TE u;refine wq<|wn Z<|wq<|wm Z<|wm Z<|wa (aC bKq Z (Ct.quiet (λw hw=>bAs ((al.c _) w hw) cE))) ?_;rintro _ _⟨rfl,rfl⟩;refine wa (aC bEv Z (Ct.fresh (λw hw=>IZ ((al.c _) w hw) ⟨Hb.1,Hb.2.1⟩ cE))) ?_;rintro _ _⟨_,rfl,cr,co,rfl,rfl⟩;refine wn Z<|aX [0] 99 cC Z ?_;exact⟨_,Z,_,_,Z,Z⟩
theorem RF {L:AH} {z:Int} (i1:1<=i) (hi:i<u.length) (hl:L.length=u.length) (hM: ∀j:Int,0<=j->j<i->j<u.length->MB u (j+1).toNat (rd L j)) (h:MB u (i.toNat+1) z): ∀j:Int,0<=j->j<i+1->j<u.length->MB u (j+1).toNat (rd (upd L i z) j):=λj h0 h1 h2=>by
 by_cases e:j=i
 ·subst e;rw[eT G G,show(j+1).toNat=j.toNat+1 by omega];exact h
 ·rw [fE G h0 (λq=>e q.symm)];exact hM j h0 G h2
theorem aEc (al:Rd w an ar am 1 (ints .u8 u)) (hN:u.length<=1000000):
  CF 242 #[sl an ar am] w (λv R'=> ∃(A:AF) (c:Nat) (L:AH),v=sl A L.length c/\L.length=u.length/\(∀j:Int,0<=j->j<u.length->j<u.length->MB u (j+1).toNat (rd L j))/\R'=[(ri 3 A L.length c L)]):=by
 obtain rfl:=al.lenI;refine fn1 Tryz.func242 Z Z Z ?_;have mv:=al.max;refine wq<|wn Z<|wq<|wm Z<|wy (aO ah Z)<|wa (dM aa zb3 Z Z) ?_;rintro _ _⟨ao,rfl,rfl⟩;refine fA (R1:=[(ri 3 (GG ao) u.length u.length (List.replicate u.length (0:Int)))]) Z<|bK (v:=sl (GG ao) u.length u.length) Z<|wn Z<|wq<|wn Z<|aD<|wq<|wn Z<|aI ?_;refine gW (λ(i:Int) (z:Int) (L:AH)=>[(0,sl an u.length am),(3,sl (GG ao) u.length u.length),(4,I z),(5,I i)]) (λi z L=>[(ri 3 (GG ao) u.length u.length L)]) (λi z L=>(1<=i)/\(i<=u.length\/i=1)/\(L.length=u.length)/\(∀j:Int,0<=j->j<i->j<u.length->MB u (j+1).toNat (rd L j))/\(MB u i.toNat z)) (λi z L=>(u.length-i).toNat) ?_ ?_
 ·exact⟨1,0,List.replicate u.length (0:Int),⟨G,G,(by rw[cz]),(λj h0 h1 h2=>by obtain rfl:j=0:=G;have e:rd (List.replicate u.length (0:Int)) 0=0:=(by unfold rd;rw[af,yl];split<;>rfl);rw[e];exact MB.one),(MB.one)⟩,KP⟩
 intro i z L ⟨ij,Qu,u4,hM,hn⟩;refine aD<|wq<|wm Z<|wm Z<|wy (aO ah Z)<|wL Z Z<|aA<|bA Z (λbc=> ?_) (λbc=> ?_)
 ·refine aH<|aD<|aI<|aD<|aI ?_;refine lF (λ(m:Int)=>[(0,sl an u.length am),(3,sl (GG ao) u.length u.length),(4,I m),(5,I i)]) (λm=>[(ri 3 (GG ao) u.length u.length L)]) (λm=>(KI u i.toNat m)) (λm=>m.toNat) ?_ ?_
  ·exact⟨z,(KI.init hn),KP⟩
  intro m hK;have hKb:=hK.bd;refine aD ?_;refine zK [(0,sl an u.length am),(3,sl (GG ao) u.length u.length),(4,I m),(5,I i),(27, .bool (decide ((0<m)/\((rd u i)≠(rd u m)))))] [(ri 3 (GG ao) u.length u.length L)] ?_ ?_
  ·refine bL mixed<|wD 0 Z (aK Z)<|wD 1 Z (dN Z Z)<|wD 2 Z (aK Z)<|rG 17 Z (λda=> ?_) (λda=> ?_)
   ·refine wG 3 Z Z Z (aK Z)<|wG 4 Z Z Z (aK Z)<|wG 5 Z Z Z (aG ah sz5 Z Z (al.c _))<|wG 6 Z Z Z (aW dh Z Z (al.c _))<|wG 7 Z Z Z (aK Z)<|wG 8 Z Z Z (aK Z)<|wG 9 Z Z Z (aG ah sz5 Z Z (al.c _))<|wG 10 Z Z Z (aW dh Z Z (al.c _))<|wG 11 Z Z Z (iI Z Z)<|wD 12 Z (aQ Z Z)<|wN ?_;exact KP
   ·refine wO 3 Z Z Z<|wO 4 Z Z Z<|wO 5 Z Z Z<|wO 6 Z Z Z<|wO 7 Z Z Z<|wO 8 Z Z Z<|wO 9 Z Z Z<|wO 10 Z Z Z<|wO 11 Z Z Z<|wD 12 Z (aP Z Z)<|wN ?_;exact KP
  refine bA Z (λfk=> ?_) (λfk=> ?_)
  ·have ff:rd u m≠rd u i:=λe=>fk.2 e.symm;have Xy:=hM (m-1) G G G;rw[show(m-1+1).toNat=m.toNat by omega] at Xy;refine aH<|aI<|aJ<|wm Z<|wm Z<|wS Z Z<|wy (aG aa sz3 Z Z (rdr 0 Z))<|wy (aW au Z Z (rdr 0 Z))<|wn Z ?_;exact⟨rd L (m-1),(hK.step (by rw[<-LC,<-LC];exact ff) Xy),(by have:=Xy.bd;omega),KP⟩
  ·refine aS<|aD<|aD<|bL mixed<|wD 0 Z (aK Z)<|wD 1 Z (aK Z)<|wD 2 Z (aG ah sz5 Z Z (al.c _))<|wD 3 Z (aW dh Z Z (al.c _))<|wD 4 Z (aK Z)<|wD 5 Z (aK Z)<|wD 6 Z (aG ah sz5 Z Z (al.c _))<|wD 7 Z (aW dh Z Z (al.c _))<|wD 8 Z (gT Z Z)<|wN<|bA Z (λiu=> ?_) (λiu=> ?_)
   ·have Re:=hK.hit (by rw[<-LC,<-LC];exact iu.symm);refine aJ<|wm Z<|wA Z Z<|wn Z<|aJ<|wm Z<|wm Z<|wm Z<|wy (aG aa sz3 Z Z (rdr 0 Z))<|bY (bG 0 Z sz3 Z Z) ?_;rintro _ _ rfl;refine fA (R1:=[(ri 3 (GG ao) u.length u.length (upd L i (m+1)))]) Z<|aA<|aJ<|wm Z<|wA Z Z<|wn Z ?_;exact⟨i+1,m+1,upd L i (m+1),⟨G,G,(by rw[aT];exact u4),(RF ij G u4 hM Re),(by rw[show(i+1).toNat=i.toNat+1 by omega];exact Re)⟩,G,KP⟩
   ·have Re:=hK.miss G (by rw[<-LC,<-LC];exact λe=>iu e.symm);refine aH<|aJ<|wm Z<|wm Z<|wm Z<|wy (aG aa sz3 Z Z (rdr 0 Z))<|bY (bG 0 Z sz3 Z Z) ?_;rintro _ _ rfl;refine fA (R1:=[(ri 3 (GG ao) u.length u.length (upd L i m))]) Z<|aA<|aJ<|wm Z<|wA Z Z<|wn Z ?_;exact⟨i+1,m,upd L i m,⟨G,G,(by rw[aT];exact u4),(RF ij G u4 hM Re),(by rw[show(i+1).toNat=i.toNat+1 by omega];exact Re)⟩,G,KP⟩
 ·refine aS<|wq<|wm Z<|wn Z<|bN (R1:=[(ri 3 (GG ao) u.length u.length L)]) (λ_ h=>h.sel [0] cC Z) ?_;exact⟨_,Z,_,_,L,by rw[u4],u4,λj h0 h1 _=>hM j h0 G h1,by rw[u4]⟩
theorem aLb (al:Rd w an ar am 1 (ints .u8 u)) (hN:u.length<=1000000):
  CF 189 #[sl an ar am] w (λv R'=>v=I (lp u)):=by
 obtain rfl:=al.lenI;refine fn1 Tryz.func189 Z Z Z ?_;have mv:=al.max;refine wq<|wn Z<|aD<|wq<|wm Z<|wy (aO ah Z)<|wy (gT Z Z)<|aA<|bA Z (λbc=> ?_) (λbc=> ?_)
 ·refine wq<|wn Z<|bT ?_;refine⟨_,Z,?_⟩;exact bg (Value.int .i64) (by rw[dx (show u.length=0 by omega)];rfl)
 ·refine aH<|wq<|wm Z<|wy (aO ah Z)<|wm Z<|wa (aC bIi Z (Ct.fresh (λw hw=>aEc ((al.c _) w hw) cE))) ?_;rintro _ _⟨_,rfl,cr,co,L_3,rfl,u4,hLM,rfl⟩;refine wm Z<|wy (aO ah Z)<|wS Z Z<|wy (aG aa sz3 Z Z (rdr 0 Z))<|wy (aW au Z Z (rdr 0 Z))<|wy (nG Z Z (by have hq:=(hLM (u.length-1) G G G).bd;omega)) ?_;refine wn Z<|aX [] 99 cC Z ?_;refine⟨_,Z,?_⟩;exact bg (Value.int .i64) (MB.least G (by have:=hLM (u.length-1) G G G;rw[show((u.length:Int)-1+1).toNat=u.length by omega] at this;exact this))
theorem aPt (al:Rd w an ar am 1 (ints .u8 u)) (hN:u.length<=1000000):
  CF 115 #[sl an ar am] w (λv R'=> ∃(A:AF) (c:Nat),v= .tuple #[sl A (jO u).length c,I (gF u)]/\R'=[(ru 5 A ((jO u).length) c (jO u))]):=by
 obtain rfl:=al.lenI;refine fn2 Tryz.func115 Z Z Z ?_;have mv:=al.max;refine wq<|bR (R1:=[(ru 5 none 0 0 ([]))]) (Sub.refl _) (λ_ h=>h.nil 5 1)<|wg Z<|wn Z<|aD<|wq<|wm Z<|wy (aO ah Z)<|wy (gT Z Z)<|aA<|bA Z (λbc=> ?_) (λbc=> ?_)
 ·refine wq<|wg Z<|wn Z<|aX [0] 99 cC Z ?_;refine⟨_,_,Z,Z,?_⟩;obtain rfl:=dx (show u.length=0 by omega);exact⟨_,_,Z,Z⟩
 ·have Mm:=LH (u:=u) G;refine aH<|wq<|wm Z<|wa (aC bIy Z (Ct.quiet (λw hw=>aLb ((al.c _) w hw) cE))) ?_;rintro _ _⟨rfl,rfl⟩;refine wn Z<|aD<|wq<|wm Z<|wy (aO ah Z)<|wm Z<|wy (xZ Z Z)<|wy (iI Z Z)<|aA<|bA Z (λda=> ?_) (λda=> ?_)
  ·refine aJ<|wm Z<|wy (aO ah Z)<|wn Z<|aD<|bL mixed<|wD 0 Z (aK Z)<|wD 1 Z (aK Z)<|wD 2 Z (gK ah sz5 Z Z (al.c _))<|wD 4 Z (aK Z)<|wD 5 Z (aO ah Z)<|wD 6 Z (aK Z)<|wD 7 Z (CY Z Z G G G)<|wC 3 Z (aC aMl Z (Ct.fresh (λw hw=>qD ((RdC.toI (al.c _) G) w hw) (by rw[ax];omega)))) ?_;rintro _ _⟨_,rfl,cr,co,rfl,rfl⟩;refine⟨.inr hrZ,?_⟩;refine wD 8 Z (bB Z)<|wD 9 Z (bB Z)<|wN<|aX [0] 99 cC Z ?_;refine⟨_,_,Z,Z,?_⟩;have e:rl u=u.length:=by unfold rl;rw[di cF]
   unfold jO gF;rw[e];exact⟨_,_,Z,Z⟩
  ·refine aH<|aD<|bL mixed<|wD 0 Z (aK Z)<|wD 1 Z (aK Z)<|wD 2 Z (gK ah sz5 Z Z (al.c _))<|wD 4 Z (aK Z)<|wD 5 Z (aO ah Z)<|wD 6 Z (aK Z)<|wD 7 Z (CY Z Z G G G)<|wC 3 Z (aC aMl Z (Ct.fresh (λw hw=>qD ((RdC.toI (al.c _) G) w hw) (by rw[ax];omega)))) ?_;rintro _ _⟨_,rfl,me,mz,rfl,rfl⟩;refine⟨.inr hrZ,?_⟩;refine wD 8 Z (bB Z)<|wD 9 Z (bB Z)<|wN<|aX [0] 99 cC Z ?_;refine⟨_,_,Z,Z,?_⟩;have e:rl u=lp u:=by unfold rl;rw[df cF]
   unfold jO gF;rw[e];exact⟨_,_,Z,Z⟩
variable {w w0:World} {an:AF} {ar am B g:Nat} {u:AH} {R:List Row} {V:Int}
theorem uL (al:Rd w an ar am 1 (ints .u8 u)) (hN:u.length<=1000000):
  CF 50 #[sl an ar am] w (λv R'=> ∃g A c,v=PG g/\R'=[(rc 146 1 g [sl A u.length c]),(ru 5 A u.length c u)]):=by
 obtain rfl:=al.lenI;refine fn1 Tryz.func50 Z Z Z ?_;have mv:=al.max;refine wq<|wn Z<|wq<|wm Z<|wa (aC aMl Z (Ct.fresh (λw hw=>qD ((al.c _) w hw) hN))) ?_;rintro _ _⟨_,rfl,cr,co,rfl,rfl⟩;refine wy (gV (v:= .agg #[sl cr u.length co]) Z (λw=>cA))<|wa (dC (sz:=1) rfl rfl) ?_;rintro _ _⟨ew,rfl,rfl⟩;refine wn Z<|bN (R1:=[(rc 146 1 ew [sl cr u.length co]),(ru 5 cr u.length co u)]) hiZ ?_;exact⟨_,Z,_,_,_,Z,Z⟩
theorem yK {k:Int} (al:RdC B w0 R an ar am 1 (ints .u8 u)) (bx:ar=u.length) (hN:u.length<=1000000) (hk:0<=k/\k<=u.length):
  CT 156 #[PG g,I k] B w0 ((rc 146 1 g [sl an ar am])::R) (λv R'=> ∃A1 c1,v= .tuple #[sl A1 k.toNat c1,bt]/\R'=(ru 5 A1 k.toNat c1 (u.take k.toNat))::(rc 146 1 g [sl ((jD an k.toNat am 1)) (ar-k.toNat) (am-k.toNat)])::R):=by
 subst bx;refine fn2 Tryz.func156 Z Z Z ?_;refine wq<|wg Z<|wn Z<|aD<|wq<|wm Z<|wy (kI yf Z Z)<|wm Z<|aB Z Z<|wm Z<|aB Z Z<|wy (Yl.f (fO Z Z)) ?_;refine wy (aP Z Z)<|wm Z<|aB Z Z<|wm Z<|aB Z Z<|wm Z<|aB Z Z<|wy (aF Z)<|aB Z Z<|wy (yF 0 0 Aa dP Z)<|aB Z Z<|wy (yL 0 ah Z Z Z)<|aB Z Z<|wy (aO ah Z)<|aB Z Z ?_;refine wy (Yl.f (dN Z Z))<|wy (aP Z Z)<|aA<|aN Z<|aH<|wq<|wm Z<|wy (aF Z)<|wy (yF 0 0 Aa dP Z)<|wy (yL 0 ah Z Z Z)<|wm Z<|wy (gK ah sz5 Z Z (RdC.right al [_]))<|wa (aC aMl Z (Ct.fresh (λw hw=>qD ((RdC.toI (RdC.right al [_]) G) w hw) (by rw[ax];omega)))) ?_;rintro _ _⟨_,rfl,cr,co,rfl,rfl⟩;refine wn Z<|wq<|wm Z<|wm Z<|wy (aF Z)<|wy (yF 0 0 Aa dP Z)<|wy (yL 1 ah Z Z Z)<|wm Z<|wy (fJ ah sz5 Z Z)<|wy (aF Z)<|wy (yF 0 0 Aa dP Z)<|bY (aZ 1 Z Z Z dP Z Z Z Z (ak Z)) ?_;rintro _ _ rfl;refine aA<|wq<|wm Z<|wg Z<|wn Z<|bN (R1:=((ru 5 cr (((u).take (k).toNat).length) co ((u).take (k).toNat))::(rc 146 1 g [sl (jD an (k).toNat am 1) (u.length-(k).toNat) (am-(k).toNat)])::R)) hiZ ?_;refine⟨_,_,Z,Z,?_⟩;have e:(u.take k.toNat).length=k.toNat:=by rw[ax];omega
 rw[e];exact⟨_,_,Z,Z⟩
theorem aLp {jx:AF} {pm jz:Nat} {b:AH} {k:Nat} (gv:Rd w jx pm jz 1 (ints .u8 b)) (dd:aL b) (hN:b.length<=1000000) (h:uT b V k):CF 227 #[sl jx pm jz] w (λv R'=>v= .tuple #[.int .u64 V,I (k:Int),bt]):=
 (aZj gv dd hN).mono λv R' hv=>by
  rcases hv with⟨V',k',g,rfl⟩|⟨g,rfl⟩
  ·obtain ⟨rfl,rfl⟩:=g.one h;rfl
  ·exact(g ⟨V,k,h⟩).elim
theorem SB {dt:Int} {m:Nat} (al:RdC B w0 R an ar am 1 (ints .u8 u)) (bx:ar=u.length) (hN:u.length<=1000000) (ac:aL u) (hG:uT u V m) (hm:V<=dt) (hb:dt<=9223372036854775807):
  CT 157 #[PG g,I dt] B w0 ((rc 146 1 g [sl an ar am])::R) (λv R'=>v= .tuple #[I V,bt]/\R'=(rc 146 1 g [sl (jD an m am 1) (ar-m) (am-m)])::R):=by
 subst bx;have Zd:=hG.1;have hgm:m<=u.length:=by obtain⟨_,h2,t,h3⟩:=hG;have h4:=bg List.length h3;rw[ai] at h4;omega
 refine fn2 Tryz.func157 Z Z Z ?_;refine wq<|wg Z<|wn Z<|aD<|wq<|wm Z<|wy (kI yf Z Z)<|wm Z<|aB Z Z<|wm Z<|aB Z Z<|wy (Yl.f (fO Z Z)) ?_;refine wy (aP Z Z)<|aA<|aN Z<|aH<|wq<|wm Z<|wy (aF Z)<|wy (yF 0 0 Aa dP Z)<|wy (yL 0 ah Z Z Z)<|wa (aC bIp Z (Ct.quiet (λw hw=>aLp ((RdC.right al [_]) w hw) ac hN hG))) ?_;rintro _ _⟨rfl,rfl⟩;refine wm Z<|wX Z Z<|wX Z Z<|wX Z Z<|wg Z<|wg Z<|wn Z<|aD<|wq<|wm Z<|wy (dH Z)<|wm Z<|aB Z Z ?_;refine wm Z<|aB Z Z<|wm Z<|aB Z Z<|wy (jI au gy Z)<|aB Z Z<|wy (Yl.f (dN Z Z))<|wy (aP Z Z)<|aA<|aN Z<|aH<|wq<|wm Z<|wm Z ?_;refine wy (aF Z)<|wy (yF 0 0 Aa dP Z)<|wy (yL 0 ah Z Z Z)<|wm Z<|wy (fJ ah sz5 Z Z)<|wy (aF Z)<|wy (yF 0 0 Aa dP Z)<|bY (aZ 0 Z Z Z dP Z Z Z Z (ak Z)) ?_;rintro _ _ rfl;refine aA<|wq<|wm Z<|wy (jJ gy au Z)<|wg Z<|wn Z<|bN (R1:=((rc 146 1 g [sl (jD an ((m:Int)).toNat am 1) (u.length-((m:Int)).toNat) (am-((m:Int)).toNat)])::R)) hiZ ?_;refine⟨_,_,Z,Z,?_⟩;exact⟨Z,Z⟩
variable {w:World} {k:Int}
theorem oU {z7:AF} {Vl By:Nat} {ks:AH} (Lw:Rd w z7 Vl By 1 (ints .i64 ks)) (dr:(0<=k/\k<=1048576)/\ ∀x∈ks,0<=x/\x<k):
  CF 264 #[sl z7 Vl By,I k] w (λv R'=> ∃A c,v= .tuple #[sl A k.toNat c,bt]/\R'=[(ri 3 A k.toNat c (dY ks k))]):=by
 obtain rfl:=Lw.lenI;refine fn2 Tryz.func264 Z Z Z ?_;have m_ks:=Lw.max;have hk:=dr.1;refine wq<|wg Z<|wn Z<|aD<|wq<|wm Z<|wL Z Z<|wm Z<|dD 3 [(0,sl z7 ks.length By),(1,I k),(14, .bool (decide ((k<0)\/(1048576<k))))] [] ?_ ?_
 ·refine bP 11 Z (λbc=> ?_) (λbc=> ?_)
  ·refine aM Z Z Z Z<|aM Z Z Z Z<|wy (aQ Z Z)<|aA ?_;exact KP
  ·refine aB Z Z<|wm Z<|aB Z Z<|wy (dN Z Z)<|wy (aP Z Z)<|aA ?_;exact KP
 refine wZ 14 Z G<|aA<|aN Z<|aH<|wq<|wm Z<|wa (dM aa zb3 Z Z) ?_;rintro _ _⟨ao,rfl,rfl⟩;refine bK (v:=sl (GG ao) ((k).toNat) ((k).toNat)) Z<|wn Z<|aD<|wq<|wm Z<|wy (aO aa Z)<|wm Z<|aA<|aI ?_;refine dS (λ(m:Int) (V:AH)=>[(1,I k),(6,sl (GG ao) ((k).toNat) ((k).toNat)),(17,sl z7 ks.length By),(18,I (ks.length:Int)),(19,I m)]) (λm V=>[(ri 3 (GG ao) ((k).toNat) ((k).toNat) V)]) (λm V=>(0<=m)/\(m<=ks.length)/\(V=dY (ks.take m.toNat) k)) (λm V=>(ks.length-m).toNat) ?_ ?_
 ·exact⟨0,List.replicate ((k).toNat) (0:Int),⟨G,G,((ZI k).symm)⟩,KP⟩
 intro m V ⟨sv,nd,hV⟩;refine wq<|wL Z Z<|aA<|aD<|bA Z (λda=> ?_) (λda=> ?_)
 ·have hx:=dr.2 _ (bF (L:=ks) sv G)
  have hb:0<=rd V (rd ks m)/\rd V (rd ks m)<=m:=by
   have a:=MI (ks:=ks.take m.toNat) (k:=k) (x:=rd ks m);rw[<-hV,ax] at a;omega
  refine aH<|aD<|aI<|wq<|wy (aG aa sz3 Z Z (Lw.c _))<|wy (aW au Z Z (Lw.c _))<|wn Z<|aD<|wq<|wm Z<|wL Z Z<|wm Z ?_;refine dD 4 [(1,I k),(6,sl (GG ao) ((k).toNat) ((k).toNat)),(8,I (rd ks m)),(17,sl z7 ks.length By),(18,I (ks.length:Int)),(19,I m),(29, .bool (decide (((rd ks m)<0)\/(k<=(rd ks m)))))] [(ri 3 (GG ao) ((k).toNat) ((k).toNat) V)] ?_ ?_
  ·refine bP 25 Z (λfk=> ?_) (λfk=> ?_)
   ·refine aM Z Z Z Z<|aM Z Z Z Z<|aM Z Z Z Z<|wy (aQ Z Z)<|aA ?_;exact KP
   ·refine aB Z Z<|wm Z<|aB Z Z<|wm Z<|aB Z Z<|wy (jN Z Z)<|wy (aP Z Z)<|aA ?_;exact KP
  refine wZ 29 Z G<|aA<|aN Z<|aH<|aJ<|wm Z<|wm Z<|wy (aG aa sz3 Z Z (rdr 0 Z))<|wy (aW au Z Z (rdr 0 Z))<|wA Z Z<|wy (aG aa sz3 Z Z (rdr 0 Z))<|bY (bG 0 Z sz3 Z Z) ?_;rintro _ _ rfl;refine aA<|aJ<|wA Z Z<|wm Z<|aA ?_;exact⟨m+1,upd V (rd ks m) ((rd V (rd ks m))+1),⟨G,G,(by rw[dF sv G,<-QV hx.1 hx.2,<-hV])⟩,G,KP⟩
 ·refine aS<|wq<|wm Z<|wg Z<|wn Z<|aX [0] 99 cC Z ?_;refine⟨_,_,Z,Z,?_⟩;have e:ks.take m.toNat=ks:=bi G;rw[e] at hV;subst hV;exact⟨_,_,Z,Z⟩
theorem xA {Om:AF} {Vk Os:Nat} {cs:AH} (Lv:Rd w Om Vk Os 1 (ints .i64 cs)) (ie: ∀x∈cs,0<=x) (Is:cs.sum<=1000000000) (ki:cs.length<=1048576):
  CF 280 #[sl Om Vk Os] w (λv R'=> ∃A c,v=sl A (cK cs).length c/\R'=[(ri 3 A ((cK cs).length) c (cK cs))]):=by
 obtain rfl:=Lv.lenI;refine fn1 Tryz.func280 Z Z Z ?_;have m_cs:=Lv.max;refine wq<|wn Z<|wq<|wm Z<|wy (aO aa Z)<|wa (dM aa zb3 Z Z) ?_;rintro _ _⟨ao,rfl,rfl⟩;refine bK (v:=sl (GG ao) cs.length cs.length) Z<|wn Z<|wq<|wn Z<|aD<|wq<|wm Z<|wy (aO aa Z)<|wm Z<|aA<|aI ?_;refine gW (λ(i:Int) (n:Int) (V:AH)=>[(3,sl (GG ao) cs.length cs.length),(4,I n),(10,sl Om cs.length Os),(11,I (cs.length:Int)),(12,I i)]) (λi n V=>[(ri 3 (GG ao) cs.length cs.length V)]) (λi n V=>(0<=i)/\(i<=cs.length)/\(n=ps cs i)/\(V.length=cs.length)/\(∀j:Int,0<=j->j<i->rd V j=ps cs j)) (λi n V=>(cs.length-i).toNat) ?_ ?_
 ·exact⟨0,0,List.replicate cs.length (0:Int),⟨G,G,(Z),(by rw[cz]),(λj h1 h2=>G)⟩,KP⟩
 intro i n V ⟨bb,ij,hn,hl,hV⟩;refine wq<|wL Z Z<|aA<|aD<|bA Z (λbc=> ?_) (λbc=> ?_)
 ·have pj:=vM ie i;have rr:=vM ie (i+1);rw[mP bb G] at rr;refine aH<|aD<|aI<|wq<|wm Z<|wy (aG aa sz3 Z Z (Lv.c _))<|wy (aW au Z Z (Lv.c _))<|wg Z<|wn Z<|wq<|wm Z<|wm Z ?_;refine wm Z<|wy (aG aa sz3 Z Z (rdr 0 Z))<|bY (bG 0 Z sz3 Z Z) ?_;rintro _ _ rfl;refine aA<|aJ<|wm Z<|wm Z<|wA Z Z<|wn Z<|aJ<|wA Z Z<|wm Z<|aA ?_;exact⟨i+1,n+(rd cs i),upd V i n,⟨G,G,(by rw[mP bb G,hn]),(by rw[aT];exact hl),(eX bb G hV hn)⟩,G,KP⟩
 ·refine aS<|wq<|wm Z<|wn Z<|aX [0] 99 cC Z ?_;refine⟨_,Z,?_⟩;obtain rfl:V=cK cs:=bE (hl.trans (eQ cs).symm) λj h1 h2=>by rw[nN h1 G];exact hV j h1 G
  rw[eQ];exact⟨_,_,Z,Z⟩
theorem uD {nh:AF} {l6 np:Nat} {order:AH} {tg:AF} {Kd ti:Nat} {keys:AH} (pd:Rd w nh l6 np 1 (ints .i64 order)) (ns:Rd w tg Kd ti 1 (ints .i64 keys)) (hk:0<=k/\k<=1048576) (Nw: ∀x∈keys,0<=x/\x<k) (ho: ∀i∈order,0<=i/\i<keys.length) (hlen:order.length<=1000000):
  CF 239 #[sl nh l6 np,sl tg Kd ti,I k] w (λv R'=> ∃A c,v= .tuple #[sl A order.length c,bt]/\R'=[(ri 3 A order.length c (bW order keys k.toNat))]):=by
 obtain rfl:=pd.lenI;obtain rfl:=ns.lenI;refine fn2 Tryz.func239 Z Z Z ?_;have Wx:=pd.max;have m_keys:=ns.max;have Qz: ∀i∈order,0<=rd keys i/\rd keys i<k:=λi hi=>Nw _ (bF (ho i hi).1 (ho i hi).2);refine wq<|wg Z<|wn Z<|aD<|wq<|wm Z<|wm Z<|wa (aC YQ Z (Ct.fresh (λw hw=>oU ((ns.c _) w hw) ⟨hk,Nw⟩))) ?_;rintro _ _⟨_,rfl,cr,co,rfl,rfl⟩;refine wm Z<|wX Z Z<|wX Z Z<|wg Z<|wn Z<|wq<|wm Z<|wy (dH Z)<|aA<|aN Z<|aH<|wq ?_;refine wm Z<|wa (dM aa zb3 Z Z) ?_;rintro _ _⟨ef,rfl,rfl⟩;refine bK (v:=sl (GG ef) ((k).toNat) ((k).toNat)) Z<|wn Z<|aD<|wq<|wm Z<|wy (aO aa Z)<|wm Z<|aA<|aI ?_;refine dS (λ(m:Int) (V:AH)=>[(0,sl nh order.length np),(1,sl tg keys.length ti),(10,sl (GG ef) ((k).toNat) ((k).toNat)),(27,sl nh order.length np),(28,I (order.length:Int)),(29,I m)]) (λm V=>[(ri 3 (GG ef) ((k).toNat) ((k).toNat) V),(ri 3 cr ((k).toNat) co (dY keys k))]) (λm V=>(0<=m)/\(m<=order.length)/\(V=dY ((order.take m.toNat).map (rd keys)) k)) (λm V=>(order.length-m).toNat) ?_ ?_
 ·exact⟨0,List.replicate ((k).toNat) (0:Int),⟨G,G,((ZI k).symm)⟩,KP⟩
 intro m V ⟨sv,nd,hV⟩;refine wq<|wL Z Z<|aA<|aD<|bA Z (λbc=> ?_) (λbc=> ?_)
 ·have hi:=ho _ (bF (L:=order) sv G);have hx:=Qz _ (bF (L:=order) sv G)
  have hb:0<=rd V (rd keys (rd order m))/\rd V (rd keys (rd order m))<=m:=by
   have a:=MI (ks:=(order.take m.toNat).map (rd keys)) (k:=k) (x:=rd keys (rd order m));rw[<-hV,az,ax] at a;omega
  have kd:V.length=k.toNat:=by rw[hV,dV]
  refine aH<|aD<|aI<|wq<|wy (aG aa sz3 Z Z (pd.c _))<|wy (aW au Z Z (pd.c _))<|wn Z<|aD<|wq<|wm Z<|wL Z Z<|wm Z ?_;refine dD 5 [(0,sl nh order.length np),(1,sl tg keys.length ti),(10,sl (GG ef) ((k).toNat) ((k).toNat)),(12,I (rd order m)),(27,sl nh order.length np),(28,I (order.length:Int)),(29,I m),(40, .bool (decide (((rd order m)<0)\/((keys.length:Int)<=(rd order m)))))] [(ri 3 (GG ef) ((k).toNat) ((k).toNat) V),(ri 3 cr ((k).toNat) co (dY keys k))] ?_ ?_
  ·refine bP 35 Z (λda=> ?_) (λda=> ?_)
   ·refine aM Z Z Z Z<|aM Z Z Z Z<|aM Z Z Z Z<|aM Z Z Z Z<|wy (aQ Z Z)<|aA ?_;exact KP
   ·refine aB Z Z<|wm Z<|aB Z Z<|wm Z<|aB Z Z<|wy (aO aa Z)<|aB Z Z<|wy (jN Z Z)<|wy (aP Z Z)<|aA ?_;exact KP
  refine wZ 40 Z G<|aA<|aN Z<|aH<|aJ<|wm Z<|wm Z<|wm Z<|wy (aG aa sz3 Z Z (ns.c _))<|wy (aW au Z Z (ns.c _))<|wy (aG aa sz3 Z Z (rdr 0 Z))<|wy (aW au Z Z (rdr 0 Z))<|wA Z Z<|wy (aG aa sz3 Z Z (rdr 0 Z))<|bY (bG 0 Z sz3 Z Z) ?_;rintro _ _ rfl;refine aA<|aJ<|wA Z Z<|wm Z<|aA ?_;exact⟨m+1,upd V (rd keys (rd order m)) ((rd V (rd keys (rd order m)))+1),⟨G,G,(by rw[dF sv G,jc,List.map_singleton,<-QV hx.1 hx.2,<-hV])⟩,G,KP⟩
 ·have Ds:V=(dY (order.map (rd keys)) k):=by rw[hV,bi G]
  have Ls:(cK V).length=k.toNat:=by rw[eQ,hV,dV]
  refine aS<|wq<|wm Z<|wa (aC aHm Z (Ct.fresh (λw hw=>xA ((rdr 0 Z) w hw) (by rw[Ds];exact mE _ _) (by rw[Ds,MH G Qz];omega) (by rw[Ds,dV];omega)))) ?_;rintro _ _⟨_,rfl,fz,mj,rfl,rfl⟩;refine wn Z<|wq<|wm Z<|wy (aO aa Z)<|wa (dM aa zb3 Z Z) ?_;rintro _ _⟨gh,rfl,rfl⟩;refine bK (v:=sl (GG gh) order.length order.length) Z<|wn Z<|aD<|wq<|wm Z<|wy (aO aa Z)<|wm Z<|aA<|aI ?_;refine gW (λ(q:Int) (S:AH) (Lr:AH)=>[(1,sl tg keys.length ti),(13,sl fz ((cK V).length) mj),(14,sl (GG gh) order.length order.length),(56,sl nh order.length np),(57,I (order.length:Int)),(58,I q)]) (λq S Lr=>[(ri 3 (GG gh) order.length order.length Lr),(ri 3 fz ((cK V).length) mj S),(ri 3 (GG ef) ((k).toNat) ((k).toNat) V),(ri 3 cr ((k).toNat) co (dY keys k))]) (λq S Lr=>(0<=q)/\(q<=order.length)/\(CX order keys S Lr k q)) (λq S Lr=>(order.length-q).toNat) ?_ ?_
  ·exact⟨0,cK V,List.replicate order.length (0:Int),⟨G,G,(by rw[Ds];exact aCd)⟩,KP⟩
  intro q S Lr ⟨io,i8,hP⟩;refine wq<|wL Z Z<|aA<|aD<|bA Z (λfk=> ?_) (λfk=> ?_)
  ·have hi:=ho _ (bF (L:=order) io G);have hx:=Qz _ (bF (L:=order) io G);have bo:=hP.lt Qz io G;have wb:=hP.len;have sr:=hP.alen;refine aH<|aD<|aI<|wq<|wy (aG aa sz3 Z Z (pd.c _))<|wy (aW au Z Z (pd.c _))<|wn Z<|wq<|wm Z<|wm Z<|wm Z<|wm Z ?_;refine wy (aG aa sz3 Z Z (ns.c _))<|wy (aW au Z Z (ns.c _))<|wy (aG aa sz3 Z Z (rdr 1 Z))<|wy (aW au Z Z (rdr 1 Z))<|wm Z<|wy (aG aa sz3 Z Z (rdr 0 Z))<|bY (bG 0 Z sz3 Z Z) ?_;rintro _ _ rfl;refine aA<|aJ<|wm Z<|wm Z<|wm Z<|wy (aG aa sz3 Z Z (ns.c _))<|wy (aW au Z Z (ns.c _))<|wy (aG aa sz3 Z Z (rdr 1 Z))<|wy (aW au Z Z (rdr 1 Z))<|wA Z Z<|wy (aG aa sz3 Z Z (rdr 1 Z))<|bY (bG 1 Z sz3 Z Z) ?_;rintro _ _ rfl;refine aA<|aJ<|wA Z Z<|wm Z<|aA ?_;exact⟨q+1,upd S (rd keys (rd order q)) ((rd S (rd keys (rd order q)))+1),upd Lr (rd S (rd keys (rd order q))) (rd order q),⟨G,G,(hP.step Qz io G)⟩,G,KP⟩
  ·refine aS<|wq<|wm Z<|wg Z<|wn Z<|aX [0] 99 cC Z ?_;refine⟨_,_,Z,Z,?_⟩;have e:=hP.done Qz G;subst e;exact⟨_,_,Z,Z⟩
variable {w:World} {n i j k:Int} {dg:AF} {gr de:Nat} {s:AH}
theorem lU {r:Int} (hr:0<=r/\r<=2) (hn:0<=n/\n<=1000000):
  CF 293 #[I n,I r] w (λv R'=> ∃A c,v=sl A (plc n.toNat r.toNat).length c/\R'=[(ri 3 A ((plc n.toNat r.toNat).length) c (plc n.toNat r.toNat))]):=by
 refine fn1 Tryz.func293 Z Z Z ?_;refine wq<|wn Z<|wq<|bR (R1:=[(ri 3 none 0 0 ([]))]) (Sub.refl _) (λ_ h=>h.nil 3 1)<|wn Z<|aD<|wq<|wm Z<|wn Z ?_;refine aI ?_;refine pJ (λ(A1:AF) (n1:Nat) (c1:Nat) (a1:AH) (i:Int) (k:Nat)=>[(0,I n),(5,sl A1 n1 c1),(6,I i)]) (λA1 n1 c1 a1 i k=>[(ri 3 A1 n1 c1 a1)]) (λA1 n1 c1 a1 i k=>(n1=a1.length)/\(i=r+3*k)/\(a1=NS r.toNat k)/\(r+3*(k:Int)<n+3)) (λA1 n1 c1 a1 i k=>(n-i).toNat) ?_ ?_
 ·exact⟨none,0,0,[],r,0,⟨(Z),G,(Z),G⟩,KP⟩
 intro A1 n1 c1 a1 i k ⟨dp,hi,bh,hk⟩;have sp:=bg List.length bh;rw[WS] at sp;refine aD<|wq<|wm Z<|wm Z<|wL Z Z<|aA<|bA Z (λbc=> ?_) (λbc=> ?_)
 ·refine aH<|aD<|aI<|aJ<|wm Z<|wm Z<|wa (bQ .i64 [i] aa zs3 Z Z Z) ?_;rintro _ _⟨db,rfl,rfl⟩;refine wa (aY 1 Z aa zb3 Z Z Z (rdr 0 Z)) ?_;rintro _ _⟨fg,fi,rfl,rfl⟩;refine bK (v:=sl fg (n1+1) fi) Z<|wn Z<|aJ<|wm Z<|wA Z Z<|wn Z ?_;exact⟨fg,n1+1,fi,a1++([i]),i+3,(k+1),⟨(by simp only[ai,dp];try rfl),G,(by rw[aKi,<-bh,show(r.toNat:Int)+3*(k:Int)=i by omega]),G⟩,G,SA,λ_ h=>h.sel [1] cC Z⟩
 ·refine aS<|wq<|wm Z<|wn Z<|aX [0] 99 cC Z ?_;refine⟨_,Z,?_⟩;obtain rfl:k=(n.toNat+2-r.toNat)/3:=G
  subst bh;obtain rfl:=dp;exact⟨_,_,Z,Z⟩
theorem WE (hn:0<=n/\n<=100000):
  CF 322 #[I n] w (λv R'=> ∃A c,v=sl A (smp n.toNat).length c/\R'=[(ri 3 A ((smp n.toNat).length) c (smp n.toNat))]):=by
 refine fn1 Tryz.func322 Z Z Z ?_;refine wq<|wn Z<|aD<|wq<|wm Z<|wL Z Z<|wm Z<|dD 3 [(0,I n),(8, .bool (decide ((n<0)\/(100000<n))))] [] ?_ ?_
 ·refine bP 5 Z (λbc=> ?_) (λbc=> ?_)
  ·refine aM Z Z Z Z<|aM Z Z Z Z<|wy (aQ Z Z)<|aA ?_;exact KP
  ·refine aB Z Z<|wm Z<|aB Z Z<|wy (dN Z Z)<|wy (aP Z Z)<|aA ?_;exact KP
 refine wZ 8 Z G<|aA<|aN Z<|aH<|wq<|wm Z<|wa (aC QN Z (Ct.fresh (λw hw=>lU cE G))) ?_;rintro _ _⟨_,rfl,cr,co,rfl,rfl⟩;refine fA (R1:=[(ri 3 cr ((plc n.toNat 1).length) co (plc n.toNat 1))]) Z<|bK (v:=sl cr ((plc n.toNat 1).length) co) Z<|wm Z<|wa (aC QN Z (Ct.fresh (λw hw=>lU cE G))) ?_;rintro _ _⟨_,rfl,me,mz,rfl,rfl⟩;refine fA (R1:=[(ri 3 me ((plc n.toNat 2).length) mz (plc n.toNat 2)),(ri 3 cr ((plc n.toNat 1).length) co (plc n.toNat 1))]) Z<|bK (v:=sl me ((plc n.toNat 2).length) mz) Z<|wa (aY 1 Z aa zb3 Z Z Z (rdr 0 Z) (by have:=jL n.toNat 1;have:=jL n.toNat 2;omega)) ?_;rintro _ _⟨ft,ee,rfl,rfl⟩;refine fA (R1:=[(ri 3 me ((plc n.toNat 2).length) mz (plc n.toNat 2)),(ri 3 ft (((plc n.toNat 1).length)+((plc n.toNat 2).length)) ee ((plc n.toNat 1)++(plc n.toNat 2)))]) Z<|bK (v:=sl ft (((plc n.toNat 1).length)+((plc n.toNat 2).length)) ee) Z<|wn Z<|aX [1] 99 cC Z ?_;refine⟨_,Z,?_⟩;have e:(plc n.toNat 1).length+(plc n.toNat 2).length=(smp n.toNat).length:=(ai ..).symm;rw[e];exact⟨_,_,Z,Z⟩
theorem vU {s:AH} (ci:Rd w dg gr de 1 (ints .i64 s)) (hi:0<=i) (hs: ∀x∈s,0<=x/\x<=1000000):
  CF 324 #[sl dg gr de,I i] w (λv R'=>v=I (iO s i)):=by
 obtain rfl:=ci.lenI;refine fn1 Tryz.func324 Z Z Z ?_;have d8:=ci.max;refine wq<|wn Z<|aD<|wq<|wm Z<|wm Z<|wy (aO aa Z)<|wy (jN Z Z)<|aA<|bA Z (λbc=> ?_) (λbc=> ?_)
 ·refine wq<|wn Z<|bT ?_;refine⟨_,Z,?_⟩;exact bg (Value.int .i64) (by unfold iO;rw[di G])
 ·have hm:=hs _ (bF (L:=s) hi G);refine aH<|wq<|wm Z<|wm Z<|wy (aG aa sz3 Z Z (ci.c _))<|wy (aW au Z Z (ci.c _))<|wA Z Z<|wn Z<|bT ?_;refine⟨_,Z,?_⟩;exact bg (Value.int .i64) (by unfold iO;rw[df G])
theorem QB {s:AH} {b:Int} (ci:Rd w dg gr de 1 (ints .i64 s)) (hb:0<=b/\b<=2) (hs: ∀x∈s,0<=x/\x<=1000000) (hN:s.length<=1000000):
  CF 295 #[sl dg gr de,I b] w (λv R'=> ∃A c,v=sl A (s.length) c/\R'=[(ri 3 A s.length c (fQ s b))]):=by
 obtain rfl:=ci.lenI;refine fn1 Tryz.func295 Z Z Z ?_;have d8:=ci.max;refine wq<|wn Z<|wq<|wm Z<|wy (aO aa Z)<|wa (dM aa zb3 Z Z) ?_;rintro _ _⟨ao,rfl,rfl⟩;refine bK (v:=sl (GG ao) s.length s.length) Z<|wn Z<|aD<|wq<|wm Z<|wy (aO aa Z)<|wm Z<|aA<|aI ?_;refine dS (λ(i:Int) (V:AH)=>[(0,sl dg s.length de),(1,I b),(5,sl (GG ao) s.length s.length),(11,I (s.length:Int)),(12,I i)]) (λi V=>[(ri 3 (GG ao) s.length s.length V)]) (λi V=>(0<=i)/\(i<=s.length)/\(V.length=s.length)/\(∀j:Int,0<=j->j<i->rd V j=iO s (j+b))) (λi V=>(s.length-i).toNat) ?_ ?_
 ·exact⟨0,List.replicate s.length (0:Int),⟨G,G,(by rw[cz]),(λj h1 h2=>G)⟩,KP⟩
 intro i V ⟨bb,ij,kd,hV⟩;refine wq<|wL Z Z<|aA<|aD<|bA Z (λbc=> ?_) (λbc=> ?_)
 ·refine aH<|aD<|aI<|wq<|wm Z<|wn Z<|aJ<|wm Z<|wm Z<|wm Z<|wm Z<|wm Z<|wA Z Z ?_;refine wa (aC YO Z (Ct.quiet (λw hw=>vU ((ci.c _) w hw) G cE))) ?_;rintro _ _⟨rfl,rfl⟩;refine wy (aG aa sz3 Z Z (rdr 0 Z))<|bY (bG 0 Z sz3 Z Z) ?_;rintro _ _ rfl;refine aA<|aJ<|wA Z Z<|wm Z<|aA ?_;exact⟨i+1,upd V i (iO s (i+b)),⟨G,G,(by rw[aT];exact kd),(eX (f:=λj=>iO s (j+b)) bb G hV Z)⟩,G,KP⟩
 ·refine aS<|wq<|wm Z<|wn Z<|aX [0] 99 cC Z ?_;refine⟨_,Z,?_⟩;obtain rfl:V=fQ s b:=aSp kd (λj h1 h2=>hV j h1 G);exact⟨_,_,Z,Z⟩
theorem aEn {s:AH} (ci:Rd w dg gr de 1 (ints .i64 s)) (hi:0<=i/\i<=1000000) (hj:0<=j/\j<=1000000) (hs: ∀x∈s,0<=x/\x<=1000000):
  CF 323 #[sl dg gr de,I i,I j] w (λv R'=>v= .bool (decide (NY s i j))):=by
 obtain rfl:=ci.lenI;refine fn1 Tryz.func323 Z Z Z ?_;have d8:=ci.max;refine wq<|wn Z<|aD<|wq<|wm Z<|aA<|aI ?_;refine lF (λ(b:Int)=>[(0,sl dg s.length de),(1,I i),(2,I j),(8,I b)]) (λb=>[]) (λb=>(0<=b)/\(b<=3)/\(∀c:Int,0<=c->c<b->iO s (i+c)=iO s (j+c))) (λb=>(3-b).toNat) ?_ ?_
 ·exact⟨0,⟨G,G,(λc h1 h2=>G)⟩,KP⟩
 intro b ⟨vu,Md,hk⟩;refine wq<|wL Z Z<|aA<|aD<|bA Z (λbc=> ?_) (λbc=> ?_)
 ·refine aH<|aD<|aI<|wq<|wm Z<|wn Z<|wq<|wm Z<|wm Z<|wm Z<|wA Z Z<|wa (aC YO Z (Ct.quiet (λw hw=>vU ((ci.c _) w hw) G cE))) ?_;rintro _ _⟨rfl,rfl⟩;refine wm Z<|wm Z<|wm Z<|wA Z Z<|wa (aC YO Z (Ct.quiet (λw hw=>vU ((ci.c _) w hw) G cE))) ?_;rintro _ _⟨rfl,rfl⟩;refine wy (iI Z Z)<|aA<|bA Z (λda=> ?_) (λda=> ?_)
  ·refine wq<|wn Z<|bT ?_;refine⟨_,Z,?_⟩;exact bg Value.bool (ol (aVx vu G da)).symm
  ·refine aH<|aJ<|wA Z Z<|wm Z<|aA ?_;exact⟨b+1,⟨G,G,(λc h1 h2=>(bu c b).elim (hk c h1) λg=>by rw[show c=b by omega];exact yh.1 da)⟩,G,KP⟩
 ·refine aS<|wq<|wn Z<|bT ?_;refine⟨_,Z,?_⟩;exact bg Value.bool (ko (bAu λc h1 h2=>hk c h1 G)).symm
theorem aLa {s:AH} {Lg:AF} {Vn Lm:Nat} {rk:AH} {o:AH} (ci:Rd w dg gr de 1 (ints .i64 s)) (o0:Rd w Lg Vn Lm 1 (ints .i64 rk)) (hR:RkO s o rk) (hi:(0<=i/\i<s.length)/\i%3≠0) (hj:(0<=j/\j<s.length)/\j%3=0) (hs: ∀x∈s,0<=x/\x<=1000000) (hN:s.length<=1000000):
  CF 296 #[sl dg gr de,sl Lg Vn Lm,I i,I j] w (λv R'=>v= .bool (decide (cmpL (s.drop i.toNat) (s.drop j.toNat)<0))):=by
 obtain rfl:=ci.lenI;obtain rfl:=o0.lenI;refine fn1 Tryz.func296 Z Z Z ?_;have d8:=ci.max;have m_rk:=o0.max;have nn:Nn s:=λx hx=>(hs x hx).1;refine wq<|wn Z<|aI ?_;refine gW (λ(p:Int) (q:Int) (c:Nat)=>[(0,sl dg s.length de),(1,sl Lg rk.length Lm),(2,I p),(3,I q)]) (λp q c=>[]) (λp q c=>(p=i+c)/\(q=j+c)/\(EqH c (eu s i.toNat) (eu s j.toNat))/\(c=0\/c=1/\i%3=2)) (λp q c=>2-c) ?_ ?_
 ·exact⟨i,j,0,⟨G,G,(λd hd=>G),(.inl rfl)⟩,KP⟩
 intro p q c ⟨hp,hq,he,hc⟩;have hcc:c<=1:=G
 have kd:=hR.len;refine aI<|aD<|wq<|wm Z<|wm Z<|wa (aC YO Z (Ct.quiet (λw hw=>vU ((ci.c _) w hw) G cE))) ?_;rintro _ _⟨rfl,rfl⟩;refine wm Z<|wm Z<|wa (aC YO Z (Ct.quiet (λw hw=>vU ((ci.c _) w hw) G cE))) ?_;rintro _ _⟨rfl,rfl⟩;refine wg Z<|wn Z<|wq<|wm Z<|wm Z<|wy (iI Z Z)<|aA<|bA Z (λbc=> ?_) (λbc=> ?_)
 ·refine wq<|wm Z<|wm Z<|wL Z Z<|wn Z<|bT ?_;refine⟨_,Z,?_⟩;exact bg Value.bool (wh.2 (by subst hp hq;rw[iU];exact aSh nn hi.1.1 hj.1.1 he bc))
 ·have he2:=aZd nn hi.1.1 hj.1.1 he (by rw[<-hp,<-hq];exact yh.1 bc);refine aH<|wq<|wm Z<|wA Z Z<|wm Z<|wA Z Z<|wg Z<|wn Z<|wq<|wm Z<|wy (xZ Z Z)<|wy (iI Z Z) ?_;refine wm Z<|dD 4 [(0,sl dg s.length de),(1,sl Lg rk.length Lm),(2,I (p+1)),(3,I (q+1)),(34, .bool (decide ((((p+1)%3)≠0)/\(((q+1)%3)≠0))))] [] ?_ ?_
  ·refine bP 30 Z (λda=> ?_) (λda=> ?_)
   ·refine aB Z Z<|wm Z<|aB Z Z<|wy (xZ Z Z)<|aB Z Z<|wy (iI Z Z)<|wy (aQ Z Z)<|aA ?_;exact KP
   ·refine aM Z Z Z Z<|aM Z Z Z Z<|aM Z Z Z Z<|wy (aP Z Z)<|aA ?_;exact KP
  refine aA<|bA Z (λfk=> ?_) (λfk=> ?_)
  ·have Hb:=aKz hR hi.1 hj.1 G he2 G G;rw[show i+((c+1:Nat):Int)=p+1 by omega,show j+((c+1:Nat):Int)=q+1 by omega] at Hb;refine aD<|bL mixed<|wD 0 Z (aK Z)<|wD 1 Z (aK Z)<|wD 2 Z (aK Z)<|wD 3 Z (aO aa Z)<|wD 4 Z (uP Z Z)<|wD 5 Z (aG aa sz3 Z Z (o0.c _))<|wD 6 Z (aW au Z Z (o0.c _))<|wD 7 Z (aK Z)<|wD 8 Z (aK Z)<|wD 9 Z (aK Z)<|wD 10 Z (aO aa Z)<|wD 11 Z (uP Z Z)<|wD 12 Z (aG aa sz3 Z Z (o0.c _)) ?_;refine wD 13 Z (aW au Z Z (o0.c _))<|wD 14 Z (fO Z Z)<|wD 15 Z (bB Z)<|wN<|bT ?_;refine⟨_,Z,?_⟩;exact bg Value.bool (wh.2 (by rw[iU,Int.min_eq_left Hb.1.1,Int.min_eq_left Hb.1.2];exact Hb.2))
  ·refine aH ?_;exact⟨p+1,q+1,(c+1),⟨G,G,(he2),G⟩,G,KP⟩
theorem NR {w:World} {s:AH} (ci:Rd w dg gr de 1 (ints .i64 s)) (IH: ∀ {w:World} {qe:AF} {qv qk:Nat} {t:AH} {j:Int},Rd w qe qv qk 1 (ints .i64 t)->t.length<s.length->((0<=j/\j<=1000000)/\ ∀x∈t,0<=x/\x<j)->t.length<=100000->CF 266 #[sl qe qv qk,I j] w (λv R'=> ∃(b:AH) (A:AF) (c:Nat),v=sl A t.length c/\b.Perm (iota t.length)/\b.Pairwise (bV t)/\R'=[(ri 3 A t.length c b)])) (dr:(0<=k/\k<=1000000)/\ ∀x∈s,0<=x/\x<k) (hN:s.length<=100000) (h2:2<=s.length):
  CF 294 #[sl dg gr de,I k] w (λv R'=> ∃(o V:AH) (A A':AF) (c c' m:Nat),v= .tuple #[sl A o.length c,sl A' m c']/\m=V.length/\RkO s o V/\(∀(B:Nat) (w0 w:World),Hp B w0 w R'->Rd w A o.length c 1 (ints .i64 o))/\ ∀(B:Nat) (w0 w:World),Hp B w0 w R'->Rd w A' V.length c' 1 (ints .i64 V)):=by
 obtain rfl:=ci.lenI;refine fn2 Tryz.func294 Z Z Z ?_;have d8:=ci.max;have nn:Nn s:=λx hx=>(dr.2 x hx).1;have xl: ∀x∈s,0<=x/\x<=1000000:=λx hx=>by have:=dr.2 x hx;omega
 have lp1:=jL s.length 1;have lp2:=jL s.length 2;have lsm:=zU s.length;refine wq<|bR (R1:=((ri 3 none 0 0 ([]))::[])) (Sub.refl _) (λ_ h=>h.nil 3 1)<|wg Z<|wn Z<|wq<|wm Z<|wy (aO aa Z)<|wa (aC bHn Z (Ct.fresh (λw hw=>WE G))) ?_;rintro _ _⟨_,rfl,cr,co,rfl,rfl⟩;refine bK (v:=sl cr ((smp s.length).length) co) Z<|wn Z<|wq<|wm Z<|wn Z<|aD<|wq<|wn Z<|aI ?_;refine UY (λ(b:Int) (A1:AF) (n1:Nat) (c1:Nat) (O:AH) (A6:AF) (n6:Nat) (c6:Nat) (j:Nat) (Rs:List Row)=>[(0,sl dg s.length de),(1,I k),(4,sl A1 n1 c1),(6,sl A6 n6 c6),(7,I b)]) (λb A1 n1 c1 O A6 n6 c6 j Rs=>((ri 3 none 0 0 ([]))::Rs)) (λb A1 n1 c1 O A6 n6 c6 j Rs=>(b=2-j)/\(j<=3)/\(O=bDf s k j)/\(n1=O.length)/\(n6=(smp s.length).length)/\(∀(B:Nat) (w0 w:World),Hp B w0 w Rs->Rd w A1 n1 c1 1 (ints .i64 O))/\(∀(B:Nat) (w0 w:World),Hp B w0 w Rs->Rd w A6 n6 c6 1 (ints .i64 (smp s.length)))) (λb A1 n1 c1 O A6 n6 c6 j Rs=>(b+1).toNat) ?_ ?_
 ·exact⟨2,cr,(smp s.length).length,co,(smp s.length),cr,(smp s.length).length,co,0,((ri 3 cr ((smp s.length).length) co (smp s.length))::[]),⟨G,G,(Z),(Z),(Z),(λB w0 w h=>rdr 0 Z w h),(λB w0 w h=>rdr 0 Z w h)⟩,SA,λ_ h=>h.selR (F:=[_,_]) (F':=[_,_]) [1,0] cC Z⟩
 intro b A1 n1 c1 O A6 n6 c6 j Rs ⟨hj,hj3,hO,dp,Zq,h4,h6⟩;have u5:=DD dr.2 dr.1.1 j hj3;rw[<-hO] at u5;have Wb:=u5.length_eq;rw[zU] at Wb;refine aD<|wq<|wm Z<|wy (jN Z Z)<|aA<|bA Z (λbc=> ?_) (λbc=> ?_)
 ·have rr:0<=b/\b<=2:=G
  have sm:O.length=(bW O (fQ s b) (k+1).toNat).length:=((pY dr.2 dr.1.1 rr.1 (λx hx=>nI (u5.subset hx))).length_eq).symm;refine aH<|aD<|aI<|aJ<|wm Z<|wm Z<|wm Z<|wa (aC bCc Z (Ct.fresh (λw hw=>QB ((ci.c _) w hw) G xl G))) ?_;rintro _ _⟨_,rfl,fg,fi,rfl,rfl⟩;refine wm Z<|wA Z Z<|wa (aC LZ Z (Ct.fresh (λw hw=>uD ((λ_ h=>h4 _ _ _ (h.right (R':=[_,_]))) w hw) ((rdr 0 Z) w hw) G (XQ dr.2 dr.1.1 G) (λx hx=>by have:=nI (u5.subset hx);rw[DZ];omega) G))) ?_;rintro _ _⟨_,rfl,fz,mj,rfl,rfl⟩;refine wm Z<|wX Z Z<|wX Z Z<|wn Z<|aJ<|wm Z<|wS Z Z<|wn Z ?_;exact⟨b-1,fz,(O).length,mj,(bW O (fQ s b) (k+1).toNat),A6,n6,c6,(j+1),((ri 3 fz ((O).length) mj (bW O (fQ s b) ((k+1)).toNat))::Rs),⟨G,G,(by rw[hO,hj];rfl),(sm),(Zq),(λB w0 w h=>rdr 0 Z w h),(λB w0 w h=>h6 B w0 w h.tail)⟩,G,SA,λ_ h=>h.selR (F:=[_,_,_]) (F':=[_,_]) [2,0] cC Z⟩
 ·have hO3:O=bDg s k:=by rw[hO,show j=3 by omega];rfl
  have hOs:=aAw dr.2 dr.1.1;rw[<-hO3] at hOs;refine aS<|wq<|wm Z<|wy (aO aa Z)<|wA Z Z<|wa (dM aa zb3 Z Z) ?_;rintro _ _⟨li,rfl,rfl⟩;refine bK (v:=sl (GG li) (((s.length:Int)+3).toNat) (((s.length:Int)+3).toNat)) Z<|wn Z<|wq<|wn Z<|aD<|wq<|wm Z<|wy (aO aa Z)<|wm Z<|aA<|aI ?_;refine gW (λ(q:Int) (n:Int) (V:AH)=>[(0,sl dg s.length de),(4,sl A1 n1 c1),(5,sl (GG li) (((s.length:Int)+3).toNat) (((s.length:Int)+3).toNat)),(6,sl A6 n6 c6),(8,I n),(43,sl A1 n1 c1),(44,I (n1:Int)),(45,I q)]) (λq n V=>((ri 3 (GG li) (((s.length:Int)+3).toNat) (((s.length:Int)+3).toNat) V)::(ri 3 none 0 0 ([]))::Rs)) (λq n V=>(0<=q)/\(q<=O.length)/\(RkI s O V q n)) (λq n V=>(O.length-q).toNat) ?_ ?_
  ·exact⟨0,0,List.replicate (((s.length:Int)+3).toNat) (0:Int),⟨G,G,(by rw[show((s.length:Int)+3).toNat=s.length+3 by omega];exact aPy)⟩,KP⟩
  intro q n V ⟨io,i8,hI⟩;have kd:=hI.len;have hnq:=hI.nq;have hn0:=hI.n0;refine wq<|wL Z Z<|aA<|aD<|bA Z (λda=> ?_) (λda=> ?_)
  ·have Kq:0<=q-> ∀p:Int,0<=p->p<O.length->0<=rd O p/\rd O p<s.length:=λ_ p a b=>nI (u5.subset (bF a b));refine aH<|aD<|aI<|wq<|wm Z<|wy (aG aa sz3 Z Z (λ_ h=>h4 _ _ _ (h.right (R':=[_,_]))))<|wy (aW au Z Z (λ_ h=>h4 _ _ _ (h.right (R':=[_,_]))))<|wg Z<|wn Z<|aD<|wq<|wm Z ?_;refine wy (gT Z Z)<|wm Z<|dD 10 [(0,sl dg s.length de),(4,sl A1 n1 c1),(5,sl (GG li) (((s.length:Int)+3).toNat) (((s.length:Int)+3).toNat)),(6,sl A6 n6 c6),(8,I n),(10,I (rd O q)),(43,sl A1 n1 c1),(44,I (n1:Int)),(45,I q),(62, .bool (decide ((q=0)\/(¬(NY s (rd O (q-1)) (rd O q))))))] ((ri 3 (GG li) (((s.length:Int)+3).toNat) (((s.length:Int)+3).toNat) V)::(ri 3 none 0 0 ([]))::Rs) ?_ ?_
   ·refine bP 52 Z (λfk=> ?_) (λfk=> ?_)
    ·refine aM Z Z Z Z<|aM Z Z Z Z<|aM Z Z Z Z<|aM Z Z Z Z<|aM Z Z Z Z<|aM Z Z Z Z<|aM Z Z Z Z<|aM Z Z Z Z<|aM Z Z Z Z<|wy (aQ Z Z)<|aA ?_;exact KP
    ·refine aB Z Z<|wm Z<|aB Z Z<|wm Z<|aB Z Z<|wm Z<|aB Z Z<|wS Z Z<|aB Z Z<|wy (aG aa sz3 Z Z (λ_ h=>h4 _ _ _ (h.right (R':=[_,_]))))<|aB Z Z<|wy (aW au Z Z (λ_ h=>h4 _ _ _ (h.right (R':=[_,_]))))<|aB Z Z<|wm Z<|aB Z Z ?_;refine wa (aC bHm Z (Ct.quiet (λw hw=>aEn ((ci.c _) w hw) (by have:=Kq io (q-1) G G;omega) (by have:=Kq io q G G;omega) xl))) ?_;rintro _ _⟨rfl,rfl⟩;refine aB Z Z<|wy (uU Z)<|wy (aP Z Z)<|aA ?_;exact KP
   refine aA<|bA Z (λiu=> ?_) (λiu=> ?_)
   ·refine aJ<|wm Z<|wA Z Z<|wn Z<|aJ<|wm Z<|wm Z<|wm Z<|wy (aG aa sz3 Z Z (rdr 0 Z) (by have:=Kq io q G G;omega) (by have:=Kq io q G G;omega)) ?_;refine bY (bG 0 Z sz3 Z Z (by have:=Kq io q G G;omega) (by have:=Kq io q G G;omega)) ?_;rintro _ _ rfl;refine aA<|aJ<|wA Z Z<|wm Z<|aA ?_;exact⟨q+1,n+1,upd V (rd O q) (n+1),⟨G,G,(hI.step u5 io G (.inl ⟨Z,bEi nn u5 hOs io G iu⟩))⟩,G,KP⟩
   ·refine aH<|aJ<|wm Z<|wm Z<|wm Z<|wy (aG aa sz3 Z Z (rdr 0 Z) (by have:=Kq io q G G;omega) (by have:=Kq io q G G;omega)) ?_;refine bY (bG 0 Z sz3 Z Z (by have:=Kq io q G G;omega) (by have:=Kq io q G G;omega)) ?_;rintro _ _ rfl;refine aA<|aJ<|wA Z Z<|wm Z<|aA ?_;exact⟨q+1,n,upd V (rd O q) n,⟨G,G,(hI.step u5 io G (.inr ⟨Z,bEf nn u5 io G iu⟩))⟩,G,KP⟩
  ·have Vx:RkI s O V O.length n:=by have e:q=O.length:=G;rw[<-e];exact hI
   refine aS<|aD<|wq<|wm Z<|wm Z<|wy (aO aa Z)<|wy (gT Z Z)<|aA<|bA Z (λkt=> ?_) (λkt=> ?_)
   ·refine wq<|wm Z<|wm Z<|wg Z<|wn Z<|aX [0] 2 cC Z ?_;refine⟨_,_,Z,Z,?_⟩;obtain rfl:=dp;have Sw:((s.length:Int)+3).toNat=V.length:=by have:=Vx.len;omega
    exact⟨O,V,_,_,_,_,_,Z,Sw,Vx.all u5 G,λB w0 w h=>h4 B w0 w h.tail,λB w0 w h=>by rw[<-Sw];exact rdr 0 rfl w h⟩
   ·have hF:=Vx.done u5;have h4l:4<=s.length:=Jk.1 λg=>kt (by have:=Vx.short u5 h2 G;omega);refine aH<|wq<|wm Z<|wy (aO aa Z)<|wa (aC QN Z (Ct.fresh (λw hw=>lU cE G))) ?_;rintro _ _⟨_,rfl,br,bw,rfl,rfl⟩;refine bK (v:=sl br ((plc s.length 1).length) bw) Z<|wn Z<|wq<|bR (R1:=((ri 3 none 0 0 ([]))::(ri 3 br ((plc s.length 1).length) bw (plc s.length 1))::(ri 3 (GG li) (((s.length:Int)+3).toNat) (((s.length:Int)+3).toNat) V)::(ri 3 none 0 0 ([]))::Rs)) (Sub.refl _) (λ_ h=>h.nil 3 1)<|wn Z<|aD<|wq<|wm Z<|wy (aO aa Z)<|wm Z<|aA ?_;refine aI ?_;refine jK (λ(A2:AF) (n2:Nat) (c2:Nat) (a2:AH) (i:Int)=>[(0,sl dg s.length de),(5,sl (GG li) (((s.length:Int)+3).toNat) (((s.length:Int)+3).toNat)),(6,sl A6 n6 c6),(8,I n),(11,sl br ((plc s.length 1).length) bw),(12,sl A2 n2 c2),(79,sl br ((plc s.length 1).length) bw),(80,I (((plc s.length 1).length:Nat):Int)),(81,I i)]) (λA2 n2 c2 a2 i=>((ri 3 A2 n2 c2 a2)::(ri 3 br ((plc s.length 1).length) bw (plc s.length 1))::(ri 3 (GG li) (((s.length:Int)+3).toNat) (((s.length:Int)+3).toNat) V)::(ri 3 none 0 0 ([]))::Rs)) (λA2 n2 c2 a2 i=>(n2=a2.length)/\(0<=i)/\(i<=(plc s.length 1).length)/\(a2=((plc s.length 1).take i.toNat).map (rd V))) (λA2 n2 c2 a2 i=>((plc s.length 1).length-i).toNat) ?_ ?_
    ·exact⟨none,0,0,[],0,⟨(Z),G,G,(Z)⟩,KP⟩
    intro A2 n2 c2 a2 i ⟨nw,bb,ij,Oz⟩;have Mb:=bg List.length Oz;rw[az,ax] at Mb;refine wq<|wL Z Z<|aA<|aD<|bA Z (λxr=> ?_) (λxr=> ?_)
    ·have Rj:=(jU (n:=s.length) (r:=1) G).1 (bF (L:=plc s.length 1) bb G);refine aH<|aD<|aI<|wq<|wy (aG aa sz3 Z Z (rdr 1 Z))<|wy (aW au Z Z (rdr 1 Z))<|wn Z<|aJ<|wm Z<|wm Z<|wm Z<|wy (aG aa sz3 Z Z (rdr 2 Z))<|wy (aW au Z Z (rdr 2 Z)) ?_;refine wa (bQ .i64 [rd V (rd (plc s.length 1) i)] aa zs3 Z Z Z) ?_;rintro _ _⟨n7,rfl,rfl⟩;refine wa (aY 1 Z aa zb3 Z Z Z (rdr 0 Z)) ?_;rintro _ _⟨ge,gg,rfl,rfl⟩;refine bK (v:=sl ge (n2+1) gg) Z<|wn Z<|aJ<|wA Z Z<|wm Z<|aA ?_;exact⟨ge,n2+1,gg,a2++([rd V (rd (plc s.length 1) i)]),i+1,⟨(by simp only[ai,nw];try rfl),G,G,(by rw[dF bb G,jc,Oz];rfl)⟩,G,SA,λ_ h=>h.selR (F:=[_,_,_,_,_]) (F':=[_,_,_,_]) [1,2,3,4] cC Z⟩
    ·refine aS<|wq<|wm Z<|wa (bQ .i64 [0] aa zs3 Z Z Z) ?_;rintro _ _⟨Cp,rfl,rfl⟩;refine wa (aY 1 Z aa zb3 Z Z Z (rdr 0 Z)) ?_;rintro _ _⟨f8,g9,rfl,rfl⟩;refine bK (v:=sl f8 (n2+1) g9) Z<|wn Z<|aD<|wq<|wm Z<|wy (aO aa Z)<|wa (aC QN Z (Ct.fresh (λw hw=>lU cE G))) ?_;rintro _ _⟨_,rfl,kb,kc,rfl,rfl⟩;refine bK (v:=sl kb ((plc s.length 2).length) kc) Z<|wy (aO aa Z)<|wm Z<|aA<|aI ?_;refine jK (λ(A3:AF) (n3:Nat) (c3:Nat) (a3:AH) (u:Int)=>[(5,sl (GG li) (((s.length:Int)+3).toNat) (((s.length:Int)+3).toNat)),(6,sl A6 n6 c6),(8,I n),(11,sl br ((plc s.length 1).length) bw),(12,sl A3 n3 c3),(98,sl kb ((plc s.length 2).length) kc),(99,I (((plc s.length 2).length:Nat):Int)),(100,I u)]) (λA3 n3 c3 a3 u=>((ri 3 kb ((plc s.length 2).length) kc (plc s.length 2))::(ri 3 (GG Cp) 1 1 ([0]))::(ri 3 A3 n3 c3 a3)::(ri 3 br ((plc s.length 1).length) bw (plc s.length 1))::(ri 3 (GG li) (((s.length:Int)+3).toNat) (((s.length:Int)+3).toNat) V)::(ri 3 none 0 0 ([]))::Rs)) (λA3 n3 c3 a3 u=>(n3=a3.length)/\(0<=u)/\(u<=(plc s.length 2).length)/\(a3=((plc s.length 1).map (rd V)++[0])++((plc s.length 2).take u.toNat).map (rd V))) (λA3 n3 c3 a3 u=>((plc s.length 2).length-u).toNat) ?_ ?_
     ·exact⟨f8,n2+1,g9,a2++([0]),0,⟨(by simp only[ai,nw];try rfl),G,G,(by rw[Oz,bi G];simp)⟩,KP⟩
     intro A3 n3 c3 a3 u ⟨Wp,ld,yr,Pa⟩;have Yf:=bg List.length Pa;rw[ai,ai,az,az,ax,ii] at Yf;refine wq<|wL Z Z<|aA<|aD<|bA Z (λMf=> ?_) (λMf=> ?_)
     ·have Rj:=(jU (n:=s.length) (r:=2) G).1 (bF (L:=plc s.length 2) ld G);refine aH<|aD<|aI<|wq<|wy (aG aa sz3 Z Z (rdr 0 Z))<|wy (aW au Z Z (rdr 0 Z))<|wn Z<|aJ<|wm Z<|wm Z<|wm Z<|wy (aG aa sz3 Z Z (rdr 4 Z))<|wy (aW au Z Z (rdr 4 Z)) ?_;refine wa (bQ .i64 [rd V (rd (plc s.length 2) u)] aa zs3 Z Z Z) ?_;rintro _ _⟨zp,rfl,rfl⟩;refine wa (aY 3 Z aa zb3 Z Z Z (rdr 0 Z)) ?_;rintro _ _⟨js,jt,rfl,rfl⟩;refine bK (v:=sl js (n3+1) jt) Z<|wn Z<|aJ<|wA Z Z<|wm Z<|aA ?_;exact⟨js,n3+1,jt,a3++([rd V (rd (plc s.length 2) u)]),u+1,⟨(by simp only[ai,Wp];try rfl),G,G,(by rw[dF ld G,jc,Pa,ek];rfl)⟩,G,SA,λ_ h=>h.selR (F:=[_,_,_,_,_,_,_]) (F':=[_,_,_,_,_,_]) [1,2,3,4,5,6] cC Z⟩
     ·have b5:a3=blw s V:=by rw[Pa,bi G];rfl
      refine aS<|wq<|wn Z<|aD<|wq<|wm Z<|wm Z<|wA Z Z<|wa (aC bCf Z (Ct.fresh (λw hw=>IH ((rdr 2 Z) w hw) (by rw[b5,uN];omega) ⟨G,by rw[b5];exact aVk hF hI.n0⟩ (by rw[b5,uN];omega)))) ?_;rintro _ _⟨_,rfl,b1,pn,pr,rfl,es,gw,rfl⟩;refine wy (aO aa Z)<|wm Z<|aA<|aI ?_;refine jK (λ(A4:AF) (n4:Nat) (c4:Nat) (a4:AH) (m:Int)=>[(4,sl A4 n4 c4),(5,sl (GG li) (((s.length:Int)+3).toNat) (((s.length:Int)+3).toNat)),(6,sl A6 n6 c6),(11,sl br ((plc s.length 1).length) bw),(115,sl pn a3.length pr),(116,I (a3.length:Int)),(117,I m)]) (λA4 n4 c4 a4 m=>((ri 3 pn a3.length pr b1)::(ri 3 kb ((plc s.length 2).length) kc (plc s.length 2))::(ri 3 (GG Cp) 1 1 ([0]))::(ri 3 A3 n3 c3 a3)::(ri 3 br ((plc s.length 1).length) bw (plc s.length 1))::(ri 3 (GG li) (((s.length:Int)+3).toNat) (((s.length:Int)+3).toNat) V)::(ri 3 A4 n4 c4 a4)::Rs)) (λA4 n4 c4 a4 m=>(n4=a4.length)/\(0<=m)/\(m<=b1.length)/\(a4=ofB s (b1.take m.toNat))) (λA4 n4 c4 a4 m=>(b1.length-m).toNat) ?_ ?_
      ·exact⟨none,0,0,[],0,⟨(Z),G,G,(Z)⟩,KP⟩
      intro A4 n4 c4 a4 m ⟨Wq,sv,nd,Ek⟩;have hbl1:b1.length=a3.length:=by rw[es.length_eq,bC]
      have hal4:=bg List.length Ek;have Yg:=aYm (s:=s) (b1.take m.toNat);rw[ax] at Yg;refine wq<|wL Z Z<|aA<|aD<|bA Z (λTg=> ?_) (λTg=> ?_)
      ·have Ym:=aV.1 (es.subset (bF (L:=b1) sv G));rw[b5,uN] at Ym;refine aH<|aD<|aI<|wq<|wy (aG aa sz3 Z Z (rdr 0 Z))<|wy (aW au Z Z (rdr 0 Z))<|wn Z<|aI<|wq<|wm Z<|wm Z<|wy (aO aa Z) ?_;refine wL Z Z<|wn Z<|bA Z (λYr=> ?_) (λYr=> ?_)
       ·refine aJ<|wm Z<|wm Z<|wm Z<|wy (aG aa sz3 Z Z (rdr 4 Z))<|wy (aW au Z Z (rdr 4 Z))<|wa (bQ .i64 [rd (plc s.length 1) (rd b1 m)] aa zs3 Z Z Z) ?_;rintro _ _⟨g_30,rfl,rfl⟩;refine wa (aY 7 Z aa zb3 Z Z Z (rdr 0 Z)) ?_;rintro _ _⟨z6,Bx,rfl,rfl⟩;refine bK (v:=sl z6 (n4+1) Bx) Z<|wn Z<|aJ<|wA Z Z<|wm Z<|aA ?_;exact⟨z6,n4+1,Bx,a4++([rd (plc s.length 1) (rd b1 m)]),m+1,⟨(by simp only[ai,Wq];try rfl),G,G,(by rw[dF sv G,XF G,Ek,bFl Ym.1 G])⟩,G,SA,λ_ h=>h.selR (F:=[_,_,_,_,_,_,_,_]) (F':=[_,_,_,_,_,_,_]) [1,2,3,4,5,6,7] cC Z⟩
       ·refine wq<|wm Z<|wm Z<|wy (aO aa Z)<|wy (dN Z Z)<|wn Z<|bA Z (λYp=> ?_) (λYp=> ?_)
        ·refine aJ<|wm Z<|wm Z<|wm Z<|wS Z Z<|wy (aG aa sz3 Z Z (λ_ h=>h6 _ _ _ (h.right (R':=[_,_,_,_,_,_,_]))))<|wy (aW au Z Z (λ_ h=>h6 _ _ _ (h.right (R':=[_,_,_,_,_,_,_]))))<|wa (bQ .i64 [rd (smp s.length) ((rd b1 m)-1)] aa zs3 Z Z Z) ?_;rintro _ _⟨g_34,rfl,rfl⟩;refine wa (aY 7 Z aa zb3 Z Z Z (rdr 0 Z)) ?_;rintro _ _⟨Ld,Lj,rfl,rfl⟩;refine bK (v:=sl Ld (n4+1) Lj) Z<|wn Z<|aJ<|wA Z Z<|wm Z<|aA ?_;exact⟨Ld,n4+1,Lj,a4++([rd (smp s.length) ((rd b1 m)-1)]),m+1,⟨(by simp only[ai,Wq];try rfl),G,G,(by rw[dF sv G,XF G,Ek,bFk G G])⟩,G,SA,λ_ h=>h.selR (F:=[_,_,_,_,_,_,_,_]) (F':=[_,_,_,_,_,_,_]) [1,2,3,4,5,6,7] cC Z⟩
        ·refine aH<|aJ<|wA Z Z<|wm Z<|aA ?_;exact⟨A4,n4,c4,a4,m+1,⟨(by simp only[ai,Wq];try rfl),G,G,(by rw[dF sv G,XE G,Ek])⟩,G,KP⟩
      ·rw [b5] at es gw;have hof:a4=ofB s b1:=by rw[Ek,bi G]
       have Pt:a4.Perm (smp s.length):=by rw[hof];exact aRp es
       have hos4:a4.Pairwise (bV s):=by rw[hof];exact aCi hF hI.n0 es gw
       refine aS<|aD<|wq<|wm Z<|wy (aO aa Z)<|wm Z<|aA<|aI ?_;refine dS (λ(z:Int) (V5:AH)=>[(4,sl A4 n4 c4),(5,sl (GG li) (((s.length:Int)+3).toNat) (((s.length:Int)+3).toNat)),(147,sl A4 n4 c4),(148,I (n4:Int)),(149,I z)]) (λz V5=>((ri 3 pn a3.length pr b1)::(ri 3 kb ((plc s.length 2).length) kc (plc s.length 2))::(ri 3 (GG Cp) 1 1 ([0]))::(ri 3 A3 n3 c3 a3)::(ri 3 br ((plc s.length 1).length) bw (plc s.length 1))::(ri 3 (GG li) (((s.length:Int)+3).toNat) (((s.length:Int)+3).toNat) V5)::(ri 3 A4 n4 c4 a4)::Rs)) (λz V5=>(0<=z)/\(z<=a4.length)/\(RkN s a4 V5 z)) (λz V5=>(a4.length-z).toNat) ?_ ?_
       ·exact⟨0,V,⟨G,G,(hF.zero _)⟩,KP⟩
       intro z V5 ⟨wj,wk,Vz⟩;have hV5:=Vz.len;refine wq<|wL Z Z<|aA<|aD<|bA Z (λYq=> ?_) (λYq=> ?_)
       ·have hzi:=nI (Pt.subset (bF (L:=a4) wj G));refine aH<|aD<|aI<|wq<|wm Z<|wy (aG aa sz3 Z Z (rdr 6 Z))<|wy (aW au Z Z (rdr 6 Z))<|wg Z<|wn Z<|aJ<|wm Z<|wm Z<|wm Z ?_;refine wA Z Z<|wy (aG aa sz3 Z Z (rdr 5 Z))<|bY (bG 5 Z sz3 Z Z) ?_;rintro _ _ rfl;refine aA<|aJ<|wA Z Z<|wm Z<|aA ?_;exact⟨z+1,upd V5 (rd a4 z) (z+1),⟨G,G,(Vz.step Pt wj G)⟩,G,KP⟩
       ·refine aS<|wq<|wm Z<|wm Z<|wg Z<|wn Z<|bN (R1:=[(ri 3 A4 n4 c4 a4),(ri 3 (GG li) (((s.length:Int)+3).toNat) (((s.length:Int)+3).toNat) V5)]) (λ_ h=>(h.selR (F:=[_,_,_,_,_,_,_]) (F':=[_,_]) [6,5] cC Z).left (X:=[_,_])) ?_;refine⟨_,_,Z,Z,?_⟩;obtain rfl:=Wq;have Sw:((s.length:Int)+3).toNat=V5.length:=by have:=Vz.len;omega
        have hNe:RkN s a4 V5 a4.length:=by have e:z=a4.length:=G;rw[<-e];exact Vz
        exact⟨a4,V5,_,_,_,_,_,Z,Sw,hNe.done Pt hos4,λB w0 w h=>rdr 0 Z w h,λB w0 w h=>by rw[<-Sw];exact rdr 1 rfl w h⟩
theorem aQr {l:AH} {a:Int} (h0:0<=a):rd (l.drop a.toNat) 0=rd l a:=by
 unfold rd;rw[af,af,su];rfl
theorem FU {w:World} {s:AH} (ci:Rd w dg gr de 1 (ints .i64 s)) (IH: ∀ {w:World} {qe:AF} {qv qk:Nat} {t:AH} {j:Int},Rd w qe qv qk 1 (ints .i64 t)->t.length<s.length->((0<=j/\j<=1000000)/\ ∀x∈t,0<=x/\x<j)->t.length<=100000->CF 266 #[sl qe qv qk,I j] w (λv R'=> ∃(b:AH) (A:AF) (c:Nat),v=sl A t.length c/\b.Perm (iota t.length)/\b.Pairwise (bV t)/\R'=[(ri 3 A t.length c b)])) (dr:(0<=k/\k<=1000000)/\ ∀x∈s,0<=x/\x<k) (hN:s.length<=100000):
  CF 266 #[sl dg gr de,I k] w (λv R'=> ∃(b:AH) (A:AF) (c:Nat),v=sl A s.length c/\b.Perm (iota s.length)/\b.Pairwise (bV s)/\R'=[(ri 3 A s.length c b)]):=by
 obtain rfl:=ci.lenI;refine fn1 Tryz.func266 Z Z Z ?_;have d8:=ci.max;have xl: ∀x∈s,0<=x/\x<=1000000:=λx hx=>by have:=dr.2 x hx;omega
 have lp0:=jL s.length 0;have lsm:=zU s.length;refine wq<|wn Z<|aD<|wq<|wm Z<|wy (aO aa Z)<|wL Z Z<|aA<|bA Z (λbc=> ?_) (λbc=> ?_)
 ·refine wq<|wm Z<|wy (aO aa Z)<|wa (aC QN Z (Ct.fresh (λw hw=>lU cE G))) ?_;rintro _ _⟨_,rfl,cr,co,rfl,rfl⟩;refine bK (v:=sl cr ((plc s.length 0).length) co) Z<|wm Z<|wy (aO aa Z)<|wy (gK aa sz3 Z Z (rdr 0 Z))<|wn Z<|bN (R1:=[(ri 3 cr ((plc s.length 0).length) co (plc s.length 0))]) (λ_ h=>(h.selR (F:=[_]) (F':=[_]) [0] cC Z).left (X:=[_])) ?_;refine⟨_,Z,?_⟩;rw[aKh (show s.length<2 by omega),bC];exact⟨_,_,_,Z, .refl _,bDu G,Z⟩
 ·refine aH<|wq<|wm Z<|wm Z<|wa (aC bHw Z (Ct.fresh (λw hw=>NR ((ci.c _) w hw) IH dr hN G))) ?_;rintro _ _⟨Rn,rfl,o1,V1,fg,fz,fi,mj,_,rfl,rfl,u6,Pz,e9⟩;refine bR (R1:=(Rn)) (Sub.refl _) (λ_ h=>Hp.toTail0 (X:=[]) (Y:=[]) h)<|wm Z<|wX Z Z<|wX Z Z<|wg Z<|wn Z<|wq<|wm Z<|wy (aO aa Z)<|wa (aC QN Z (Ct.fresh (λw hw=>lU cE G))) ?_;rintro _ _⟨_,rfl,ft,ee,rfl,rfl⟩;refine bK (v:=sl ft ((plc s.length 0).length) ee) Z<|wn Z<|wq<|wm Z<|wy (aO aa Z)<|wa (dM aa zb3 Z Z) ?_;rintro _ _⟨li,rfl,rfl⟩;refine bK (v:=sl (GG li) s.length s.length) Z<|wn Z<|aD<|wq<|wm Z<|wy (aO aa Z)<|wm Z<|aA<|aI ?_;refine dS (λ(i:Int) (V:AH)=>[(0,sl dg s.length de),(1,I k),(5,sl fg o1.length fi),(6,sl fz V1.length mj),(7,sl ft ((plc s.length 0).length) ee),(8,sl (GG li) s.length s.length),(35,I (s.length:Int)),(36,I i)]) (λi V=>((ri 3 (GG li) s.length s.length V)::(ri 3 ft ((plc s.length 0).length) ee (plc s.length 0))::Rn)) (λi V=>(0<=i)/\(i<=s.length)/\(V.length=s.length)/\(∀j:Int,0<=j->j<i->rd V j=rd V1 (j+1))) (λi V=>(s.length-i).toNat) ?_ ?_
  ·exact⟨0,List.replicate s.length (0:Int),⟨G,G,(by rw[cz]),(λj h1 h2=>G)⟩,KP⟩
  intro i V ⟨bb,ij,kd,hV⟩;refine wq<|wL Z Z<|aA<|aD<|bA Z (λda=> ?_) (λda=> ?_)
  ·have hV1:=u6.len;refine aH<|aD<|aI<|wq<|wm Z<|wn Z<|aJ<|wm Z<|wm Z<|wm Z<|wm Z<|wA Z Z<|wy (aG aa sz3 Z Z (λ_ h=>e9 _ _ _ (h.right (R':=[_,_])))) ?_;refine wy (aW au Z Z (λ_ h=>e9 _ _ _ (h.right (R':=[_,_]))))<|wy (aG aa sz3 Z Z (rdr 0 Z))<|bY (bG 0 Z sz3 Z Z) ?_;rintro _ _ rfl;refine aA<|aJ<|wA Z Z<|wm Z<|aA ?_;exact⟨i+1,upd V i (rd V1 (i+1)),⟨G,G,(by rw[aT];exact kd),(eX (f:=λj=>rd V1 (j+1)) bb G hV Z)⟩,G,KP⟩
  ·have hB:V=bhd s V1:=bFo kd (λj h1 h2=>hV j h1 G);have Xn:=aRc u6;have Vv:=KO u6 dr.2 dr.1.1;have Pv:=aCe u6 dr.2 dr.1.1;have hol:=u6.perm.length_eq;refine aS<|wq<|wm Z<|wm Z<|wm Z<|wy (aO aa Z)<|wA Z Z<|wa (aC LZ Z (Ct.fresh (λw hw=>uD ((rdr 1 Z) w hw) ((rdr 0 Z) w hw) G (by rw[hB];exact aVm u6) (λx hx=>by rw[jU G] at hx;omega) G))) ?_;rintro _ _⟨_,rfl,br,bw,rfl,rfl⟩;generalize xt:bW (plc s.length 0) V (((s.length:Int)+1)).toNat=ot1;refine wm Z<|wX Z Z<|wX Z Z<|wn Z<|wq<|wm Z<|wm Z<|wa (aC bCc Z (Ct.fresh (λw hw=>QB ((ci.c _) w hw) G xl G))) ?_;rintro _ _⟨_,rfl,qq,dj,rfl,rfl⟩;refine wm Z<|wA Z Z<|wa (aC LZ Z (Ct.fresh (λw hw=>uD ((rdr 1 Z) w hw) ((rdr 0 Z) w hw) G (XQ dr.2 dr.1.1 G) (λx hx=>by rw[<-xt,hB] at hx;have:=Xn.subset hx;rw[jU G] at this;rw[DZ];omega) (by rw[<-xt,hB,Xn.length_eq];omega)))) ?_;rintro _ _⟨_,rfl,ge,gg,rfl,rfl⟩;generalize Pl:bW ot1 (fQ s 0) ((k+1)).toNat=ot2;have Pw:oth s V1 k=ot2:=by unfold oth;rw[<-hB,xt,Pl]
   rw[Pw] at Vv Pv;have sr:=Vv.length_eq;have wb:ot1.length=ot2.length:=by rw[sr,<-xt,hB,Xn.length_eq]
   refine wm Z<|wX Z Z<|wX Z Z<|wn Z<|wq<|bR (R1:=((ri 3 none 0 0 ([]))::(ri 3 ge ((ot1).length) gg ot2)::(ri 3 qq ((s).length) dj (fQ s 0))::(ri 3 br (((plc s.length 0)).length) bw ot1)::(ri 3 (GG li) s.length s.length V)::(ri 3 ft ((plc s.length 0).length) ee (plc s.length 0))::Rn)) (Sub.refl _) (λ_ h=>h.nil 3 1)<|wn Z<|aD<|wq<|wm Z<|wy (aO aa Z) ?_;refine wm Z<|aA<|aI ?_;refine RZ (λ(q:Int) (x:Int) (AL:AF) (nL:Nat) (cL:Nat) (acc:AH) (AO:AF) (nO:Nat) (cO:Nat)=>[(0,sl dg s.length de),(5,sl AO nO cO),(6,sl fz V1.length mj),(10,sl AL nL cL),(66,sl ge ((ot1).length) gg),(67,I (((ot1).length:Nat):Int)),(68,I q)]) (λq x AL nL cL acc AO nO cO=>((ri 3 AL nL cL acc)::(ri 3 ge ((ot1).length) gg ot2)::(ri 3 qq ((s).length) dj (fQ s 0))::(ri 3 br (((plc s.length 0)).length) bw ot1)::(ri 3 (GG li) s.length s.length V)::(ri 3 ft ((plc s.length 0).length) ee (plc s.length 0))::Rn)) (λq x AL nL cL acc AO nO cO=>(0<=q)/\(q<=ot2.length)/\(0<=x)/\(x<=o1.length)/\(MgI s o1 ot2 acc x q)/\(nL=acc.length)/\(nO=(o1.drop x.toNat).length)/\(∀(B:Nat) (w0 w:World),Hp B w0 w Rn->Rd w AO nO cO 1 (ints .i64 (o1.drop x.toNat)))) (λq x AL nL cL acc AO nO cO=>(ot2.length-q).toNat) ?_ ?_
   ·exact⟨0,0,none,0,0,[],fg,o1.length,fi,⟨G,G,G,G,(aRw),(Z),(Z),(Pz)⟩,KP⟩
   intro q x AL nL cL acc AO nO cO ⟨io,i8,hx0,s8,hM,hnL,hnO,h5⟩;have sp:=hM.len hx0 s8 io i8;refine wq<|wL Z Z<|aA<|aD<|bA Z (λfk=> ?_) (λfk=> ?_)
   ·have hqq:q<ot2.length:=G
    have hqm:=(jU G).1 (Vv.subset (bF (L:=ot2) io hqq));have hqj:(0<=rd ot2 q/\rd ot2 q<s.length)/\rd ot2 q%3=0:=G
    refine aH<|aD<|aI<|wq<|wy (aG aa sz3 Z Z (rdr 1 Z))<|wy (aW au Z Z (rdr 1 Z))<|wn Z<|aD<|aI ?_;refine GK (λ(y:Int) (AM:AF) (nM:Nat) (cM:Nat) (vi:AH) (AP:AF) (nP:Nat) (cP:Nat)=>[(0,sl dg s.length de),(5,sl AP nP cP),(6,sl fz V1.length mj),(10,sl AM nM cM),(12,I (rd ot2 q)),(66,sl ge ((ot1).length) gg),(67,I (((ot1).length:Nat):Int)),(68,I q)]) (λy AM nM cM vi AP nP cP=>((ri 3 AM nM cM vi)::(ri 3 ge ((ot1).length) gg ot2)::(ri 3 qq ((s).length) dj (fQ s 0))::(ri 3 br (((plc s.length 0)).length) bw ot1)::(ri 3 (GG li) s.length s.length V)::(ri 3 ft ((plc s.length 0).length) ee (plc s.length 0))::Rn)) (λy AM nM cM vi AP nP cP=>(0<=y)/\(y<=o1.length)/\(MgI s o1 ot2 vi y q)/\(nM=vi.length)/\(nP=(o1.drop y.toNat).length)/\(∀(B:Nat) (w0 w:World),Hp B w0 w Rn->Rd w AP nP cP 1 (ints .i64 (o1.drop y.toNat)))) (λy AM nM cM vi AP nP cP=>(o1.length-y).toNat) ?_ ?_
    ·exact⟨x,AL,nL,cL,acc,AO,nO,cO,⟨G,G,(hM),(hnL),(hnO),(h5)⟩,KP⟩
    intro y AM nM cM vi AP nP cP ⟨Vg,hy1,Sr,hnM,Zr,h6⟩;have Mb:=Sr.len Vg hy1 io G;have Zs:=Zr;rw[bn] at Zs;have e0:=aQr (l:=o1) Vg
    have hoi:y<o1.length->(0<=rd (o1.drop y.toNat) 0/\rd (o1.drop y.toNat) 0<s.length)/\rd (o1.drop y.toNat) 0%3≠0:=λh=>by
     have:=lI.1 (u6.perm.subset (bF Vg h));rw[e0];omega
    refine aD<|wq<|wm Z<|wy (aO aa Z)<|wy (dN Z Z)<|wm Z<|dD 8 [(0,sl dg s.length de),(5,sl AP nP cP),(6,sl fz V1.length mj),(10,sl AM nM cM),(12,I (rd ot2 q)),(66,sl ge ((ot1).length) gg),(67,I (((ot1).length:Nat):Int)),(68,I q),(83, .bool (decide ((0<(nP:Int))/\(cmpL ((s).drop ((rd (o1.drop y.toNat) 0)).toNat) ((s).drop ((rd ot2 q)).toNat)<0))))] ((ri 3 AM nM cM vi)::(ri 3 ge ((ot1).length) gg ot2)::(ri 3 qq ((s).length) dj (fQ s 0))::(ri 3 br (((plc s.length 0)).length) bw ot1)::(ri 3 (GG li) s.length s.length V)::(ri 3 ft ((plc s.length 0).length) ee (plc s.length 0))::Rn) ?_ ?_
    ·refine bP 75 Z (λiu=> ?_) (λiu=> ?_)
     ·refine aB Z Z<|wm Z<|aB Z Z<|wm Z<|aB Z Z<|wm Z<|aB Z Z<|wy (aG aa sz3 Z Z (λ_ h=>h6 _ _ _ (h.right (R':=[_,_,_,_,_,_]))))<|aB Z Z<|wy (aW au Z Z (λ_ h=>h6 _ _ _ (h.right (R':=[_,_,_,_,_,_]))))<|aB Z Z<|wm Z<|aB Z Z<|wa (aC bHv Z (Ct.quiet (λw hw=>aLa ((ci.c _) w hw) ((λ_ h=>e9 _ _ _ (h.right (R':=[_,_,_,_,_,_]))) w hw) u6 (hoi G) hqj xl G))) ?_;rintro _ _⟨rfl,rfl⟩;refine wy (aQ Z Z)<|aA ?_;exact KP
     ·refine aM Z Z Z Z<|aM Z Z Z Z<|aM Z Z Z Z<|aM Z Z Z Z<|aM Z Z Z Z<|aM Z Z Z Z<|aM Z Z Z Z<|wy (aP Z Z)<|aA ?_;exact KP
    refine aA<|bA Z (λkt=> ?_) (λkt=> ?_)
    ·have Wu:y<o1.length:=G
     have v8:=iU.1 kt.2;rw[e0] at v8;refine aH<|aI<|bL mixed<|wD 0 Z (aK Z)<|wD 1 Z (aK Z)<|wD 2 Z (aG aa sz3 Z Z (λ_ h=>h6 _ _ _ (h.right (R':=[_,_,_,_,_,_]))))<|wD 3 Z (aW au Z Z (λ_ h=>h6 _ _ _ (h.right (R':=[_,_,_,_,_,_]))))<|wD 6 Z (aK Z)<|wD 7 Z (fJ aa sz3 Z Z)<|wC 4 Z (bQ .i64 [rd (o1.drop y.toNat) 0] aa zs3 Z Z Z) ?_;rintro _ _⟨Cp,rfl,rfl⟩;refine⟨.inr hrZ,?_⟩;refine wC 5 Z (aY 1 Z aa zb3 Z Z Z (rdr 0 Z)) ?_;rintro _ _⟨f8,g9,rfl,rfl⟩;refine⟨.inl cA,?_⟩;refine jS (v:=sl f8 (nM+1) g9) Z<|wD 8 Z (bB Z)<|wD 9 Z (bB Z)<|wN ?_
     exact⟨(y+1),f8,nM+1,g9,vi++([rd (o1.drop y.toNat) 0]),jD AP (1:Int).toNat cP 1,nP-(1:Int).toNat,cP-(1:Int).toNat,⟨G,G,(by rw[e0];exact Sr.left u6.sorted Pv Vg G io hqq v8),(by rw[ai,hnM];rfl),(by rw[bn] at Zr ⊢;omega),(λB w0 w h=>by
        have g:=RdC.fromI (l:=(1:Int).toNat) (h6 B w0) G w h;rw[List.drop_drop,show y.toNat+(1:Int).toNat=(y+1).toNat by omega] at g
        exact g)⟩,G,SA,λ_ h=>h.selR (F:=[_,_,_,_,_,_,_]) (F':=[_,_,_,_,_,_]) [1,2,3,4,5,6] cC Z⟩
    ·have s5:y<o1.length->bV s (rd ot2 q) (rd o1 y):=λh=>by
      have h1:=hoi h;rw[e0] at h1 kt;rcases KR h1.1 hqj.1 G with g|g
      ·exact absurd ⟨G,iU.2 g⟩ kt
      ·exact g
     refine aS<|aJ<|wm Z<|wm Z<|wa (bQ .i64 [rd ot2 q] aa zs3 Z Z Z) ?_;rintro _ _⟨km,rfl,rfl⟩;refine wa (aY 1 Z aa zb3 Z Z Z (rdr 0 Z)) ?_;rintro _ _⟨gi,gl,rfl,rfl⟩;refine bK (v:=sl gi (nM+1) gl) Z<|wn Z<|aJ<|wA Z Z<|wm Z<|aA ?_;exact⟨q+1,y,gi,nM+1,gl,vi++([rd ot2 q]),AP,nP,cP,⟨G,G,G,G,(Sr.right u6.sorted Pv Vg io G s5),(by rw[ai,hnM];rfl),(Zr),(h6)⟩,G,SA,λ_ h=>h.selR (F:=[_,_,_,_,_,_,_]) (F':=[_,_,_,_,_,_]) [1,2,3,4,5,6] cC Z⟩
   ·refine aS<|wq<|wm Z<|wm Z<|wa (aY 0 Z aa zb3 Z Z Z (λ_ h=>h5 _ _ _ (h.right (R':=[_,_,_,_,_,_]))) (by have:=hnO;rw[bn] at this;omega)) ?_;rintro _ _⟨js,jt,rfl,rfl⟩;refine bK (v:=sl js (nL+nO) jt) Z<|wn Z<|bN (R1:=[(ri 3 js (nL+nO) jt (acc++(o1.drop x.toNat)))]) (λ_ h=>(h.selR (F:=[_,_,_,_,_,_]) (F':=[_]) [0] cC Z).left (X:=[_])) ?_;refine⟨_,Z,?_⟩;have hd:=hM.done u6.sorted G u6.perm Vv;have e:nL+nO=s.length:=by have:=hd.1.length_eq;rw[bC,ai] at this;omega
    rw[e];exact⟨_,_,_,Z,hd.1,hd.2,Z⟩
theorem VY (m:Nat): ∀ {w:World} {dg:AF} {gr de:Nat} {s:AH} {k:Int},Rd w dg gr de 1 (ints .i64 s)->s.length<m->((0<=k/\k<=1000000)/\ ∀x∈s,0<=x/\x<k)->s.length<=100000->
  CF 266 #[sl dg gr de,I k] w (λv R'=> ∃(b:AH) (A:AF) (c:Nat),v=sl A s.length c/\b.Perm (iota s.length)/\b.Pairwise (bV s)/\R'=[(ri 3 A s.length c b)]):=by
 induction m with
 |zero=>intro w A n c s k _ h;omega
 |succ m ih=>
  intro w A n c s k ci hm dr hN;exact FU ci (λh1 h2 h3 h4=>ih h1 G h3 h4) dr hN
theorem NM {s:AH} (ci:Rd w dg gr de 1 (ints .i64 s)) (dr:(0<=k/\k<=1000000)/\ ∀x∈s,0<=x/\x<k) (hN:s.length<=100000):
  CF 266 #[sl dg gr de,I k] w (λv R'=> ∃(b:AH) (A:AF) (c:Nat),v=sl A s.length c/\b.Perm (iota s.length)/\b.Pairwise (bV s)/\R'=[(ri 3 A s.length c b)]):=VY (s.length+1) ci G dr hN
theorem NK {s:AH} (ci:Rd w dg gr de 1 (ints .i64 s)) (hs: ∀x∈s,0<=x/\x<1048576) (hN:s.length<=100000):
  CF 267 #[sl dg gr de] w (λv R'=> ∃(m:Int) (A:AF) (c:Nat),v=sl A s.length c/\(∀x∈s,0<=x/\x<=m)/\R'=[(ri 3 A s.length c (sqz s m))]):=by
 obtain rfl:=ci.lenI;refine fn1 Tryz.func267 Z Z Z ?_;have d8:=ci.max;refine wq<|wn Z<|wq<|wn Z<|aD<|wq<|wm Z<|wy (aO aa Z)<|wm Z<|aA ?_;refine aI ?_;refine dS (λ(i:Int) (m:Int)=>[(0,sl dg s.length de),(3,I m),(13,sl dg s.length de),(14,I (s.length:Int)),(15,I i)]) (λi m=>[]) (λi m=>(0<=i)/\(i<=s.length)/\(0<=m)/\(m<=1048575)/\(∀x∈s.take i.toNat,x<=m)) (λi m=>(s.length-i).toNat) ?_ ?_
 ·exact⟨0,0,⟨G,G,G,G,(λx hx=>by cases hx)⟩,KP⟩
 intro i m ⟨bb,ij,sv,hmk,Tw⟩;refine wq<|wL Z Z<|aA<|aD<|bA Z (λbc=> ?_) (λbc=> ?_)
 ·have hsi:=hs _ (bF (L:=s) bb G);refine aH<|aD<|aI<|wq<|wy (aG aa sz3 Z Z (ci.c _))<|wy (aW au Z Z (ci.c _))<|wn Z<|aJ<|wm Z<|wm Z<|wy (aOa Z Z)<|wn Z ?_;refine aJ<|wA Z Z<|wm Z<|aA ?_
  exact⟨i+1,max m (rd s i),⟨G,G,G,G,(λx hx=>by
    rw[dF bb G] at hx;rcases fo.1 hx with hx|hx
    ·have:=Tw x hx;omega
    ·rw[jb.1 hx];omega)⟩,G,KP⟩
 ·rw [bi G] at Tw;refine aS<|wq<|wm Z<|wA Z Z<|wa (dM aa zb3 Z Z) ?_;rintro _ _⟨ao,rfl,rfl⟩;refine bK (v:=sl (GG ao) ((m+1).toNat) ((m+1).toNat)) Z<|wn Z<|aD<|wq<|wm Z<|wy (aO aa Z)<|wm Z<|aA<|aI ?_;refine dS (λ(j:Int) (V:AH)=>[(0,sl dg s.length de),(6,sl (GG ao) ((m+1).toNat) ((m+1).toNat)),(26,sl dg s.length de),(27,I (s.length:Int)),(28,I j)]) (λj V=>[(ri 3 (GG ao) ((m+1).toNat) ((m+1).toNat) V)]) (λj V=>(0<=j)/\(j<=s.length)/\(V=thr (s.take j.toNat) m)) (λj V=>(s.length-j).toNat) ?_ ?_
  ·exact⟨0,List.replicate ((m+1).toNat) (0:Int),⟨G,G,((aWr m).symm)⟩,KP⟩
  intro j V ⟨b8,Pn,hV⟩;refine wq<|wL Z Z<|aA<|aD<|bA Z (λda=> ?_) (λda=> ?_)
  ·have hsj:0<=rd s j/\rd s j<=m:=⟨(hs _ (bF (L:=s) b8 G)).1,Tw _ (bF (L:=s) b8 G)⟩;have kd:V.length=(m+1).toNat:=by rw[hV,jT]
   refine aH<|aD<|aI<|wq<|wy (aG aa sz3 Z Z (ci.c _))<|wy (aW au Z Z (ci.c _))<|wn Z<|aJ<|wm Z<|wm Z<|wy (aG aa sz3 Z Z (rdr 0 Z))<|bY (bG 0 Z sz3 Z Z) ?_;rintro _ _ rfl;refine aA<|aJ<|wA Z Z<|wm Z<|aA ?_;exact⟨j+1,upd V (rd s j) 1,⟨G,G,(by rw[dF b8 G,<-aOs hsj.1 hsj.2,<-hV])⟩,G,KP⟩
  ·have Sy:V=thr s m:=by rw[hV,bi G]
   have Ls:(cK V).length=(m+1).toNat:=by rw[eQ,Sy,jT]
   refine aS<|wq<|wm Z<|wa (aC aHm Z (Ct.fresh (λw hw=>xA ((rdr 0 Z) w hw) (by rw[Sy];exact aOt s m) (by rw[Sy];have:=aWq s m;omega) (by rw[Sy,jT];omega)))) ?_;rintro _ _⟨_,rfl,kj,kl,rfl,rfl⟩;refine wn Z<|wq<|wm Z<|wy (aO aa Z)<|wa (dM aa zb3 Z Z) ?_;rintro _ _⟨im,rfl,rfl⟩;refine bK (v:=sl (GG im) s.length s.length) Z<|wn Z<|aD<|wq<|wm Z<|wy (aO aa Z)<|wm Z<|aA<|aI ?_;refine dS (λ(z:Int) (U:AH)=>[(9,sl kj ((cK V).length) kl),(10,sl (GG im) s.length s.length),(41,sl dg s.length de),(42,I (s.length:Int)),(43,I z)]) (λz U=>[(ri 3 (GG im) s.length s.length U),(ri 3 kj ((cK V).length) kl (cK V)),(ri 3 (GG ao) ((m+1).toNat) ((m+1).toNat) V)]) (λz U=>(0<=z)/\(z<=s.length)/\(U.length=s.length)/\(∀j:Int,0<=j->j<z->rd U j=rd (cK (thr s m)) (rd s j))) (λz U=>(s.length-z).toNat) ?_ ?_
   ·exact⟨0,List.replicate s.length (0:Int),⟨G,G,(by rw[cz]),(λj h1 h2=>G)⟩,KP⟩
   intro z U ⟨wj,wk,Lu,hU⟩;refine wq<|wL Z Z<|aA<|aD<|bA Z (λfk=> ?_) (λfk=> ?_)
   ·have hsz:0<=rd s z/\rd s z<=m:=⟨(hs _ (bF (L:=s) wj G)).1,Tw _ (bF (L:=s) wj G)⟩;refine aH<|aD<|aI<|wq<|wm Z<|wy (aG aa sz3 Z Z (ci.c _))<|wy (aW au Z Z (ci.c _))<|wg Z<|wn Z<|aJ<|wm Z<|wm Z<|wm Z ?_;refine wm Z<|wy (aG aa sz3 Z Z (rdr 1 Z))<|wy (aW au Z Z (rdr 1 Z))<|wy (aG aa sz3 Z Z (rdr 0 Z))<|bY (bG 0 Z sz3 Z Z) ?_;rintro _ _ rfl;refine aA<|aJ<|wA Z Z<|wm Z<|aA ?_;exact⟨z+1,upd U z (rd (cK V) (rd s z)),⟨G,G,(by rw[aT];exact Lu),(eX (f:=λj=>rd (cK (thr s m)) (rd s j)) wj G hU (by rw[Sy]))⟩,G,KP⟩
   ·refine aS<|wq<|wm Z<|wn Z<|aX [0] 99 cC Z ?_;refine⟨_,Z,?_⟩;have gs: ∀x∈s,0<=x/\x<=m:=λx hx=>⟨(hs x hx).1,Tw x hx⟩;obtain rfl:U=sqz s m:=bDi gs Lu (λj h1 h2=>hU j h1 G);exact⟨m,_,_,Z,gs,Z⟩
theorem aSo {s:AH} (ci:Rd w dg gr de 1 (ints .i64 s)) (dr:(0<=k/\k<=1048576)/\ ∀x∈s,0<=x/\x<k) (hN:s.length<=100000):
  CF 220 #[sl dg gr de,I k] w (λv R'=> ∃(b:AH) (A:AF) (c:Nat),v= .tuple #[sl A s.length c,I 0]/\b.Perm (iota s.length)/\b.Pairwise (bV s)/\R'=[(ri 3 A s.length c b)]):=by
 obtain rfl:=ci.lenI;refine fn2 Tryz.func220 Z Z Z ?_;have d8:=ci.max;refine wq<|wg Z<|wn Z<|aD<|wq<|wm Z<|wy (aO aa Z)<|wy (Yl.f (dN Z Z))<|aA<|aN Z<|aH<|aD ?_;refine wq<|wm Z<|wm Z<|wa (aC YQ Z (Ct.fresh (λw hw=>oU ((ci.c _) w hw) cE))) ?_;rintro _ _⟨_,rfl,cr,co,rfl,rfl⟩;refine wm Z<|wX Z Z<|wX Z Z<|wg Z<|wn Z<|wq<|wm Z<|wy (dH Z)<|aA<|aN Z<|aH<|wq ?_;refine wm Z<|wa (aC bIh Z (Ct.fresh (λw hw=>NK ((ci.c _) w hw) (λx hx=>by have:=dr.2 x hx;omega) hN))) ?_;rintro _ _⟨_,rfl,mq,me,mz,rfl,Zp,rfl⟩;refine wm Z<|wy (aO aa Z)<|wA Z Z<|wa (aC bCf Z (Ct.fresh (λw hw=>NM ((rdr 0 Z) w hw) ⟨G,λx hx=>by have:=bDj Zp x hx;omega⟩ (by rw[GU];exact hN)))) ?_;rintro _ _⟨_,rfl,b1,ft,ee,rfl,es,gw,rfl⟩;refine wg Z<|wn Z<|aX [0] 99 cC Z ?_;refine⟨_,_,Z,Z,?_⟩;have ho:=aJf Zp es gw;rw[GU];exact⟨b1,_,_,Z,ho.1,ho.2,Z⟩
theorem aLf {an:AF} {ar am:Nat} {u:AH} (al:Rd w an ar am 1 (ints .u8 u)) (ac:aL u) (hN:u.length<=100000):
  CF 147 #[sl an ar am] w (λv R'=> ∃(b:AH) (A:AF) (c:Nat),v= .tuple #[sl A u.length c,I 0]/\b.Perm (iota u.length)/\b.Pairwise (bV u)/\R'=[(ri 3 A u.length c b)]):=by
 obtain rfl:=al.lenI;refine fn2 Tryz.func147 Z Z Z ?_;have mv:=al.max;refine wq<|wg Z<|wn Z<|aD<|wq<|wm Z<|wy (aO ah Z)<|wy (Yl.f (dN Z Z))<|aA<|aN Z<|aH<|aD ?_;refine aJ<|wm Z<|wy (aO ah Z)<|wa (dM aa zb3 Z Z) ?_;rintro _ _⟨ao,rfl,rfl⟩;refine bK (v:=sl (GG ao) u.length u.length) Z<|wn Z<|aD<|wq<|wm Z<|wy (aO ah Z)<|wm Z<|aA<|aI ?_;refine dS (λ(i:Int) (V:AH)=>[(4,sl (GG ao) u.length u.length),(13,sl an u.length am),(14,I (u.length:Int)),(15,I i)]) (λi V=>[(ri 3 (GG ao) u.length u.length V)]) (λi V=>(0<=i)/\(i<=u.length)/\(V.length=u.length)/\(∀j:Int,0<=j->j<i->rd V j=rd u j)) (λi V=>(u.length-i).toNat) ?_ ?_
 ·exact⟨0,List.replicate u.length (0:Int),⟨G,G,(by rw[cz]),(λj h1 h2=>G)⟩,KP⟩
 intro i V ⟨bb,ij,kd,hV⟩;refine wq<|wL Z Z<|aA<|aD<|bA Z (λbc=> ?_) (λbc=> ?_)
 ·have un:=ac.rd i;refine aH<|aD<|aI<|wq<|wm Z<|wy (aG ah sz5 Z Z (al.c _))<|wy (aW dh Z Z (al.c _))<|wg Z<|wn Z<|aJ<|wm Z<|wm Z<|wm Z ?_;refine wy (jJ dh au Z)<|wy (aG aa sz3 Z Z (rdr 0 Z))<|bY (bG 0 Z sz3 Z Z) ?_;rintro _ _ rfl;refine aA<|aJ<|wA Z Z<|wm Z<|aA ?_;exact⟨i+1,upd V i (rd u i),⟨G,G,(by rw[aT];exact kd),(eX (f:=λj=>rd u j) bb G hV Z)⟩,G,KP⟩
 ·have Sz:V=u:=bE kd (λj h1 h2=>hV j h1 G);refine aS<|wq<|wm Z<|wa (aC bIr Z (Ct.fresh (λw hw=>aSo ((rdr 0 Z) w hw) ⟨G,λx hx=>by rw[Sz] at hx;have:=ac x hx;omega⟩ G))) ?_;rintro _ _⟨_,rfl,b1,kj,kl,rfl,es,gw,rfl⟩;refine wX Z Z<|wX Z Z<|wg Z<|wn Z<|aX [0] 99 cC Z ?_;refine⟨_,_,Z,Z,?_⟩;subst Sz;exact⟨b1,_,_,Z,es,gw,Z⟩
end Go.Proofs.YtdbebmmhdefgdaaGreat
namespace Go.Proofs.YtdbebmmhdefgdaaGreat
open Go Go.Eng Go.RowKit Go.Shelf Go.Proofs
variable {c j g:Nat} {xs:AG} {zs:AH} {A:AF}
attribute [local go_sem] Oper.semAt_some
theorem iR {W:World} {a:Addr} {n:Nat} (h:Rd W (some a) n c 1 xs) (hj:j<xs.length):W.cell? (a.add j)=some (xs[j]'hj):=by
 obtain⟨b,h1,h2⟩:=h.at_ j _ (av hj);obtain rfl:=jd h1;exact h2
theorem _root_.Go.Eng.Iter.congr {P:Program} {gf:Nat} {lb:Array Value} {po:World->Prop} {N:Nat} {f f':Nat->AG} (it:Iter P gf lb po N f) (h: ∀k,k<N->f k=f' k):Iter P gf lb po N f':=
 λl J W hR hD hY h0=>it l J W hR hD (λk W hk hJ=>by rw[h k hk];exact hY k W hk hJ) h0
theorem QE {k:IntKind} (h:j<zs.length):(ints k zs)[j]?.getD undef= .int k (rd zs (j:Int)):=by
 have:=Go.Eng.ints_at (k:=k) (l:=zs) (i:=(j:Int)) G G;rw[bq] at this;rw[this,oh]
set_option maxRecDepth 100000 in
theorem aVq (sk:xs.length<=1000000):Iter Tryz.prog 240 #[.pointer (some ⟨g,0,none⟩)] (λw=>Rd w (some ⟨g,0,none⟩) 1 1 1 [.slice A xs.length c]/\Rd w A xs.length c 1 xs) xs.length
  (λk=>[.int .i64 (((xs.length-1-k:Nat):Int)),xs[xs.length-1-k]?.getD undef]):=by
 intro l J W hR _ hY h0;rcases fe xs.length with hz|dy
 ·have hc:W.cell? ⟨g,0,none⟩=some (.slice A xs.length c):=iR (hR _ _ h0).1 (j:=0) cD;rw[hz] at hc;refine Bc Tryz.func240 rfl trivial ?_ rfl;simp only[Tryz.ntmps240,qb,dm,jg,Nat.reduceAdd,Nat.reduceSub,vo,vv,yt,uh,ig,ja]
  gi_wp2
  gi_loopw [3] (λi wr=>i= .int .i64 (-1)/\J 0 wr) (λ_ _=>0)
  case atStart=>exact⟨rfl,h0⟩
  case round=>
   obtain⟨rfl,re⟩:=hrel
   gi_wp2
   go_end0
   exact⟨⟨_,rfl⟩,by rw[hz];exact re⟩
 ·obtain ⟨a,rfl⟩: ∃a,A=some a:=by
   obtain⟨a,h1,_⟩:=(hR _ _ h0).2.at_ 0 _ (av dy);exact⟨a,h1⟩
  have hc:W.cell? ⟨g,0,none⟩=some (.slice (some a) xs.length c):=iR (hR _ _ h0).1 (j:=0) cD;refine Bc Tryz.func240 rfl trivial ?_ rfl;simp only[Tryz.ntmps240,qb,dm,jg,Nat.reduceAdd,Nat.reduceSub,vo,vv,yt,uh,ig,ja]
  gi_wp2
  gi_loopw [3] (λi wr=>(∃k j:Nat,k+j+1=xs.length/\i= .int .i64 (j:Int)/\J k wr)\/(i= .int .i64 (-1)/\J xs.length wr)) (λi _=>(intOf i+1).toNat)
  case atStart=>exact .inl ⟨0,xs.length-1,G,by rw[show((xs.length:Int)-1)=((xs.length-1:Nat):Int) by omega],h0⟩
  case round=>
   rcases hrel with⟨k,j,Qx,rfl,re⟩|⟨rfl,re⟩
   ·obtain ⟨fn,tmps,assign,body,hy,Ow⟩:=hY k wr G re;rw[show xs.length-1-k=j by omega] at hy;have r7:j<xs.length:=G
    rw[av r7] at hy;simp only[oh] at hy;have bc:wr.cell? ⟨g,0,none⟩=some (.slice (some a) xs.length c):=iR (hR _ _ re).1 (j:=0) cD;have da:=iR (hR _ _ re).2 r7
    gi_wp2
    refine⟨rfl,Ow.mono ?_⟩;rintro e W3 ⟨rfl,Ko⟩
    gi_wp2
    go_roundw
    case rel=>
     rcases fe j with rfl|hj
     ·exact .inr ⟨cD,by rw[<-Qx];exact Ko⟩
     ·exact .inl ⟨k+1,j-1,G,by rw[show((j:Int)-1)=((j-1:Nat):Int) by omega],Ko⟩
    case measure=>simp[intOf]
   ·gi_wp2
    go_end0
    exact⟨⟨_,rfl⟩,re⟩
set_option maxRecDepth 100000 in
theorem aVr (sk:xs.length<=1000000):Iter Tryz.prog 241 #[.pointer (some ⟨g,0,none⟩)] (λw=>Rd w (some ⟨g,0,none⟩) 1 1 1 [.slice A xs.length c]/\Rd w A xs.length c 1 xs) xs.length
  (λk=>[.int .i64 (((xs.length-1-k:Nat):Int)),xs[xs.length-1-k]?.getD undef]):=by
 intro l J W hR _ hY h0;rcases fe xs.length with hz|dy
 ·have hc:W.cell? ⟨g,0,none⟩=some (.slice A xs.length c):=iR (hR _ _ h0).1 (j:=0) cD;rw[hz] at hc;refine Bc Tryz.func241 rfl trivial ?_ rfl;simp only[Tryz.ntmps241,qb,dm,jg,Nat.reduceAdd,Nat.reduceSub,vo,vv,yt,uh,ig,ja]
  gi_wp2
  gi_loopw [3] (λi wr=>i= .int .i64 (-1)/\J 0 wr) (λ_ _=>0)
  case atStart=>exact⟨rfl,h0⟩
  case round=>
   obtain⟨rfl,re⟩:=hrel
   gi_wp2
   go_end0
   exact⟨⟨_,rfl⟩,by rw[hz];exact re⟩
 ·obtain ⟨a,rfl⟩: ∃a,A=some a:=by
   obtain⟨a,h1,_⟩:=(hR _ _ h0).2.at_ 0 _ (av dy);exact⟨a,h1⟩
  have hc:W.cell? ⟨g,0,none⟩=some (.slice (some a) xs.length c):=iR (hR _ _ h0).1 (j:=0) cD;refine Bc Tryz.func241 rfl trivial ?_ rfl;simp only[Tryz.ntmps241,qb,dm,jg,Nat.reduceAdd,Nat.reduceSub,vo,vv,yt,uh,ig,ja]
  gi_wp2
  gi_loopw [3] (λi wr=>(∃k j:Nat,k+j+1=xs.length/\i= .int .i64 (j:Int)/\J k wr)\/(i= .int .i64 (-1)/\J xs.length wr)) (λi _=>(intOf i+1).toNat)
  case atStart=>exact .inl ⟨0,xs.length-1,G,by rw[show((xs.length:Int)-1)=((xs.length-1:Nat):Int) by omega],h0⟩
  case round=>
   rcases hrel with⟨k,j,Qx,rfl,re⟩|⟨rfl,re⟩
   ·obtain ⟨fn,tmps,assign,body,hy,Ow⟩:=hY k wr G re;rw[show xs.length-1-k=j by omega] at hy;have r7:j<xs.length:=G
    rw[av r7] at hy;simp only[oh] at hy;have bc:wr.cell? ⟨g,0,none⟩=some (.slice (some a) xs.length c):=iR (hR _ _ re).1 (j:=0) cD;have da:=iR (hR _ _ re).2 r7
    gi_wp2
    refine⟨rfl,Ow.mono ?_⟩;rintro e W3 ⟨rfl,Ko⟩
    gi_wp2
    go_roundw
    case rel=>
     rcases fe j with rfl|hj
     ·exact .inr ⟨cD,by rw[<-Qx];exact Ko⟩
     ·exact .inl ⟨k+1,j-1,G,by rw[show((j:Int)-1)=((j-1:Nat):Int) by omega],Ko⟩
    case measure=>simp[intOf]
   ·gi_wp2
    go_end0
    exact⟨⟨_,rfl⟩,re⟩
theorem zB (sk:zs.length<=1000000):Iter Tryz.prog 241 #[.pointer (some ⟨g,0,none⟩)] (λw=>Rd w (some ⟨g,0,none⟩) 1 1 1 [.slice A zs.length c]/\Rd w A zs.length c 1 (ints .i64 zs)) zs.length
  (λk=>[.int .i64 (((zs.length-1-k:Nat):Int)), .int .i64 (rd zs ((zs.length-1-k:Nat):Int))]):=by
 have h:=aVr (g:=g) (A:=A) (c:=c) (xs:=ints .i64 zs) (by rw[bO];exact sk);rw[bO] at h;exact h.congr λk hk=>by rw[QE G]
set_option maxRecDepth 100000 in
theorem aOl:Iter Tryz.prog 346 #[.pointer (some ⟨g,0,none⟩)] (λw=>Rd w (some ⟨g,0,none⟩) 1 1 1 [.slice A xs.length c]/\Rd w A xs.length c 1 xs) xs.length
  (λk=>[xs[k]?.getD undef]):=by
 intro l J W hR _ hY h0;have sk:=(hR _ _ h0).2.max;rcases fe xs.length with hz|dy
 ·have hc:W.cell? ⟨g,0,none⟩=some (.slice A xs.length c):=iR (hR _ _ h0).1 (j:=0) cD;rw[hz] at hc;refine Bc Tryz.func346 rfl trivial ?_ rfl;simp only[Tryz.ntmps346,qb,dm,jg,Nat.reduceAdd,Nat.reduceSub,vo,vv,yt,uh,ig,ja]
  gi_wp2
  gi_loopw [7] (λi wr=>i= .int .i64 0/\J 0 wr) (λ_ _=>0)
  case atStart=>exact⟨rfl,h0⟩
  case round=>
   obtain⟨rfl,re⟩:=hrel
   gi_wp2
   go_end0
   exact⟨⟨_,rfl⟩,by rw[hz];exact re⟩
 ·obtain ⟨a,rfl⟩: ∃a,A=some a:=by
   obtain⟨a,h1,_⟩:=(hR _ _ h0).2.at_ 0 _ (av dy);exact⟨a,h1⟩
  have hc:W.cell? ⟨g,0,none⟩=some (.slice (some a) xs.length c):=iR (hR _ _ h0).1 (j:=0) cD;refine Bc Tryz.func346 rfl trivial ?_ rfl;simp only[Tryz.ntmps346,qb,dm,jg,Nat.reduceAdd,Nat.reduceSub,vo,vv,yt,uh,ig,ja]
  gi_wp2
  gi_loopw [7] (λi wr=> ∃k:Nat,k<=xs.length/\i= .int .i64 k/\J k wr) (λi _=>xs.length-(intOf i).toNat)
  case atStart=>exact⟨0,qh _,rfl,h0⟩
  case round=>
   obtain⟨k,hk,rfl,re⟩:=hrel;by_cases bo:k<xs.length
   ·obtain ⟨fn,tmps,assign,body,hy,Ow⟩:=hY k wr bo re;rw[av bo] at hy;simp only[oh] at hy;have bc:wr.cell? ⟨g,0,none⟩=some (.slice (some a) xs.length c):=iR (hR _ _ re).1 (j:=0) cD;have da:=iR (hR _ _ re).2 bo
    gi_wp2
    refine⟨rfl,Ow.mono ?_⟩;rintro e W3 ⟨rfl,Ko⟩
    gi_wp2
    go_roundw
    case rel=>exact⟨k+1,G,cD,Ko⟩
    case measure=>simp[intOf];omega
   ·obtain rfl:k=xs.length:=G
    gi_wp2
    go_end0
    exact⟨⟨_,rfl⟩,re⟩
theorem aAq:Iter Tryz.prog 346 #[.pointer (some ⟨g,0,none⟩)] (λw=>Rd w (some ⟨g,0,none⟩) 1 1 1 [.slice A zs.length c]/\Rd w A zs.length c 1 (ints .i64 zs)) zs.length
  (λk=>[.int .i64 (rd zs (k:Int))]):=by
 have h:=aOl (g:=g) (A:=A) (c:=c) (xs:=ints .i64 zs);rw[bO] at h;exact h.congr λk hk=>by rw[QE hk]
end Go.Proofs.YtdbebmmhdefgdaaGreat
namespace Go.Proofs
open Go.Shelf
def Tryz.lays189_ren:Go.Shelf.Ren:=⟨λ|189=>345|125=>192|257=>362|128=>251|129=>252|294=>367|295=>368|296=>369|297=>370|298=>371|299=>372|216=>348|300=>373|301=>374|328=>376|329=>282|330=>283|331=>377|332=>378|215=>194|343=>379|n=>n,λ|28=>52|3=>3|46=>167|0=>0|51=>123|53=>112|4=>4|183=>289|182=>288|131=>97|5=>5|9=>9|218=>316|222=>320|228=>337|229=>338|n=>n,λ|n=>n⟩
theorem Tryz.lays189:Go.Proofs.Lays.n189 Tryz.prog Tryz.lays189_ren:= {
 mixed:=cA
 f125:=Jp.trans (bg some cA)
 f128:=Jr.trans (bg some cA)
 f129:=Js.trans (bg some cA)
 f189:=Tryz.func345.trans (bg some cA)
 f215:=Jq.trans (bg some cA)
 f216:=Tryz.func348.trans (bg some cA)
 f257:=Tryz.func362.trans (bg some cA)
 f294:=Tryz.func367.trans (bg some cA)
 f295:=Tryz.func368.trans (bg some cA)
 f296:=Tryz.func369.trans (bg some cA)
 f297:=Tryz.func370.trans (bg some cA)
 f298:=Tryz.func371.trans (bg some cA)
 f299:=Tryz.func372.trans (bg some cA)
 f300:=Tryz.func373.trans (bg some cA)
 f301:=Tryz.func374.trans (bg some cA)
 f328:=Tryz.func376.trans (bg some cA)
 f329:=Jt.trans (bg some cA)
 f330:=Ju.trans (bg some cA)
 f331:=Tryz.func377.trans (bg some cA)
 f332:=Tryz.func378.trans (bg some cA)
 f343:=Tryz.func379.trans (bg some cA)
 t0:=Bt
 a0:=Ij
 z0:=Gs
 v0:=Cq
 t3:=Af
 a3:=Ga
 z3:=Ec
 v3:=Ba
 t4:=Bu
 a4:=Ik
 z4:=Gt
 v4:=Cr
 t5:=Bv
 a5:=Il
 z5:=Gu
 v5:=Cs
 t9:=Bw
 a9:=Im
 z9:=Gv
 v9:=Cu
 t28:=Tryz.underlying52
 a28:=Tryz.isAgg52
 z28:=Tryz.sizeOf52
 v28:=Tryz.zeroValue52
 t46:=zh
 a46:=Ch
 z46:=Bl
 v46:=zu
 t51:=Ao
 a51:=Fa
 z51:=Eb
 v51:=Bh
 t53:=Am
 a53:=Ez
 z53:=Ea
 v53:=Bg
 t131:=Ed
 a131:=Jv
 z131:=Jb
 v131:=Ew
 t182:=Cz
 a182:=Ir
 z182:=Hd
 v182:=Ee
 t183:=Da
 a183:=Iu
 z183:=He
 v183:=Ef
 t218:=Db
 a218:=Iw
 z218:=Hf
 v218:=Eg
 t222:=Dc
 a222:=Iy
 z222:=Hg
 v222:=Eh
 t228:=De
 a228:=Iz
 z228:=Hl
 v228:=Ei
 t229:=Dg
 a229:=Ja
 z229:=Hm
 v229:=Ej}
open Go.Sort Go.RowKit in
theorem Tryz.slices_Sort_int (du off cap:Nat) (zs:AH) (w:World) (hH:Holds (Value.int .i64) w du off zs.toArray) (hblk:du<w.heap.size) (hsz:zs.length<4611686018427387904):
  Calls Tryz.prog 345 #[.slice (some ⟨du,off,none⟩) zs.length cap] w λe w'=>
   e= .returned (.tuple #[])/\ ∃n os,w'=grow (putRow (Value.int .i64) (Sort.ahead w n) du off (zs.mergeSort λx y=>decide (x<=y)).toArray) os:=Any.slices_Sort_int Tryz.lays189 du off cap zs w hH hblk hsz
def Tryz.laysNm225_ren:Go.Shelf.Ren:=⟨λ|25=>325|31=>348|32=>349|37=>194|n=>n,λ|22=>52|3=>3|4=>4|40=>167|0=>0|n=>n,λ|n=>n⟩
theorem Tryz.laysNm225:Go.Proofs.Lays2.n25 Tryz.prog Tryz.laysNm225_ren:= {
 mixed:=cA
 f25:=Tryz.func325.trans (bg some cA)
 f31:=Tryz.func348.trans (bg some cA)
 f32:=Tryz.func349.trans (bg some cA)
 f37:=Jq.trans (bg some cA)
 t0:=Bt
 a0:=Ij
 z0:=Gs
 v0:=Cq
 t3:=Af
 a3:=Ga
 z3:=Ec
 v3:=Ba
 t4:=Bu
 a4:=Ik
 z4:=Gt
 v4:=Cr
 t22:=Tryz.underlying52
 a22:=Tryz.isAgg52
 z22:=Tryz.sizeOf52
 v22:=Tryz.zeroValue52
 t40:=zh
 a40:=Ch
 z40:=Bl
 v40:=zu}
open Go.RowKit Go.Lib in
theorem Tryz.slices_BinarySearch_int (b off n c:Nat) (zs:AH) (x:Int) (w:World) (hz:n<=zs.length) (Me:n<4611686018427387904) (hc: ∀j,j<zs.length->w.cell? ⟨b,off+j,none⟩=some (.int .i64 (zs.getD j 0))) (hs:(zs.take n).Pairwise (· <= ·)):
  Calls Tryz.prog 325 #[.slice (some ⟨b,off,none⟩) n c, .int .i64 x] w λe w'=>e= .returned (.tuple #[.int .i64 ((zs.take n).countP (· <x):Nat), .bool ((zs.take n).contains x)])/\ ∃q,w'=w.drewN q:=Any.slices_BinarySearch_int Tryz.laysNm225 b off n c zs x w hz Me hc hs
open Go.RowKit Go.Sort in
theorem Tryz.slices_Sort_int_none (p:AF) (cap:Nat) (w:World):
  Calls Tryz.prog 345 #[.slice p 0 cap] w λe w'=>e= .returned (.tuple #[])/\w'=w:=Any.slices_Sort_int_none Tryz.lays189 p cap w
open Go.RowKit Go.Lib in
theorem Tryz.slices_BinarySearch_int_empty (a:AF) (c:Nat) (x:Int) (w:World):
  Calls Tryz.prog 325 #[.slice a 0 c, .int .i64 x] w λe w'=>e= .returned (.tuple #[.int .i64 0, .bool false])/\w'=w:=Any.slices_BinarySearch_int_empty Tryz.laysNm225 a c x w
end Go.Proofs
namespace Go.Eng
open Go Go.RowKit Go.Proofs Go.Sort
section
variable {P:Program} {B:Nat} {w0:World} {R:List Row}
def bFu (P:Program) (f:Nat):Prop:= ∀(du off cap:Nat) (zs:AH) (w:World) (_:Holds (Value.int .i64) w du off zs.toArray) (_:du<w.heap.size) (_:zs.length<4611686018427387904),
 Calls P f #[.slice (some ⟨du,off,none⟩) zs.length cap] w λe w'=>e= .returned (.tuple #[])/\ ∃n os,w'=grow (putRow (Value.int .i64) (Sort.ahead w n) du off (zs.mergeSort λx y=>decide (x<=y)).toArray) os
def bAx (P:Program) (f:Nat):Prop:= ∀(p:AF) (cap:Nat) (w:World),Calls P f #[.slice p 0 cap] w λe w'=>e= .returned (.tuple #[])/\w'=w
def bFw (P:Program) (f:Nat):Prop:= ∀(b off n c:Nat) (zs:AH) (x:Int) (w:World) (_:n<=zs.length) (_:n<4611686018427387904) (_: ∀j,j<zs.length->w.cell? ⟨b,off+j,none⟩=some (.int .i64 (zs.getD j 0))) (_:(zs.take n).Pairwise (· <= ·)),
 Calls P f #[.slice (some ⟨b,off,none⟩) n c, .int .i64 x] w λe w'=>e= .returned (.tuple #[.int .i64 ((zs.take n).countP (· <x):Nat), .bool ((zs.take n).contains x)])/\ ∃q,w'=w.drewN q
def bAz (P:Program) (f:Nat):Prop:= ∀(a:AF) (c:Nat) (x:Int) (w:World),Calls P f #[.slice a 0 c, .int .i64 x] w λe w'=>e= .returned (.tuple #[.int .i64 0, .bool false])/\w'=w
def kV (l:AH):AH:=l.mergeSort λx y=>decide (x<=y)
theorem lN (l:AH):(kV l).Perm l:=List.mergeSort_perm _ _
theorem zT (l:AH):(kV l).Pairwise (· <= ·):=by
 have:=List.pairwise_mergeSort (le:=λx y:Int=>decide (x<=y)) (λa b c h1 h2=>by simp at*;omega) (λa b=>cG) l;exact this.imp λh=>by simpa using h
theorem aJi {f:Nat} (hS:bFu P f) (St:bAx P f) {T m c:Nat} {A:AF} {l:AH} (i:Nat) (hi:R[i]? =some ⟨T,1,A,m,c,ints .i64 l,false⟩) (hsz:l.length<4611686018427387904):
  Ct P f #[.slice A m c] B w0 R (λv R'=>v= .tuple #[]/\R'=R.set i ⟨T,1,A,m,c,ints .i64 (kV l),false⟩):=by
 intro w hw;have fc:=Row.lies_w (hw.own _ (gq hi)) rfl;have jp:=Row.rd (hw.own _ (gq hi));obtain rfl:m=l.length:=jp.lenI;rcases fc.2 with⟨hv,hn⟩|⟨du,cap,cur,hv,hb,hg,hnc,pt,ie,ht⟩
 ·simp only at hn;have hl:l=[]:=dx hn;subst hl;refine(St A c w).mono ?_;rintro e w' ⟨rfl,rfl⟩;refine⟨_,_,rfl,?_,rfl,rfl⟩;have e:kV []=[]:=by simp[kV]
  rw[e]
  have:R.set i ⟨T,1,A,([]:AH).length,c,ints .i64 [],false⟩=R:=by
   apply uj;intro k;rw[wz];split
   ·rename_i h;subst h;split
    ·exact hi.symm
    ·rename_i h2;rw[lm G]
   ·rfl
  rw[this];exact hw
 ·simp only[jv,zy] at hv;obtain⟨rfl,rfl⟩:=hv;simp only at ht ie hg hnc;have bo:du<w.heap.size:=(gp.1 hg).1
  have hH:Holds (Value.int .i64) w du 0 l.toArray:=by
   intro j hj;have vx:j<l.length:=by simpa using hj
   have e:(ints .i64 l)[j]? =some (.int .i64 (l.toArray[j]!)):=by
    rw[qp l.toArray j hj];simp[ints,vx]
   refine⟨?_,?_⟩
   ·rw [mg];exact hw.cellAt i hi rfl e
   ·exact hw.openAt i (0+j) hi rfl rfl
  refine(hS du 0 c l w hH bo hsz).mono ?_;rintro e w' ⟨rfl,n,os,rfl⟩;refine⟨_,_,rfl,?_,rfl,rfl⟩;have Ub:=ownsRow_sorted_i (w:=w) (base:=B) (g:=du) (cap:=c) (n:=n) (e:=T) (os:=os) (cur:=cur) (ss:=l) (ts:=kV l) (lN l).length_eq hb hg hnc pt ie;have hgb:=grownBy_sorted_i (w:=w) (g:=du) (n:=n) (os:=os) (kV l).toArray;refine hw.upd hi (row:=some du) hgb ?_ (λk hk=> ?_) ?_ (λa' nb=> .inl ⟨a',nb,rfl⟩)
  ·show w.drawn<=w.drawn+n;omega
  ·obtain rfl:=jd hk;exact⟨_,rfl,rfl⟩
  ·exact Ub
theorem aLv {f:Nat} (hF:bFw P f) (hF0:bAz P f) {T m c:Nat} {A:AF} {l:AH} {x:Int} (i:Nat) (hi:R[i]? =some ⟨T,1,A,m,c,ints .i64 l,false⟩) (hsz:l.length<4611686018427387904) (hs:l.Pairwise (· <= ·)):
  Ct P f #[.slice A m c, .int .i64 x] B w0 R (λv R'=>v= .tuple #[.int .i64 (l.countP (· <x):Nat), .bool (l.contains x)]/\R'=R):=by
 intro w hw;have fc:=Row.lies_w (hw.own _ (gq hi)) rfl;have jp:=Row.rd (hw.own _ (gq hi));obtain rfl:m=l.length:=jp.lenI;rcases fc.2 with⟨hv,hn⟩|⟨du,cap,cur,hv,hb,hg,hnc,pt,ie,ht⟩
 ·simp only at hn;have hl:l=[]:=dx hn;subst hl;refine(hF0 A c x w).mono ?_;rintro e w' ⟨rfl,rfl⟩;exact⟨_,_,rfl,hw,rfl,rfl⟩
 ·simp only[jv,zy] at hv;obtain⟨rfl,rfl⟩:=hv;have px:l.take l.length=l:=qa
  have:=hF du 0 l.length c l x w (dn _) hsz (λj hj=>by
   rw[mg]
   exact hw.cellAt i hi rfl (by simp[ints,af,hj])) (by rw[px];exact hs)
  rw[px] at this;refine this.mono ?_;rintro e w' ⟨rfl,q,rfl⟩;exact⟨_,_,rfl,hw.drawn _ (Bq _ _),rfl,rfl⟩
end
end Go.Eng
namespace Go.Proofs.YtdbebmmhdefgdaaGreat
open Go Go.Eng Go.Pure
open Tryz
set_option maxRecDepth 100000
variable {w:World} {ln:AF} {py ml:Nat} {l:AH} {h:Int}
theorem aYk {l:AH} {i:Int} (lj:Rd w ln py ml 1 (ints .i64 l)) (hb:(0<=i/\i<=1000000)/\(0<=h/\h<=1000000)) (hl: ∀x∈l,0<=x/\x<=1000000):
  CF 326 #[sl ln py ml,I i,I h] w (λv R'=>v=I (onF l i h)):=by
 obtain rfl:=lj.lenI;refine fn1 Tryz.func326 Z Z Z ?_;have Vh:=lj.max;refine wq<|wn Z<|aD<|wq<|wm Z<|wm Z<|wA Z Z<|wm Z<|wy (aO aa Z)<|wy (jN Z Z)<|aA<|bA Z (λbc=> ?_) (λbc=> ?_)
 ·refine wq<|wn Z<|bT ?_;refine⟨_,Z,?_⟩;exact bg (Value.int .i64) (by unfold onF;rw[di G])
 ·have hm:=hl _ (bF (L:=l) (k:=i+h) G G);refine aH<|wq<|wm Z<|wm Z<|wm Z<|wA Z Z<|wy (aG aa sz3 Z Z (lj.c _))<|wy (aW au Z Z (lj.c _))<|wA Z Z<|wn Z<|bT ?_;refine⟨_,Z,?_⟩;exact bg (Value.int .i64) (by unfold onF;rw[df G])
theorem aLg {s:AH} {n b:Nat} (lj:Rd w ln py ml 1 (ints .i64 l)) (hl:l=rkL s n) (hh:h=b) (hn:0<n) (hb:b<=n) (hN:s.length<=100000/\n<=100000):
  CF 298 #[sl ln py ml,I h] w (λv R'=> ∃A c A' c',v= .tuple #[sl A s.length c,sl A' s.length c']/\R'=[(ri 3 A s.length c (rkL s (n+b))),(ri 3 A' s.length c' (dB s n b))]):=by
 obtain rfl:=lj.lenI;refine fn2 Tryz.func298 Z Z Z ?_;have Vh:=lj.max;have ua:l.length=s.length:=by rw[hl,AB]
 refine wq<|wg Z<|wn Z<|wq<|wm Z<|wy (aO aa Z)<|wa (dM aa zb3 Z Z) ?_;rintro _ _⟨ao,rfl,rfl⟩;refine bK (v:=sl (GG ao) l.length l.length) Z<|wn Z<|wq<|wm Z<|wy (aO aa Z)<|wa (dM aa zb3 Z Z) ?_;rintro _ _⟨db,rfl,rfl⟩;refine bK (v:=sl (GG db) l.length l.length) Z<|wn Z<|aD<|wq<|wm Z<|wy (aO aa Z)<|wm Z<|aA<|aI ?_;refine gW (λ(i:Int) (O:AH) (K:AH)=>[(0,sl ln l.length ml),(1,I h),(6,sl (GG ao) l.length l.length),(7,sl (GG db) l.length l.length),(19,I (l.length:Int)),(20,I i)]) (λi O K=>[(ri 3 (GG db) l.length l.length K),(ri 3 (GG ao) l.length l.length O)]) (λi O K=>(0<=i)/\(i<=s.length)/\(O.length=s.length)/\(∀j:Int,0<=j->j<i->rd O j=j)/\(K.length=s.length)/\(∀j:Int,0<=j->j<i->rd K j=sJ s n (j.toNat+b))) (λi O K=>(s.length-i).toNat) ?_ ?_
 ·exact⟨0,List.replicate l.length (0:Int),List.replicate l.length (0:Int),⟨G,G,(by rw[cz,ua]),(λj h1 h2=>G),(by rw[cz,ua]),(λj h1 h2=>G)⟩,KP⟩
 intro i O K ⟨bb,ij,Wb,hO,Qo,hK⟩;refine wq<|wL Z Z<|aA<|aD<|bA Z (λbc=> ?_) (λbc=> ?_)
 ·refine aH<|aD<|aI<|wq<|wm Z<|wn Z<|aJ<|wm Z<|wm Z<|wm Z<|wm Z<|wm Z<|wm Z ?_;refine wm Z<|wm Z<|wa (aC bHk Z (Ct.quiet (λw hw=>aYk ((lj.c _) w hw) ⟨G,G⟩ (λx hx=>by rw[hl] at hx;have:=aPx x hx;omega)))) ?_;rintro _ _⟨rfl,rfl⟩;refine wy (aG aa sz3 Z Z (rdr 1 Z))<|bY (bG 1 Z sz3 Z Z) ?_;rintro _ _ rfl;refine wy (aG aa sz3 Z Z (rdr 0 Z))<|bY (bG 0 Z sz3 Z Z) ?_;rintro _ _ rfl;refine aA<|aJ<|wA Z Z<|wm Z<|aA ?_;exact⟨i+1,upd O i i,upd K i (onF l i h),⟨G,G,(by rw[aT];exact Wb),(eX (f:=λj=>j) bb G hO Z),(by rw[aT];exact Qo),(eX (f:=λj=>(sJ s n (j.toNat+b):Int)) bb G hK (by rw[hh,hl];exact bEd bb G))⟩,G,KP⟩
 ·obtain rfl:O=iota s.length:=aGx Wb (λj h1 h2=>hO j h1 G);obtain rfl:K=onL s n b:=bEb Qo (λj h1 h2=>hK j h1 G);have Ny:(bW (iota s.length) (onL s n b) ((l.length:Int)+1).toNat).length=s.length:=by rw[show((l.length:Int)+1).toNat=s.length+1 by omega,(uH s n b).length_eq,bC]
  refine aS<|wq<|wm Z<|wm Z<|wm Z<|wy (aO aa Z)<|wA Z Z<|wa (aC LZ Z (Ct.fresh (λw hw=>uD ((rdr 1 Z) w hw) ((rdr 0 Z) w hw) G (λx hx=>by have:=bEc x hx;omega) (λx hx=>by have:=aV.1 hx;rw[aGi];omega) (by rw[bC];omega)))) ?_;rintro _ _⟨_,rfl,fg,fi,rfl,rfl⟩;refine wm Z<|wX Z Z<|wX Z Z<|wn Z<|wq<|wm Z<|wm Z<|wm Z<|wy (aO aa Z)<|wa (aC LZ Z (Ct.fresh (λw hw=>uD ((rdr 0 Z) w hw) ((lj.c _) w hw) G (λx hx=>by rw[hl] at hx;have:=aPx x hx;omega) (λx hx=>by rw[show((l.length:Int)+1).toNat=s.length+1 by omega] at hx;have:=aV.1 ((uH s n b).subset hx);omega) (by rw[Ny];omega)))) ?_;rintro _ _⟨_,rfl,ft,ee,rfl,rfl⟩;refine wm Z<|wX Z Z<|wX Z Z<|wn Z<|wq<|wm Z<|wy (aO aa Z)<|wa (dM aa zb3 Z Z) ?_;rintro _ _⟨lf,rfl,rfl⟩;refine bK (v:=sl (GG lf) l.length l.length) Z<|wn Z<|aD<|wq<|wm Z<|wy (aO aa Z)<|wm Z<|aA<|aI ?_;refine gW (λ(p:Int) (D:AH) (V:AH)=>[(0,sl ln l.length ml),(6,sl ft (((bW (iota s.length) (onL s n b) (((l.length:Int)+1)).toNat)).length) ee),(7,sl (GG db) l.length l.length),(9,sl (GG lf) l.length l.length),(55,sl ft (((bW (iota s.length) (onL s n b) (((l.length:Int)+1)).toNat)).length) ee),(56,I ((((bW (iota s.length) (onL s n b) (((l.length:Int)+1)).toNat)).length:Nat):Int)),(57,I p)]) (λp D V=>[(ri 3 (GG lf) l.length l.length V),(ri 3 ft (((bW (iota s.length) (onL s n b) (((l.length:Int)+1)).toNat)).length) ee D),(ri 3 fg (((iota s.length)).length) fi (bW (iota s.length) (onL s n b) (((l.length:Int)+1)).toNat)),(ri 3 (GG db) l.length l.length (onL s n b)),(ri 3 (GG ao) l.length l.length (iota s.length))]) (λp D V=>(0<=p)/\(p<=s.length)/\(D=dB s n b)/\(V.length=s.length)/\(∀q:Int,0<=q->q<p->rd V (rd D q)=rkS s (n+b) (rd D q).toNat)) (λp D V=>(s.length-p).toNat) ?_ ?_
  ·exact⟨0,bW (bW (iota s.length) (onL s n b) (((l.length:Int)+1)).toNat) l ((l.length:Int)).toNat,List.replicate l.length (0:Int),⟨G,G,(by rw[hl,AB];unfold dB;rw[show((s.length:Int)+1).toNat=s.length+1 by omega,bq]),(by rw[cz,ua]),(λq h1 h2=>G)⟩,KP⟩
  intro p D V ⟨Px,qn,hD,kd,hV⟩;refine wq<|wL Z Z<|aA<|aD<|bA Z (λda=> ?_) (λda=> ?_)
  ·have hm:=fZ (s:=s) (n:=n) (b:=b) Px G;rw[<-hD] at hm;refine aH<|aD<|aI<|wq<|wm Z<|wy (aG aa sz3 Z Z (rdr 1 Z))<|wy (aW au Z Z (rdr 1 Z))<|wg Z<|wn Z<|wq<|wm Z<|wm Z ?_;refine wm Z<|wy (aG aa sz3 Z Z (rdr 0 Z))<|bY (bG 0 Z sz3 Z Z) ?_;rintro _ _ rfl;refine aA ?_;refine zK [(0,sl ln l.length ml),(6,sl ft (((bW (iota s.length) (onL s n b) (((l.length:Int)+1)).toNat)).length) ee),(7,sl (GG db) l.length l.length),(9,sl (GG lf) l.length l.length),(10,I p),(11,I (rd D p)),(55,sl ft (((bW (iota s.length) (onL s n b) (((l.length:Int)+1)).toNat)).length) ee),(56,I ((((bW (iota s.length) (onL s n b) (((l.length:Int)+1)).toNat)).length:Nat):Int)),(57,I p),(97, .bool (decide ((0<p)/\(((rd l (rd D (p-1)))=(rd l (rd D p)))/\((rd (onL s n b) (rd D (p-1)))=(rd (onL s n b) (rd D p)))))))] [(ri 3 (GG lf) l.length l.length (upd V (rd D p) p)),(ri 3 ft (((bW (iota s.length) (onL s n b) (((l.length:Int)+1)).toNat)).length) ee D),(ri 3 fg (((iota s.length)).length) fi (bW (iota s.length) (onL s n b) (((l.length:Int)+1)).toNat)),(ri 3 (GG db) l.length l.length (onL s n b)),(ri 3 (GG ao) l.length l.length (iota s.length))] ?_ ?_
   ·refine bL mixed<|wD 0 Z (aK Z)<|wD 1 Z (dN Z Z)<|wD 2 Z (aK Z)<|rG 68 Z (λfk=> ?_) (λfk=> ?_)
    ·refine wG 3 Z Z Z (aK Z)<|wG 4 Z Z Z (aK Z)<|wG 5 Z Z Z (aK Z)<|wG 6 Z Z Z (nG Z Z)<|wG 7 Z Z Z (aG aa sz3 Z Z (rdr 1 Z))<|wG 8 Z Z Z (aW au Z Z (rdr 1 Z))<|wG 9 Z Z Z (aG aa sz3 Z Z (lj.c _) (by first|omega|(have nd:=fZ (s:=s) (n:=n) (b:=b) (p:=p-1) G G;rw[<-hD] at nd;omega)) (by first|omega|(have nd:=fZ (s:=s) (n:=n) (b:=b) (p:=p-1) G G;rw[<-hD] at nd;omega))) ?_;refine wG 10 Z Z Z (aW au Z Z (lj.c _) (by first|omega|(have nd:=fZ (s:=s) (n:=n) (b:=b) (p:=p-1) G G;rw[<-hD] at nd;omega)) (by first|omega|(have nd:=fZ (s:=s) (n:=n) (b:=b) (p:=p-1) G G;rw[<-hD] at nd;omega))) ?_;refine wG 11 Z Z Z (aK Z)<|wG 12 Z Z Z (aK Z)<|wG 13 Z Z Z (aG aa sz3 Z Z (lj.c _))<|wG 14 Z Z Z (aW au Z Z (lj.c _))<|wG 15 Z Z Z (gT Z Z)<|wD 16 Z (aQ Z Z)<|wD 17 Z (aK Z)<|rG 83 Z (λiu=> ?_) (λiu=> ?_)
     ·refine wG 18 Z Z Z (aK Z)<|wG 19 Z Z Z (aK Z)<|wG 20 Z Z Z (aK Z)<|wG 21 Z Z Z (nG Z Z)<|wG 22 Z Z Z (aG aa sz3 Z Z (rdr 1 Z))<|wG 23 Z Z Z (aW au Z Z (rdr 1 Z))<|wG 24 Z Z Z (aG aa sz3 Z Z (rdr 3 Z) (by first|omega|(have nd:=fZ (s:=s) (n:=n) (b:=b) (p:=p-1) G G;rw[<-hD] at nd;omega)) (by first|omega|(have nd:=fZ (s:=s) (n:=n) (b:=b) (p:=p-1) G G;rw[<-hD] at nd;omega))) ?_;refine wG 25 Z Z Z (aW au Z Z (rdr 3 Z) (by first|omega|(have nd:=fZ (s:=s) (n:=n) (b:=b) (p:=p-1) G G;rw[<-hD] at nd;omega)) (by first|omega|(have nd:=fZ (s:=s) (n:=n) (b:=b) (p:=p-1) G G;rw[<-hD] at nd;omega))) ?_;refine wG 26 Z Z Z (aK Z)<|wG 27 Z Z Z (aK Z)<|wG 28 Z Z Z (aG aa sz3 Z Z (rdr 3 Z))<|wG 29 Z Z Z (aW au Z Z (rdr 3 Z))<|wG 30 Z Z Z (gT Z Z)<|wD 31 Z (aQ Z Z)<|wN ?_;exact KP
     ·refine wO 18 Z Z Z<|wO 19 Z Z Z<|wO 20 Z Z Z<|wO 21 Z Z Z<|wO 22 Z Z Z<|wO 23 Z Z Z<|wO 24 Z Z Z<|wO 25 Z Z Z<|wO 26 Z Z Z<|wO 27 Z Z Z<|wO 28 Z Z Z<|wO 29 Z Z Z<|wO 30 Z Z Z<|wD 31 Z (aP Z Z)<|wN ?_;exact KP
    ·refine wO 3 Z Z Z<|wO 4 Z Z Z<|wO 5 Z Z Z<|wO 6 Z Z Z<|wO 7 Z Z Z<|wO 8 Z Z Z<|wO 9 Z Z Z<|wO 10 Z Z Z<|wO 11 Z Z Z<|wO 12 Z Z Z<|wO 13 Z Z Z<|wO 14 Z Z Z<|wO 15 Z Z Z<|wD 16 Z (aP Z Z)<|wD 17 Z (aK Z) ?_;refine wO 18 Z Z Z<|wO 19 Z Z Z<|wO 20 Z Z Z<|wO 21 Z Z Z<|wO 22 Z Z Z<|wO 23 Z Z Z<|wO 24 Z Z Z<|wO 25 Z Z Z<|wO 26 Z Z Z<|wO 27 Z Z Z<|wO 28 Z Z Z<|wO 29 Z Z Z<|wO 30 Z Z Z<|wD 31 Z (aP Z Z)<|wN ?_;exact KP
   refine bA Z (λkt=> ?_) (λkt=> ?_)
   ·refine aJ<|wm Z<|wm Z<|wm Z<|wm Z<|wm Z<|wS Z Z<|wy (aG aa sz3 Z Z (rdr 1 Z))<|wy (aW au Z Z (rdr 1 Z))<|wy (aG aa sz3 Z Z (rdr 0 Z) (by first|omega|(have nd:=fZ (s:=s) (n:=n) (b:=b) (p:=p-1) G G;rw[<-hD] at nd;omega)) (by first|omega|(have nd:=fZ (s:=s) (n:=n) (b:=b) (p:=p-1) G G;rw[<-hD] at nd;omega))) ?_;refine wy (aW au Z Z (rdr 0 Z) (by first|omega|(have nd:=fZ (s:=s) (n:=n) (b:=b) (p:=p-1) G G;rw[<-hD] at nd;omega)) (by first|omega|(have nd:=fZ (s:=s) (n:=n) (b:=b) (p:=p-1) G G;rw[<-hD] at nd;omega))) ?_;refine wy (aG aa sz3 Z Z (rdr 0 Z))<|bY (bG 0 Z sz3 Z Z) ?_;rintro _ _ rfl;refine aA<|aJ<|wA Z Z<|wm Z<|aA ?_;exact⟨p+1,D,upd (upd V (rd D p) p) (rd D p) (rd (upd V (rd D p) p) (rd D (p-1))),⟨G,G,G,(by rw[aT,aT];exact kd),(by subst hD;exact aLh hn hb Px G kd hV (by rw[<-hl,and_assoc];exact kt))⟩,G,KP⟩
   ·refine aH<|aJ<|wA Z Z<|wm Z<|aA ?_;exact⟨p+1,D,upd V (rd D p) p,⟨G,G,G,(by rw[aT];exact kd),(by subst hD;exact aCu hn hb Px G kd hV (by rw[<-hl,and_assoc];exact kt))⟩,G,KP⟩
  ·refine aS<|wq<|wm Z<|wm Z<|wg Z<|wn Z<|aX [0,1] 99 cC Z ?_;refine⟨_,_,Z,Z,?_⟩;have e2:V=rkL s (n+b):=aLi kd (λq h1 h2=>by have:=hV q h1 G;rw[hD] at this;exact this);subst e2;subst hD;rw[Ny,ua];exact⟨_,_,_,_,Z,Z⟩
variable {B gr de Bs:Nat} {w0 w:World} {R:List Row} {dg:AF} {s:AH}
theorem OG:
  CT 315 #[sl dg gr de] B w0 R (λv R'=> ∃g,v= .func (.func 346) #[] #[PG g]/\R'=(rc 52 1 g [sl dg gr de])::R):=by
 refine fn1 Tryz.func315 Z Z Z ?_;refine wq<|wa (dC (sz:=1) Z Z) ?_;rintro _ _⟨g,rfl,rfl⟩;refine wn Z<|wq<|wy (lM Z Z)<|wn Z<|bT ?_;exact⟨_,Z,g,Z,Z⟩
theorem ZZ:
  CT 186 #[sl dg gr de] B w0 R (λv R'=> ∃g,v= .func (.func 241) #[] #[PG g]/\R'=(rc 52 1 g [sl dg gr de])::R):=by
 refine fn1 Tryz.func186 Z Z Z ?_;refine wq<|wa (dC (sz:=1) Z Z) ?_;rintro _ _⟨g,rfl,rfl⟩;refine wn Z<|wq<|wy (lM Z Z)<|wn Z<|bT ?_;exact⟨_,Z,g,Z,Z⟩
theorem aOz {l:AH} {k:Nat} (h:k<l.length):l.take k++[rd l (k:Int)]=l.take (k+1):=by
 rw[qc,av h,rd,bq,af,av h];rfl
theorem UF {Bs:Nat} (ci:Rd w dg gr de 1 (ints .i64 s)) (gv:Rd w (GG Bs) 1 1 1 [sl dg gr de]) (hN:s.length<=1000000):
  CF 361 #[sl none 0 0, .func (.func 346) #[] #[PG Bs]] w (λv R'=> ∃A c,v=sl A (s).length c/\R'=[(ri 3 A ((s).length) c (s))]):=by
 refine fnV Tryz.func361 Z Z ?_;obtain rfl:=ci.lenI;refine dL ?_;refine aJ<|wa (dC (sz:=1) Z Z) ?_;rintro _ _⟨ao,rfl,rfl⟩;refine bR (R1:=[(ri 3 none 0 0 ([])),(rc 52 1 ao [sl none 0 0])]) (Sub.refl _) (λ_ h=>h.nil 3 1)<|wn Z ?_;refine ES ?_;refine dL ?_;refine aJ<|wm Z<|aA ?_;refine rJ ?_;refine zM Z bHh (aAq (A:=dg) (c:=de) (zs:=s)) Z (λ_=>Z) Gd.refl (λ(kr:Nat) (A1:AF) (n1:Nat) (c1:Nat) (acc:AH)=>[(ri 3 A1 n1 c1 acc),(rc 52 1 ao [sl A1 n1 c1])]) (λkr A1 n1 c1 acc=>(n1=acc.length)/\(acc=s.take kr)) ?_ ?_ ?_ ?_
 ·exact⟨none,0,0,[],⟨(Z),(zg.symm)⟩,λ_ h=>h⟩
 ·intro kr A1 n1 c1 acc w ⟨dp,bh⟩ hw;exact⟨(gv.c _) w hw,(ci.c _) w hw⟩
 ·intro lr kr A1 n1 c1 acc Vt Kw ⟨dp,bh⟩ i7;have wb:acc.length<=s.length:=by rw[bh,ax];omega
  refine aJ<|wn Z ?_;intro On tx;refine aI<|aJ<|wy (yL 1 aa Z Z Z)<|wm Z<|wa (bQ .i64 [rd s (kr:Int)] aa zs3 Z Z Z) ?_;rintro _ _⟨ef,rfl,rfl⟩;refine wa (aY 1 Z aa zb3 Z Z Z (rdr 0 Z)) ?_;rintro _ _⟨fz,mj,rfl,rfl⟩;refine bK (v:=sl fz (n1+1) mj) Z<|bY (aZ 2 Z Z Z iL Z Z Z Z (ak Z)) ?_;rintro _ _ rfl;refine aA ?_;exact⟨fz,(n1+1),mj,acc++([rd s (kr:Int)]),⟨(by rw[ai,dp];try rfl),(by rw[bh];exact aOz Kw)⟩,λ_=>λ_ h=>h.sel [1,2] cC Z⟩
 intro Oo Xe A1 n1 c1 acc ⟨dp,bh⟩ Eq tk;refine IV ?_;refine VC ?_;refine v_w ?_;refine wq<|wy (yL 1 aa Z Z Z)<|wn Z<|aX [0] 99 cC Z ?_;refine bGv Z tk ⟨_,Z,?_⟩;rw[qa] at bh;subst dp;subst bh;exact⟨_,_,Z,Z⟩
theorem aDo {Bs:Nat} (ci:Rd w dg gr de 1 (ints .i64 s)) (gv:Rd w (GG Bs) 1 1 1 [sl dg gr de]) (hN:s.length<=1000000):
  CF 344 #[.func (.func 346) #[] #[PG Bs]] w (λv R'=> ∃A c,v=sl A (s).length c/\R'=[(ri 3 A ((s).length) c (s))]):=by
 refine fn1 Tryz.func344 Z Z Z ?_;refine wq<|wn Z<|wq<|wm Z<|wa (aC bHg Z (Ct.fresh (λw hw=>UF ((ci.c _) w hw) ((gv.c _) w hw) G))) ?_;rintro _ _⟨_,rfl,cr,co,rfl,rfl⟩;refine wn Z<|aX [0] 99 cC Z ?_;exact⟨_,Z,_,_,Z,Z⟩
theorem OW {Bs:Nat} (ci:Rd w dg gr de 1 (ints .i64 s)) (gv:Rd w (GG Bs) 1 1 1 [sl dg gr de]) (hN:s.length<=1000000):
  CF 314 #[.func (.func 346) #[] #[PG Bs]] w (λv R'=> ∃A c,v=sl A (kV s).length c/\R'=[(ri 3 A ((kV s).length) c (kV s))]):=by
 refine fn1 Tryz.func314 Z Z Z ?_;refine wq<|wn Z<|wq<|wm Z<|wa (aC bHj Z (Ct.fresh (λw hw=>aDo ((ci.c _) w hw) ((gv.c _) w hw) G))) ?_;rintro _ _⟨_,rfl,cr,co,rfl,rfl⟩;refine wn Z<|wq<|wm Z<|wa (aC bHi Z (aJi Tryz.slices_Sort_int Tryz.slices_Sort_int_none 0 Z G)) ?_;rintro _ _⟨rfl,rfl⟩;refine aA<|wq<|wm Z<|wn Z<|aX [0] 99 cC Z ?_;refine⟨_,Z,?_⟩;have e:s.length=(kV s).length:=(lN s).length_eq.symm;rw[e];exact⟨_,_,Z,Z⟩
variable {s:AH} {w:World} {dg:AF} {gr de:Nat}
theorem bDq {V:AH} {h:Nat} (hl:V.length=s.length) (hV: ∀j:Int,0<=j->j<s.length->rd V j=rkS s h j.toNat):V=rkL s h:=
 bE (hl.trans (AB s h).symm) λj h1 h2=>by rw[qM h1 G];exact hV j h1 G
theorem aKe (ci:Rd w dg gr de 1 (ints .i64 s)) (hN:s.length<=100000):
  CF 297 #[sl dg gr de] w (λv R'=> ∃A c,v=sl A (s.length) c/\R'=[(ri 3 A s.length c (rkL s 1))]):=by
 obtain rfl:=ci.lenI;refine fn1 Tryz.func297 Z Z Z ?_;have d8:=ci.max;refine wq<|wn Z<|wq<|wm Z<|wa (aC bBz Z (OG)) ?_;rintro _ _⟨ao,rfl,rfl⟩;refine wa (aC bCa Z (Ct.fresh (λw hw=>OW ((ci.c _) w hw) ((rdr 0 Z) w hw) G))) ?_;rintro _ _⟨_,rfl,fg,fi,rfl,rfl⟩;refine wn Z<|wq<|wm Z<|wy (aO aa Z)<|wa (dM aa zb3 Z Z) ?_;rintro _ _⟨gh,rfl,rfl⟩;refine bK (v:=sl (GG gh) s.length s.length) Z<|wn Z<|aD<|wq<|wm Z<|wy (aO aa Z)<|wm Z<|aA<|aI ?_;refine dS (λ(i:Int) (V:AH)=>[(3,sl fg ((kV s).length) fi),(4,sl (GG gh) s.length s.length),(13,sl dg s.length de),(14,I (s.length:Int)),(15,I i)]) (λi V=>[(ri 3 (GG gh) s.length s.length V),(ri 3 fg ((kV s).length) fi (kV s)),(rc 52 1 ao [sl dg s.length de])]) (λi V=>(0<=i)/\(i<=s.length)/\(V.length=s.length)/\(∀j:Int,0<=j->j<i->rd V j=rkS s 1 j.toNat)) (λi V=>(s.length-i).toNat) ?_ ?_
 ·exact⟨0,List.replicate s.length (0:Int),⟨G,G,(by rw[cz]),(λj h1 h2=>G)⟩,KP⟩
 intro i V ⟨bb,ij,kd,hV⟩;refine wq<|wL Z Z<|aA<|aD<|bA Z (λbc=> ?_) (λbc=> ?_)
 ·refine aH<|aD<|aI<|wq<|wm Z<|wy (aG aa sz3 Z Z (ci.c _))<|wy (aW au Z Z (ci.c _))<|wg Z<|wn Z<|aJ<|wm Z<|wm Z<|wm Z ?_;refine wm Z<|wa (aC bHl Z (aLv Tryz.slices_BinarySearch_int Tryz.slices_BinarySearch_int_empty 1 Z (by rw[(lN s).length_eq];omega) (zT s))) ?_;rintro _ _⟨rfl,rfl⟩;refine wm Z<|wX Z Z<|wX Z Z<|wy (aG aa sz3 Z Z (rdr 0 Z))<|bY (bG 0 Z sz3 Z Z) ?_;rintro _ _ rfl;refine aA<|aJ<|wA Z Z<|wm Z<|aA ?_;exact⟨i+1,upd V i (((kV s).countP λy=>decide (y<rd s i):Nat):Int),⟨G,G,(by rw[aT];exact kd),(eX (f:=λj=>(rkS s 1 j.toNat:Int)) bb G hV (by rw[bDn G,(lN s).countP_eq];rfl))⟩,G,KP⟩
 ·refine aS<|wq<|wm Z<|wn Z<|aX [0] 99 cC Z ?_;refine⟨_,Z,?_⟩;obtain rfl:V=rkL s 1:=bDq kd (λj h1 h2=>hV j h1 G);exact⟨_,_,Z,Z⟩
theorem aBy {h:Int} (ci:Rd w dg gr de 1 (ints .i64 s)) (h0:0<=h) (hN:s.length<=100000):
  CF 268 #[sl dg gr de,I h] w (λv R'=> ∃A c,v=sl A (s.length) c/\R'=[(ri 3 A s.length c (rkL s h.toNat))]):=by
 obtain rfl:=ci.lenI;refine fn1 Tryz.func268 Z Z Z ?_;have d8:=ci.max;refine wq<|wn Z<|aD<|wq<|wm Z<|wL Z Z<|wm Z<|dD 4 [(0,sl dg s.length de),(1,I h),(14, .bool (decide ((h<0)\/(100000<(s.length:Int)))))] [] ?_ ?_
 ·refine bP 10 Z (λbc=> ?_) (λbc=> ?_)
  ·refine aM Z Z Z Z<|aM Z Z Z Z<|aM Z Z Z Z<|wy (aQ Z Z)<|aA ?_;exact KP
  ·refine aB Z Z<|wm Z<|aB Z Z<|wy (aO aa Z)<|aB Z Z<|wy (dN Z Z)<|wy (aP Z Z)<|aA ?_;exact KP
 refine wZ 14 Z G<|aA<|aN Z<|aH<|wq<|wm Z<|wy (aO aa Z)<|wa (dM aa zb3 Z Z) ?_;rintro _ _⟨db,rfl,rfl⟩;refine bK (v:=sl (GG db) s.length s.length) Z<|wn Z<|aD<|wq<|wm Z<|wy (gT Z Z)<|aA<|bA Z (λda=> ?_) (λda=> ?_)
 ·refine wq<|wm Z<|wn Z<|aX [0] 99 cC Z ?_;refine⟨_,Z,?_⟩;have e:h.toNat=0:=G
  rw[e,aPv];exact⟨_,_,Z,Z⟩
 ·refine aH<|wq<|wm Z<|wa (aC bHu Z (Ct.fresh (λw hw=>aKe ((ci.c _) w hw) cE))) ?_;rintro _ _⟨_,rfl,me,mz,rfl,rfl⟩;refine wn Z<|wq<|wm Z<|wm Z<|wy (aO aa Z)<|wy (uP Z Z)<|wn Z<|aD<|wq<|wn Z ?_;refine aI ?_;refine GM (λ(n:Int) (A1:AF) (c1:Nat) (L:AH)=>[(1,I (min h (s.length:Int))),(5,sl A1 s.length c1),(6,I n)]) (λn A1 c1 L=>[(ri 3 A1 s.length c1 L),(ri 3 (GG db) s.length s.length (List.replicate s.length (0:Int)))]) (λn A1 c1 L=>(1<=n)/\(n=1\/n<=min h (s.length:Int))/\(L=rkL s n.toNat)) (λn A1 c1 L=>(min h (s.length:Int)-n).toNat) ?_ ?_
  ·exact⟨1,me,mz,rkL s 1,⟨G,G,(Z)⟩,KP⟩
  intro n A1 c1 L ⟨dp,nw,hL⟩;refine aD<|wq<|wm Z<|wm Z<|wL Z Z<|aA<|bA Z (λfk=> ?_) (λfk=> ?_)
  ·refine aH<|aI<|wq<|wm Z<|wm Z<|wm Z<|wS Z Z<|wy (uP Z Z)<|wn Z<|wq<|wm Z<|wm Z ?_;refine wa (aC bHt Z (Ct.fresh (λw hw=>aLg (s:=s) (n:=n.toNat) (b:=(min n (min h (s.length:Int)-n)).toNat) ((rdr 0 Z) w hw) hL G G G ⟨hN,G⟩))) ?_;rintro _ _⟨_,rfl,jj,na,br,bw,rfl,rfl⟩;refine wm Z<|wX Z Z<|wX Z Z<|wn Z<|aJ<|wm Z<|wm Z<|wA Z Z<|wn Z ?_;exact⟨n+(min n ((min h (s.length:Int))-n)),jj,na,rkL s (n.toNat+(min n (min h (s.length:Int)-n)).toNat),⟨G,G,(by congr 1;omega)⟩,G,SA,λ_ h=>h.sel [0,3] cC Z⟩
  ·refine aS<|wq<|wm Z<|wn Z<|aX [0] 99 cC Z ?_;refine⟨_,Z,?_⟩
   have e:rkL s n.toNat=rkL s h.toNat:=by
    rcases fe s.length with z|z
    ·exact aPw z _ _
    ·rcases bu h s.length with a|a
     ·rw[show n.toNat=h.toNat by omega]
     ·rw[bDp (h:=h.toNat) G,show n.toNat=s.length by omega]
   rw[hL,e];exact⟨_,_,Z,Z⟩
theorem aLl {s:AH} {k:Int} (ci:Rd w dg gr de 1 (ints .i64 s)) (dr:(0<=k/\k<=1048576)/\ ∀x∈s,0<=x/\x<k) (hN:s.length<=100000):
  CF 221 #[sl dg gr de,I k] w (λv R'=> ∃(out:AH) (A:AF) (c:Nat),v= .tuple #[sl A s.length c,I 0]/\out.length=s.length/\(∀q:Nat,q<s.length->rd out (rkS s s.length q)=q)/\R'=[(ri 3 A s.length c out)]):=by
 obtain rfl:=ci.lenI;refine fn2 Tryz.func221 Z Z Z ?_;have d8:=ci.max;refine wq<|wg Z<|wn Z<|aD<|wq<|wm Z<|wy (aO aa Z)<|wy (Yl.f (dN Z Z))<|aA<|aN Z<|aH<|aD ?_;refine wq<|wm Z<|wm Z<|wa (aC YQ Z (Ct.fresh (λw hw=>oU ((ci.c _) w hw) cE))) ?_;rintro _ _⟨_,rfl,cr,co,rfl,rfl⟩;refine wm Z<|wX Z Z<|wX Z Z<|wg Z<|wn Z<|wq<|wm Z<|wy (dH Z)<|aA<|aN Z<|aH<|wq ?_;refine wm Z<|wy (aO aa Z)<|wa (dM aa zb3 Z Z) ?_;rintro _ _⟨ef,rfl,rfl⟩;refine bK (v:=sl (GG ef) s.length s.length) Z<|wn Z<|aD<|wq<|wm Z<|wm Z<|wy (aO aa Z)<|wa (aC bIg Z (Ct.fresh (λw hw=>aBy ((ci.c _) w hw) G cE))) ?_;rintro _ _⟨_,rfl,fz,mj,rfl,rfl⟩;refine wy (aO aa Z)<|wm Z<|aA<|aI ?_;refine dS (λ(i:Int) (V:AH)=>[(8,sl (GG ef) s.length s.length),(28,sl fz ((s).length) mj),(29,I (((s).length:Nat):Int)),(30,I i)]) (λi V=>[(ri 3 fz ((s).length) mj (rkL s ((s.length:Int)).toNat)),(ri 3 (GG ef) s.length s.length V),(ri 3 cr ((k).toNat) co (dY s k))]) (λi V=>(0<=i)/\(i<=s.length)/\(V.length=s.length)/\(∀q:Nat,(q:Int)<i->rd V (rkS s s.length q)=q)) (λi V=>(s.length-i).toNat) ?_ ?_
 ·exact⟨0,List.replicate s.length (0:Int),⟨G,G,(by rw[cz]),(λq h=>G)⟩,KP⟩
 intro i V ⟨bb,ij,kd,hV⟩;refine wq<|wL Z Z<|aA<|aD<|bA Z (λbc=> ?_) (λbc=> ?_)
 ·have hr:rd (rkL s (s.length:Int).toNat) i=(rkS s s.length i.toNat:Int):=by rw[bq];exact qM bb G
  have ht:=zZ (s:=s) (h:=s.length) (i:=i.toNat) G;refine aH<|aD<|aI<|wq<|wm Z<|wy (aG aa sz3 Z Z (rdr 0 Z))<|wy (aW au Z Z (rdr 0 Z))<|wg Z<|wn Z<|aJ<|wm Z<|wm Z<|wm Z ?_;refine wy (aG aa sz3 Z Z (rdr 1 Z) (by rw[hr];omega) (by rw[hr];omega)) ?_;refine bY (bG 1 Z sz3 Z Z (by rw[hr];omega) (by rw[hr];omega)) ?_;rintro _ _ rfl;refine aA<|aJ<|wA Z Z<|wm Z<|aA ?_
  exact⟨i+1,upd V (rd (rkL s ((s.length:Int)).toNat) i) i,⟨G,G,(by rw[aT];exact kd),(λq h=>by
    rw[hr];have:=WT (m:=i.toNat) G kd (λq h=>hV q G) q G
    rwa[show(i.toNat:Int)=i by omega] at this)⟩,G,KP⟩
 ·refine aS<|wq<|wm Z<|wg Z<|wn Z<|aX [1] 99 cC Z ?_;refine⟨_,_,Z,Z,?_⟩;exact⟨V,_,_,Z,kd,λq h=>hV q G,Z⟩
theorem aEb {an:AF} {ar am:Nat} {u:AH} (al:Rd w an ar am 1 (ints .u8 u)) (ac:aL u) (hN:u.length<=100000):
  CF 148 #[sl an ar am] w (λv R'=> ∃(out:AH) (A:AF) (c:Nat),v= .tuple #[sl A u.length c,I 0]/\out.length=u.length/\(∀q:Nat,q<u.length->rd out (rkS u u.length q)=q)/\R'=[(ri 3 A u.length c out)]):=by
 obtain rfl:=al.lenI;refine fn2 Tryz.func148 Z Z Z ?_;have mv:=al.max;refine wq<|wg Z<|wn Z<|aD<|wq<|wm Z<|wy (aO ah Z)<|wy (Yl.f (dN Z Z))<|aA<|aN Z<|aH<|aD ?_;refine aJ<|wm Z<|wy (aO ah Z)<|wa (dM aa zb3 Z Z) ?_;rintro _ _⟨ao,rfl,rfl⟩;refine bK (v:=sl (GG ao) u.length u.length) Z<|wn Z<|aD<|wq<|wm Z<|wy (aO ah Z)<|wm Z<|aA<|aI ?_;refine dS (λ(i:Int) (V:AH)=>[(4,sl (GG ao) u.length u.length),(13,sl an u.length am),(14,I (u.length:Int)),(15,I i)]) (λi V=>[(ri 3 (GG ao) u.length u.length V)]) (λi V=>(0<=i)/\(i<=u.length)/\(V.length=u.length)/\(∀j:Int,0<=j->j<i->rd V j=rd u j)) (λi V=>(u.length-i).toNat) ?_ ?_
 ·exact⟨0,List.replicate u.length (0:Int),⟨G,G,(by rw[cz]),(λj h1 h2=>G)⟩,KP⟩
 intro i V ⟨bb,ij,kd,hV⟩;refine wq<|wL Z Z<|aA<|aD<|bA Z (λbc=> ?_) (λbc=> ?_)
 ·have un:=ac.rd i;refine aH<|aD<|aI<|wq<|wm Z<|wy (aG ah sz5 Z Z (al.c _))<|wy (aW dh Z Z (al.c _))<|wg Z<|wn Z<|aJ<|wm Z<|wm Z<|wm Z ?_;refine wy (jJ dh au Z)<|wy (aG aa sz3 Z Z (rdr 0 Z))<|bY (bG 0 Z sz3 Z Z) ?_;rintro _ _ rfl;refine aA<|aJ<|wA Z Z<|wm Z<|aA ?_;exact⟨i+1,upd V i (rd u i),⟨G,G,(by rw[aT];exact kd),(eX (f:=λj=>rd u j) bb G hV Z)⟩,G,KP⟩
 ·have Sz:V=u:=bE kd (λj h1 h2=>hV j h1 G);refine aS<|wq<|wm Z<|wa (aC bIq Z (Ct.fresh (λw hw=>aLl ((rdr 0 Z) w hw) ⟨G,λx hx=>by rw[Sz] at hx;have:=ac x hx;omega⟩ G))) ?_;rintro _ _⟨_,rfl,o1,kj,kl,rfl,Ge,Hj,rfl⟩;refine wX Z Z<|wX Z Z<|wg Z<|wn Z<|aX [0] 99 cC Z ?_;refine⟨_,_,Z,Z,?_⟩;subst Sz;exact⟨o1,_,_,Z,Ge,Hj,Z⟩
end Go.Proofs.YtdbebmmhdefgdaaGreat
namespace Go.Proofs
open Go.Shelf
def Tryz.lays212_ren:Go.Shelf.Ren:=⟨λ|212=>122|263=>195|264=>196|n=>n,λ|46=>167|51=>123|146=>243|53=>112|148=>245|n=>n,λ|n=>n⟩
theorem Tryz.lays212:Go.Proofs.Lays.n212 Tryz.prog Tryz.lays212_ren:= {
 mixed:=cA
 f212:=Tryz.func122.trans (bg some cA)
 f263:=Tryz.func195.trans (bg some cA)
 f264:=Tryz.func196.trans (bg some cA)
 t46:=zh
 a46:=Ch
 z46:=Bl
 v46:=zu
 t51:=Ao
 a51:=Fa
 z51:=Eb
 v51:=Bh
 t53:=Am
 a53:=Ez
 z53:=Ea
 v53:=Bg
 t146:=Tryz.underlying243
 a146:=Tryz.isAgg243
 z146:=Tryz.sizeOf243
 v146:=Tryz.zeroValue243
 t148:=Tryz.underlying245
 a148:=Tryz.isAgg245
 z148:=Tryz.sizeOf245
 v148:=Tryz.zeroValue245}
open Go.RowKit Go.Lib in
theorem Tryz.bits_Mul (x y:Nat) (hx:x<18446744073709551616) (hy:y<18446744073709551616) (w:World):
  Calls Tryz.prog 122 #[.int .u64 x, .int .u64 y] w λe w'=>e= .returned (.tuple #[.int .u64 ((x*y/18446744073709551616:Nat):Int), .int .u64 ((x*y%18446744073709551616:Nat):Int)])/\w'=w:=Any.bits_Mul Tryz.lays212 x y hx hy w
end Go.Proofs
namespace Go.Proofs.YtdbebmmhdefgdaaGreat
open Go Go.Eng Go.Pure
open Tryz
set_option maxRecDepth 100000
variable {w:World} {p val i:Int} {N gr de:Nat} {dg:AF} {s:AH}
theorem QK {ln:AF} {py ml:Nat} {l:AH} {vb:AF} {n_m vl:Nat} {m:AH} (lj:Rd w ln py ml 1 (ints .i64 l)) (yq:Rd w vb n_m vl 1 (ints .i64 m)) (hN:l.length<=1000000):
  CF 87 #[sl ln py ml,sl vb n_m vl] w (λv R'=>v= .bool (decide (l=m))):=by
 obtain rfl:=lj.lenI;obtain rfl:=yq.lenI;refine fn1 Tryz.func87 Z Z Z ?_;have Vh:=lj.max;have m_m:=yq.max;refine wq<|wn Z<|aD<|wq<|wm Z<|wy (aO aa Z)<|wm Z<|wy (aO aa Z)<|wy (iI Z Z)<|aA<|bA Z (λbc=> ?_) (λbc=> ?_)
 ·refine wq<|wn Z<|bT ?_;refine⟨_,Z,?_⟩;exact bg Value.bool (ol (λe=>by rw[e] at bc;exact bc rfl)).symm
 ·refine aH<|aD<|wq<|wm Z<|wy (aO aa Z)<|wm Z<|aA<|aI ?_;refine lF (λ(k:Int)=>[(0,sl ln l.length ml),(1,sl vb m.length vl),(12,I (l.length:Int)),(13,I k)]) (λk=>[]) (λk=>(0<=k)/\(k<=l.length)/\(l.take k.toNat=m.take k.toNat)) (λk=>(l.length-k).toNat) ?_ ?_
  ·exact⟨0,⟨G,G,(Z)⟩,KP⟩
  intro k ⟨ld,yr,hq⟩;refine wq<|wL Z Z<|aA<|aD<|bA Z (λda=> ?_) (λda=> ?_)
  ·refine aH<|aD<|aI<|wq<|wm Z<|wn Z<|aD<|bL mixed<|wD 0 Z (aK Z)<|wD 1 Z (aK Z)<|wD 2 Z (aG aa sz3 Z Z (lj.c _))<|wD 3 Z (aW au Z Z (lj.c _))<|wD 4 Z (aK Z) ?_;refine wD 5 Z (aK Z)<|wD 6 Z (aG aa sz3 Z Z (yq.c _))<|wD 7 Z (aW au Z Z (yq.c _))<|wD 8 Z (iI Z Z)<|wN<|bA Z (λfk=> ?_) (λfk=> ?_)
   ·refine wq<|wn Z<|bT ?_;refine⟨_,Z,?_⟩;exact bg Value.bool (ol (λe=>by subst e;exact fk rfl)).symm
   ·refine aH<|aJ<|wA Z Z<|wm Z<|aA ?_;exact⟨k+1,⟨G,G,(by rw[dF ld G,dF ld G,hq];exact bg (λz=>List.take k.toNat m++[z]) (yh.1 cF))⟩,G,KP⟩
  ·refine aS<|wq<|wn Z<|bT ?_;refine⟨_,Z,?_⟩;exact bg Value.bool (ko (by rw[bi G,bi G] at hq;exact hq)).symm
theorem bEj {B:Nat} {w0:World} {R:List Row} (N:Nat) (h:N<=1000000):CT 122 #[.int .u64 1, .int .u64 (N:Int)] B w0 R (λv R'=>v= .tuple #[.int .u64 0, .int .u64 (N:Int)]/\R'=R):=by
 intro w hw;have hc:=Tryz.bits_Mul 1 N G G w;rw[Di,Ev G,mf G] at hc;refine hc.mono ?_;rintro e w' ⟨rfl,rfl⟩;exact⟨_,R,Z,hw,Z,Z⟩
theorem aIr (h:0<=p/\p<=18446744073709551615):IntKind.u64.wrap p=p:=by rw[Jd];omega
theorem aQe {D:AH} (p1:1<=p) (hp:p<=N) (hD:D=AJ val p.toNat N):
  List.take p.toNat D++List.take (min p.toNat (N-p.toNat)) (List.take p.toNat D)++List.drop (p.toNat+min p.toNat (N-p.toNat)) D=AJ val (p+((min p.toNat (N-p.toNat):Nat):Int)).toNat N:=by
 subst hD;rw[show(p+((min p.toNat (N-p.toNat):Nat):Int)).toNat=p.toNat+min p.toNat (N-p.toNat) by omega];refine PO G ?_;rw[PN,List.take_replicate];congr 1;omega
theorem aQg (h:1<=N):List.take 0 (List.replicate N (0:Int))++List.take (min ([val].length) (N-0)) [val]++List.drop (0+min ([val].length) (N-0)) (List.replicate N (0:Int))=AJ val (((min ([val].length) (N-0):Nat):Int)).toNat N:=by
 have e:min ([val].length) (N-0)=1:=cG
 rw[e,<-aKb val N];exact PO (p:=0) (q:=1) G Z
theorem aBv {m5:AF} {La m9:Nat} {x:AH} {cn:Int} (kp:Rd w m5 La m9 1 (ints .i64 x)) (hx:x=[val]) (Qq:cn=(N:Int)) (hN:1<=N/\N<=1000000):
  CF 316 #[sl m5 La m9,I cn] w (λv R'=> ∃A c,v=sl A N c/\R'=[(ri 3 A N c (List.replicate N val))]):=by
 obtain rfl:=kp.lenI;refine fn1 Tryz.func316 Z Z Z ?_;have m_x:=kp.max;refine wq<|wn Z<|aD<|wq<|wm Z<|wy (Yl.f (fO Z Z))<|aA<|aN Z<|aH<|wq<|wm Z ?_;refine wy (aO aa Z)<|wy (Yl.is (qF au Ck Z) (by rw[hx])) ?_;refine wm Z<|wy (Yl.is (qF au Ck Z) (by rw[aIr G,Qq])) ?_;refine wa (aC bCr Z (bEj N hN.2)) ?_;rintro _ _⟨rfl,rfl⟩;refine wm Z<|wX Z Z<|wX Z Z<|wg Z<|wn Z<|aD<|wq<|wm Z<|wy (Yl.f (dN Z Z))<|wm Z<|aB Z Z<|wm Z<|aB Z Z ?_;refine wy (Yl.f (dN Z Z))<|wy (aP Z Z)<|aA<|aN Z<|aH<|wq<|wm Z<|wy (jJ Ck au Z)<|wa (dM aa zb3 Z Z) ?_;rintro _ _⟨ao,rfl,rfl⟩;refine bK (v:=sl (GG ao) N N) Z<|wn Z<|wq<|wm Z<|wm Z<|wa (UM (lo:=0) 0 Z aa sz3 Z Z aUp Z G (kp.c _)) ?_;rintro _ _⟨rfl,rfl⟩;refine wn Z<|aD<|aI ?_;refine dS (λ(p:Int) (D:AH)=>[(7,sl (GG ao) N N),(8,I p)]) (λp D=>[(ri 3 (GG ao) N N D)]) (λp D=>(1<=p)/\(p<=N)/\(D=AJ val p.toNat N)) (λp D=>(N-p).toNat) ?_ ?_
 ·exact⟨((min x.length (N-0):Nat):Int),List.take 0 (List.replicate N (0:Int))++List.take (min x.length (N-0)) x++List.drop (0+min x.length (N-0)) (List.replicate N (0:Int)),⟨(by subst hx;simp;omega),G,(by subst hx;exact aQg hN.1)⟩,KP⟩
 intro p D ⟨Px,qn,hD⟩;refine aD<|wq<|wm Z<|wm Z<|wy (aO aa Z)<|wL Z Z<|aA<|bA Z (λbc=> ?_) (λbc=> ?_)
 ·refine aH<|aI<|bL mixed<|wD 0 Z (aK Z)<|wD 1 Z (aK Z)<|wD 2 Z (aK Z)<|wD 3 Z (fJ aa sz3 Z Z)<|wD 4 Z (aK Z)<|wD 5 Z (aK Z)<|wD 6 Z (gK aa sz3 Z Z (rdr 0 Z))<|wC 7 Z (UM (lo:=p.toNat) 0 Z aa sz3 Z Z Z Z G (RdC.toI (h:=(p).toNat) (rdr 0 Z) cH)) ?_;rintro _ _⟨rfl,rfl⟩;refine⟨.inl cA,?_⟩;refine wD 8 Z (dK Z Z)<|wD 9 Z (bB Z)<|wN ?_;exact⟨p+((min ((p).toNat) (N-p.toNat):Nat):Int),List.take p.toNat D++List.take (min ((p).toNat) (N-p.toNat)) ((D).take (p).toNat)++List.drop (p.toNat+min ((p).toNat) (N-p.toNat)) D,⟨G,G,(aQe Px qn hD)⟩,G,KP⟩
 ·refine aS<|wq<|wm Z<|wn Z<|aX [0] 99 cC Z ?_;refine⟨_,Z,?_⟩;obtain rfl:D=List.replicate N val:=by rw[hD,show p.toNat=N by omega];exact aQd _ _
  exact⟨_,_,Z,Z⟩
theorem WC (ci:Rd w dg gr de 1 (ints .i64 s)) (hN:s.length<=1000000):
  CF 313 #[sl dg gr de] w (λv R'=> ∃A c,v=sl A s.length c/\R'=[⟨4,1,A,s.length,c,bools (smL s),false⟩]):=by
 obtain rfl:=ci.lenI;refine fn1 Tryz.func313 Z Z Z ?_;have d8:=ci.max;refine wq<|wn Z<|wq<|wm Z<|wy (aO aa Z)<|wa (UK oz zb4 Z Z G G G) ?_;rintro _ _⟨ao,rfl,rfl⟩;refine bK (v:=sl (GG ao) s.length s.length) Z<|wn Z<|aD<|wq<|wm Z<|wy (aO aa Z)<|wS Z Z<|wn Z<|aI ?_;refine dS (λ(i:Int) (m:List Bool)=>[(0,sl dg s.length de),(3,sl (GG ao) s.length s.length),(4,I i)]) (λi m=>[⟨4,1,(GG ao),s.length,s.length,bools m,false⟩]) (λi m=>(-2<=i)/\(i+2<=s.length)/\(m.length=s.length)/\(∀j:Int,0<=j->i<j->j<s.length->rdb m j=smB s j)) (λi m=>(i+1).toNat) ?_ ?_
 ·exact⟨(s.length:Int)-2,List.replicate s.length false,⟨G,G,(by rw[cz]),(λj h0 h1 h2=>by rw[GY,qK h0 G])⟩,KP⟩
 intro i m ⟨bb,ij,hl,hM⟩;refine aD<|wq<|wm Z<|wy (jN Z Z)<|aA<|bA Z (λbc=> ?_) (λbc=> ?_)
 ·refine aH<|aD<|aI<|bL mixed<|wD 0 Z (aK Z)<|wD 1 Z (aK Z)<|wD 2 Z (aK Z)<|wD 3 Z (aK Z)<|wD 4 Z (aG aa sz3 Z Z (ci.c _))<|wD 5 Z (aW au Z Z (ci.c _))<|wD 6 Z (aK Z)<|wD 7 Z (aK Z)<|wD 8 Z (dK Z Z)<|wD 9 Z (aG aa sz3 Z Z (ci.c _))<|wD 10 Z (aW au Z Z (ci.c _)) ?_;refine wD 11 Z (fO Z Z)<|wD 12 Z (aK Z)<|rG 27 Z (λda=> ?_) (λda=> ?_)
  ·refine wO 13 Z Z Z<|wO 14 Z Z Z<|wO 15 Z Z Z<|wO 16 Z Z Z<|wO 17 Z Z Z<|wO 18 Z Z Z<|wO 19 Z Z Z<|wO 20 Z Z Z<|wO 21 Z Z Z<|wO 22 Z Z Z<|wO 23 Z Z Z<|IM 24 Z cA Z Z Z<|IM 25 Z cA Z Z Z<|IM 26 Z cA Z Z Z<|IM 27 Z cA Z Z Z ?_;refine IM 28 Z cA Z Z Z<|wO 29 Z Z Z<|wD 30 Z (aQ Z Z)<|wD 31 Z (aG oz sz4 Z Z (rdr 0 Z))<|qG 32 Z cA (wM 0 Z sz4 Z Z) ?_;rintro _ _ rfl;refine⟨.inl cA,?_⟩;refine wN<|aJ<|wm Z<|wS Z Z<|wn Z ?_;exact⟨i-1,qH m i true,⟨G,G,(by rw[kZ];exact hl),(λj h0 h1 h2=>SH G G hl (λj a b=>hM j G a b) (⟨λ_=> .inl G,λ_=>Z⟩) j G h2)⟩,G,KP⟩
  ·refine wG 13 Z Z Z (aK Z)<|wG 14 Z Z Z (aK Z)<|wG 15 Z Z Z (aG aa sz3 Z Z (ci.c _))<|wG 16 Z Z Z (aW au Z Z (ci.c _))<|wG 17 Z Z Z (aK Z)<|wG 18 Z Z Z (aK Z)<|wG 19 Z Z Z (dK Z Z)<|wG 20 Z Z Z (aG aa sz3 Z Z (ci.c _))<|wG 21 Z Z Z (aW au Z Z (ci.c _))<|wG 22 Z Z Z (gT Z Z)<|wG 23 Z Z Z (aK Z)<|rG 38 Z (λfk=> ?_) (λfk=> ?_)
   ·refine wG 24 Z Z Z (aK Z)<|wG 25 Z Z Z (aK Z)<|wG 26 Z Z Z (dK Z Z)<|wG 27 Z Z Z (aG oz sz4 Z Z (rdr 0 Z))<|wG 28 Z Z Z (EO Bn Z Z (rdr 0 Z))<|wG 29 Z Z Z (aQ Z Z)<|wD 30 Z (aP Z Z)<|wD 31 Z (aG oz sz4 Z Z (rdr 0 Z))<|qG 32 Z cA (wM 0 Z sz4 Z Z) ?_;rintro _ _ rfl;refine⟨.inl cA,?_⟩;refine wN<|aJ<|wm Z<|wS Z Z<|wn Z ?_;exact⟨i-1,qH m i (decide (rdb m (i+1)=true)),⟨G,G,(by rw[kZ];exact hl),(λj h0 h1 h2=>SH G G hl (λj a b=>hM j G a b) (by rw[iv];exact⟨λh=> .inr ⟨G,h⟩,λh=>(h.resolve_left G).2⟩) j G h2)⟩,G,KP⟩
   ·refine wO 24 Z Z Z<|wO 25 Z Z Z<|wO 26 Z Z Z<|wO 27 Z Z Z<|wO 28 Z Z Z<|wG 29 Z Z Z (aP Z Z)<|wD 30 Z (aP Z Z)<|wD 31 Z (aG oz sz4 Z Z (rdr 0 Z))<|qG 32 Z cA (wM 0 Z sz4 Z Z) ?_;rintro _ _ rfl;refine⟨.inl cA,?_⟩;refine wN<|aJ<|wm Z<|wS Z Z<|wn Z ?_;exact⟨i-1,qH m i false,⟨G,G,(by rw[kZ];exact hl),(λj h0 h1 h2=>SH G G hl (λj a b=>hM j G a b) (⟨λh=>(by cases h),λh=>absurd h G⟩) j G h2)⟩,G,KP⟩
 ·refine aS<|wq<|wm Z<|wn Z<|aX [0] 99 cC Z ?_;refine⟨_,Z,?_⟩;obtain rfl:m=smL s:=bDk hl λj h0 h1=>hM j h0 G h1;exact⟨_,_,Z,Z⟩
theorem aZk (h0:0<=i) (hi:i<s.length) (h1:0<i) (h2:rdb (smL s) i=true) (h3: ¬rdb (smL s) (i-1)=true):gB s i=true:=by
 rw[mO h0 hi] at h2;rw[mO G G] at h3;exact mV.2 ⟨h1,h2,by simpa using h3⟩
theorem bEr (h0:0<=i) (hi:i<s.length) (h: ¬(0<i/\rdb (smL s) i=true/\ ¬rdb (smL s) (i-1)=true)): ¬gB s i=true:=λe=>by
 obtain⟨h1,h2,h3⟩:=mV.1 e;exact h ⟨h1,by rw[mO h0 hi];exact h2,by rw[mO G G,h3];simp⟩
theorem aTc (s:AH):LQ s 1=[]:=by
 show LQ s (0+1)=[];rw[EA G,df (λh=>by have:=(mV.1 h).1;omega)];rfl
theorem aTd (h:i=s.length\/i=1/\s.length=0):LQ s i=bJ s:=by
 rcases h with rfl|⟨rfl,h⟩
 ·exact LP
 ·rw[aTc,<-LP,h];rfl
theorem XY (ci:Rd w dg gr de 1 (ints .i64 s)) (hN:s.length<=1000000):
  CF 290 #[sl dg gr de] w (λv R'=> ∃A c,v=sl A (bJ s).length c/\R'=[(ri 3 A ((bJ s).length) c (bJ s))]):=by
 obtain rfl:=ci.lenI;refine fn1 Tryz.func290 Z Z Z ?_;have d8:=ci.max;refine wq<|wn Z<|wq<|bR (R1:=[(ri 3 none 0 0 ([]))]) (Sub.refl _) (λ_ h=>h.nil 3 1)<|wn Z<|wq<|wm Z<|wa (aC bCb Z (Ct.fresh (λw hw=>WC ((ci.c _) w hw) cE))) ?_;rintro _ _⟨_,rfl,cr,co,rfl,rfl⟩;refine wn Z<|aD<|wq<|wm Z<|wy (aO aa Z)<|wm Z<|aA<|aI ?_;refine jK (λ(A1:AF) (n1:Nat) (c1:Nat) (acc:AH) (i:Int)=>[(3,sl A1 n1 c1),(4,sl cr s.length co),(9,I (s.length:Int)),(10,I i)]) (λA1 n1 c1 acc i=>[⟨4,1,cr,s.length,co,bools (smL s),false⟩,(ri 3 A1 n1 c1 acc)]) (λA1 n1 c1 acc i=>(n1=acc.length)/\(0<=i)/\(i<=s.length)/\(acc=LQ s i)) (λA1 n1 c1 acc i=>(s.length-i).toNat) ?_ ?_
 ·exact⟨none,0,0,[],0,⟨(Z),G,G,(Z)⟩,KP⟩
 intro A1 n1 c1 acc i ⟨dp,bb,ij,bh⟩;refine wq<|wL Z Z<|aA<|aD<|bA Z (λbc=> ?_) (λbc=> ?_)
 ·refine aH<|aD<|aI<|wq<|wm Z<|wn Z<|wq<|wm Z<|wy (dN Z Z)<|wm Z<|dD 5 [(3,sl A1 n1 c1),(4,sl cr s.length co),(5,I i),(9,I (s.length:Int)),(10,I i),(20, .bool (decide ((0<i)/\(rdb (smL s) i=true))))] [⟨4,1,cr,s.length,co,bools (smL s),false⟩,(ri 3 A1 n1 c1 acc)] ?_ ?_
  ·refine bP 15 Z (λda=> ?_) (λda=> ?_)
   ·refine aB Z Z<|wm Z<|aB Z Z<|wm Z<|aB Z Z<|wy (aG oz sz4 Z Z (rdr 0 Z))<|aB Z Z<|wy (EO Bn Z Z (rdr 0 Z))<|wy (aQ Z Z)<|aA ?_;exact KP
   ·refine aM Z Z Z Z<|aM Z Z Z Z<|aM Z Z Z Z<|aM Z Z Z Z<|wy (aP Z Z)<|aA ?_;exact KP
  refine wm Z<|dD 7 [(3,sl A1 n1 c1),(4,sl cr s.length co),(5,I i),(9,I (s.length:Int)),(10,I i),(28, .bool (decide (((0<i)/\(rdb (smL s) i=true))/\(¬(rdb (smL s) (i-1)=true)))))] [⟨4,1,cr,s.length,co,bools (smL s),false⟩,(ri 3 A1 n1 c1 acc)] ?_ ?_
  ·refine bP 21 Z (λfk=> ?_) (λfk=> ?_)
   ·refine aB Z Z<|wm Z<|aB Z Z<|wm Z<|aB Z Z<|wS Z Z<|aB Z Z<|wy (aG oz sz4 Z Z (rdr 0 Z))<|aB Z Z<|wy (EO Bn Z Z (rdr 0 Z))<|aB Z Z<|wy (uU Z)<|wy (aQ Z Z)<|aA ?_;exact KP
   ·refine aM Z Z Z Z<|aM Z Z Z Z<|aM Z Z Z Z<|aM Z Z Z Z<|aM Z Z Z Z<|aM Z Z Z Z<|wy (aP Z Z)<|aA ?_;exact KP
  refine aA<|bA Z (λiu=> ?_) (λiu=> ?_)
  ·refine aJ<|wm Z<|wm Z<|wa (bQ .i64 [i] aa zs3 Z Z Z) ?_;rintro _ _⟨im,rfl,rfl⟩;refine wa (aY 2 Z aa zb3 Z Z Z (rdr 0 Z) (by have:=bg List.length bh;have:=XV (s:=s) i;omega)) ?_;rintro _ _⟨fh,kh,rfl,rfl⟩;refine bK (v:=sl fh (n1+1) kh) Z<|wn Z<|aJ<|wA Z Z<|wm Z<|aA ?_;exact⟨fh,n1+1,kh,acc++([i]),i+1,⟨(by rw[ai,dp];try rfl),G,G,(by rw[EA G,di (aZk G G iu.1.1 iu.1.2 iu.2),bh])⟩,G,SA,λ_ h=>h.sel [1,2] cC Z⟩
  ·refine aH<|aJ<|wA Z Z<|wm Z<|aA ?_;exact⟨A1,n1,c1,acc,i+1,⟨(dp),G,G,(by rw[EA G,df (bEr G G (λh=>iu ⟨⟨h.1,h.2.1⟩,h.2.2⟩)),ji,bh])⟩,G,KP⟩
 ·refine aS<|wq<|wm Z<|wn Z<|aX [1] 99 cC Z ?_;refine⟨_,Z,?_⟩;rw[aTd G] at bh;subst bh;obtain rfl:=dp;exact⟨_,_,Z,Z⟩
end Go.Proofs.YtdbebmmhdefgdaaGreat
