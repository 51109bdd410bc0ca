/- Own work. -/
import Derived.Laws.CopyRow
import Derived.Laws.IdiomCopy
import Derived.Lib.BitFns
import Derived.Shelf.Small.Bits
import Derived.Test.YtdbebmmhdefgdaaGreatProg
import Derived.RangeFuncRecord
import Derived.RangeFuncSeq
import Derived.RangeFuncCalls
import Derived.RangeFuncKeeps
import Derived.RangeFuncBox
import Derived.RangeFuncNested
import Derived.Shelf.SlSortCmp.Kit1
import Derived.Shelf.Abstract
import Derived.WalkKit
import Derived.OwnWalkIn
import Derived.TacticsInMore
import Derived.LoopNIn
import Derived.LoopIn
import Derived.Ground.NamesProg
import Derived.Ground.Names2Prog
import Derived.Shelf.Sort.Plain
import Derived.Shelf.Slices.SearchI
import Derived.Shelf.Slices.In.SortNone
import Derived.Shelf.Slices.Empties
import Derived.Lib.SlKeysI
import Derived.Shelf.Bits.Mul64
import Derived.Test.YtdbebmmhdefgdaaGreatM2
set_option linter.unusedVariables false
set_option linter.unusedSimpArgs false
namespace Go.Eng
open Go Go.RowKit
section
variable {P:Program} {n:Nd} {B:Nat} {w0:World} {L:Env} {R:List Row} {ty:TypeId}
theorem WC {g lo c:Nat} (h:lo<c):iY (some ⟨g,0,none⟩) lo c 1=some ⟨g,lo,none⟩:=by
 unfold iY;rw[bu G,qy,jr];unfold Addr.add;split<;>simp_all
theorem QT {x y:Operand} {t t2 e:TypeId} {p:Option Addr} {lo dl dc m c m2 c2:Nat} {A A2:Option Addr} {k:IntKind} {l src:List Int} (i:Nat) (hi:R[i]? =some ⟨e,1,A,m,c,ints k l,false⟩) (ht:P.underlying t=some (.slice e)) (ee:(P.info? e).map (·.size)=some 1)
  (hx:ev L x=some (.slice p dl dc)) (hy:ev L y=some (.slice A2 m2 c2)) (hp:p=iY A lo c 1) (Xa:dl=m-lo) (f8:lo<m) (ie:RdC B w0 R A2 m2 c2 1 (ints k src)):
  Ac P n B w0 (.call {callee:= .builtin .copy,args:= #[x,y],argTypes:= #[t,t2]}) ty L R (λv R'=>v= .int .i64 ((min m2 (m-lo):Nat):Int)/\R'=R.set i ⟨e,1,A,m,c,ints k (l.take lo++src.take (min m2 (m-lo))++l.drop (lo+min m2 (m-lo))),false⟩):=by
 intro a w o K Q ho xo hs hw hk;have du:=Row.lies_w (hw.own _ (ek hi)) rfl;have wj:=ie w hw;have Mr:m2=src.length:=wj.lenI;have hl:m=l.length:=by have:=du.1;rw[bV] at this;simp only at this;omega
 rcases du.2 with⟨_,hn⟩|⟨g,cap,cur,hv,hb,hg,hnc,pj,hcs,g6⟩
 ·simp only at hn;omega
 simp only[jq,zm] at hv;obtain⟨rfl,rfl⟩:=hv;simp only at g6 hcs hnc hg hb;rw[qy] at g6 hcs;have bw:p=some ⟨g,lo,none⟩:=by rw[hp];exact WC G
 subst bw;subst Xa;obtain⟨q,hq⟩: ∃q,min m2 (m-lo)=q:=⟨_,rfl⟩;rw[hq] at hk;have Ln:Nat.min m2 (m-lo)=q:=hq;have kc:(ints k (src.take q)).length=q:=by rw[bV,ax];omega
 have hlen:(ints k l).length=m:=by rw[bV];omega
 rcases dx m2 with hz|db
 ·have gv:q=0:=G
  have ld:=run_copy_none (P:=P) w t t2 o.type e (some ⟨g,lo,none⟩) A2 (m-lo) dc m2 c2 ht ee (by rw[hz];exact Nat.zero_min _);unfold Oper.wp execOp;simp only[ho,resolve,invoke,builtin,jm,lv,jk,rf,kv,qi,hs.ev hx,hs.ev hy,ld,Oper.upon];refine hk (.int .i64 ((0:Nat):Int)) w R hw ⟨by rw[gv],?_⟩;rw[gv];simp only[xk,jo,qa,gq]
  exact(by
   apply su;intro j;rw[vw];split
   ·rename_i e;subst e;rw[cu (dn.1 hi).1,hi]
   ·rfl)
 ·obtain ⟨a2,rfl⟩: ∃a2,A2=some a2:=by
   obtain⟨a2,h,_⟩:=wj.at_ 0 _ (av (by rw[bV];omega));exact⟨a2,h⟩
  have ld:=run_copy_row P w t t2 o.type e g lo (m-lo) dc a2 m2 c2 cur e (ints k (src.take q)) ht ee hg (by rw[kc];exact hq.symm) (λj v hv=>by
   obtain⟨b,h1,h2⟩:=wj.at_ j v (by
    rw[ints,Bl] at hv;rw[oh] at hv;split at hv
    ·exact hv
    ·cases hv)
   obtain rfl:=iw h1
   exact h2) (by rw[kc,hcs];omega) (zD k _)
  rw[kc] at ld;unfold Oper.wp execOp;simp only[ho,resolve,invoke,builtin,jm,lv,jk,rf,kv,qi,hs.ev hx,hs.ev hy,ld,Oper.upon];refine hk (.int .i64 (q:Int)) _ _ ?_ ⟨rfl,rfl⟩;refine hw.upd hi (row:=some g) ⟨rfl,rfl,rfl,cD,λj _ hj=>Ij w g j _ (λe=>hj (by simp[e]))⟩ (dh _) (λj hj=>by cases hj;exact⟨_,rfl,rfl⟩) ?_ (λa' ki=> .inl ⟨a',ki,rfl⟩);unfold Row.lies;simp only;refine⟨?_, .inr ⟨g,c,_,rfl,hb,Jh w g cur _ e _ hg,hnc,pj,?_,?_⟩⟩
  ·simp only[bV,ah,ax,bg];omega
  ·simp only[pz,ah,ax,bg,jl,bV];omega
  ·simp only[qy];rw[qB,qB]
   have e1:ints k (l.take lo)=cur.toList.take lo:=by
    rw[ints,Bl];show(ints k l).take lo=_;rw[<-g6,List.take_take,xu G]
   have e2:ints k (l.drop (lo+q))=(cur.toList.drop (lo+q)).take (m-(lo+q)):=by
    rw[ints,Gr];show(ints k l).drop (lo+q)=_;rw[<-g6,List.drop_take]
   rw[e1,e2]
   have h1:(cur.toList.take lo++ints k (src.take q)).length=lo+q:=by
    rw[ah,kc,ax,jl];omega
   rw[List.take_append,h1,bn G]
theorem aQy {A:Option Addr} {c:Nat}:A=iY A 0 c 1:=by
 unfold iY;split
 ·rfl
 ·cases A with
  |none=>rfl
  |some a=>simp[Addr.add]
def yI (v:Int) (p N:Nat):List Int:=List.replicate p v++List.replicate (N-p) 0
theorem aGu (v:Int) (N:Nat):yI v 0 N=List.replicate N 0:=by simp[yI]
theorem aMr (v:Int) (N:Nat):yI v N N=List.replicate N v:=by simp[yI]
theorem MP {v:Int} {p N:Nat}:(yI v p N).take p=List.replicate p v:=by simp[yI]
theorem MQ {v:Int} {p q N:Nat} {src:List Int} (h:p+q<=N) (hs:src=List.replicate q v):(yI v p N).take p++src++(yI v p N).drop (p+q)=yI v (p+q) N:=by
 subst hs;rw[MP];unfold yI;rw[List.drop_append];simp only[bq,List.drop_replicate,show p-(p+q)=0 by omega,List.replicate_zero,jb,Cw];congr 2;omega
end
end Go.Eng
namespace Go.Proofs.YtdbebmmhdefgdaaGreat
open Go Go.Eng Go.Pure
open Tryz
set_option maxRecDepth 100000
variable {w:World}
theorem aUc {x0:Int} (hv:0<=x0/\x0<18446744073709551616):
  Ct Tryz.prog 69 #[.int .u64 x0] w.heap.size w [] (λv R'=> ∃A c,v=sl A ((bQ x0).length) c/\R'=[(ru 5 A ((bQ x0).length) c (bQ x0))]):=by
 refine fn1 Tryz.func69 Z Z Z ?_;have hlen:=eF 9 x0 G;refine wq<|wn Z<|wq<|dH (R1:=[(ru 5 none 0 0 ([]))]) (Sub.refl _) (λ_ h=>h.nil 5 1)<|wn Z<|aG<|aI ?_;refine jN (λ(A1:Option Addr) (n1:Nat) (c1:Nat) (acc:List Int) (x:Int)=>[(0, .int .u64 x),(3,sl A1 n1 c1)]) (λA1 n1 c1 acc x=>[(ru 5 A1 n1 c1 acc)]) (λA1 n1 c1 acc x=>(n1=acc.length)/\(0<=x/\x<18446744073709551616)/\(bQ x0=acc++bQ x)) (λA1 n1 c1 acc x=>x.toNat) ?_ ?_
 ·exact⟨none,0,0,[],x0,⟨(Z),G,(Z)⟩,SA,λ_ h=>h⟩
 intro A1 n1 c1 acc x ⟨dd,Sb,hT⟩;have qs:=bz List.length hT;rw[ah] at qs;refine aG<|wq<|wm Z<|wy (jF Z Z)<|aA<|bJ Z (λaq=> ?_) (λaq=> ?_)
 ·refine aJ<|aI<|wq<|wm Z<|wm Z<|wy (iF fo cz Z)<|wy (bCf Z Z G)<|wa (bS .u8 [(x%256)%128+128] ai zs5 Z Z Z) ?_;rintro _ _ ⟨cv,rfl,rfl⟩;refine wa (bE 1 Z ai zb5 Z Z Z (rdr 0 Z)) ?_;rintro _ _ ⟨ij,io,rfl,rfl⟩;refine bN (v:=sl ij (n1+1) io) Z<|wn Z<|aM<|wm Z<|wy (pV (k:=7) (m:=128) Z Z Z G Z)<|wn Z ?_;exact⟨ij,n1+1,io,acc++([(x%256)%128+128]),x/128,⟨(by rw[ah,dd];try rfl),G,(aGz hT G G G)⟩,G,SA,λ_ h=>h.sel [1] cC Z⟩
 ·refine aZ<|wq<|wm Z<|wm Z<|wy (iF fo cz Z)<|wa (bS .u8 [x%256] ai zs5 Z Z Z) ?_;rintro _ _ ⟨fm,rfl,rfl⟩;refine wa (bE 1 Z ai zb5 Z Z Z (rdr 0 Z)) ?_;rintro _ _ ⟨es,dt,rfl,rfl⟩;refine bN (v:=sl es (n1+1) dt) Z<|wn Z<|aT [1] 99 cC Z ?_;refine⟨_,Z,?_⟩;have e:acc++[x%256]=bQ x0:=by rw[hT,jI G,sj G G]
  have e2:n1+1=(bQ x0).length:=by rw[<-e,ah,dd];rfl
  rw[e,e2];exact⟨_,_,Z,Z⟩
theorem IY {x:Int} (hx:0<=x/\x<4294967296):
  Ct Tryz.prog 76 #[.int .u32 x] w.heap.size w [] (λv R'=> ∃A c,v=sl A 4 c/\R'=[(ru 5 A 4 c (iE x))]):=by
 refine fn1 Tryz.func76 Z Z Z ?_;refine wq<|wn Z<|wq<|wa (dE ai zb5 Z Z) ?_;rintro _ _ ⟨al,rfl,rfl⟩;refine bN (v:=sl (GG al) 4 4) Z<|wn Z<|aG<|wq<|wm Z<|wy (aQ ai Z)<|wm Z<|aA<|aI<|qL 5<|dY<|wq ?_;refine wy (Yl.t (eO Z Z) cC)<|aA<|aG<|bO Z<|aJ<|aG<|aI<|wq<|wm Z<|wn Z<|aM<|wm Z<|wm Z ?_;refine wm Z<|wm Z<|wy (Yl.is (gZ Z Z) Z)<|wy (OL (k:=0) (m:=1) Z Z Z G Z)<|wy (iF vo cz Z)<|wy (aH ai sz5 Z Z (rdr 0 Z))<|bX (bG 0 Z sz5 Z Z) ?_;rintro _ _ rfl;refine aA<|aM<|wy (Yl.is (dG Z Z) Z)<|wm Z<|aA<|dY<|wq<|wy (Yl.t (eO Z Z) cC)<|aA<|aG<|bO Z<|aJ<|aG<|aI ?_;refine wq<|wm Z<|wn Z<|aM<|wm Z<|wm Z<|wm Z<|wm Z<|wy (Yl.is (gZ Z Z) Z)<|wy (OL (k:=8) (m:=256) Z Z Z G Z)<|wy (iF vo cz Z)<|wy (aH ai sz5 Z Z (rdr 0 Z))<|bX (bG 0 Z sz5 Z Z) ?_;rintro _ _ rfl;refine aA<|aM<|wy (Yl.is (dG Z Z) Z)<|wm Z<|aA<|dY<|wq<|wy (Yl.t (eO Z Z) cC)<|aA<|aG<|bO Z<|aJ<|aG<|aI ?_;refine wq<|wm Z<|wn Z<|aM<|wm Z<|wm Z<|wm Z<|wm Z<|wy (Yl.is (gZ Z Z) Z)<|wy (OL (k:=16) (m:=65536) Z Z Z G Z)<|wy (iF vo cz Z)<|wy (aH ai sz5 Z Z (rdr 0 Z))<|bX (bG 0 Z sz5 Z Z) ?_;rintro _ _ rfl;refine aA<|aM<|wy (Yl.is (dG Z Z) Z)<|wm Z<|aA<|dY<|wq<|wy (Yl.t (eO Z Z) cC)<|aA<|aG<|bO Z<|aJ<|aG<|aI ?_;refine wq<|wm Z<|wn Z<|aM<|wm Z<|wm Z<|wm Z<|wm Z<|wy (Yl.is (gZ Z Z) Z)<|wy (OL (k:=24) (m:=16777216) Z Z Z G Z)<|wy (iF vo cz Z)<|wy (aH ai sz5 Z Z (rdr 0 Z))<|bX (bG 0 Z sz5 Z Z) ?_;rintro _ _ rfl;refine aA<|aM<|wy (Yl.is (dG Z Z) Z)<|wm Z<|aA<|dY<|wq<|wy (Yl.f (eO Z Z) cC)<|aA<|aG<|aL Z<|aZ<|wq ?_;refine wm Z<|wn Z<|aT [0] 99 cC Z ?_;refine⟨_,Z,?_⟩;exact⟨_,_,Z,Z⟩
theorem kJ {n:Int} (hv:0<=n/\n<9223372036854775808):
  Ct Tryz.prog 37 #[I n] w.heap.size w [] (λv R'=> ∃A c,v=sl A ((bQ n).length) c/\R'=[(ru 5 A ((bQ n).length) c (bQ n))]):=by
 refine fn1 Tryz.func37 Z Z Z ?_;refine wq<|wn Z<|wq<|wm Z<|wy (iU ak fo Z)<|wa (aF bGq Z (Ct.fresh (λw hw=>aUc G))) ?_;rintro _ _ ⟨_,rfl,bx,br,rfl,rfl⟩;refine wn Z<|aT [0] 99 cC Z ?_;refine⟨_,Z,?_⟩;exact⟨_,_,Z,Z⟩
end Go.Proofs.YtdbebmmhdefgdaaGreat
namespace Go.Pure
open Go Go.Eng
variable {v:Int} {b:List Int} {k:Nat}
def gJ:List Int->Int
 |[]=>0
 |d::l=>d%128+128*gJ l
theorem tC: ∀l:List Int,0<=gJ l
 |[]=>ky _
 |d::l=>by have:=tC l;rw[gJ];omega
def XO:List Int->Prop
 |[]=>False
 |d::l=>(l=[]/\0<=d/\d<128)\/(128<=d/\d<256/\XO l/\0<gJ l)
theorem OT: ∀(k:Nat) (v:Int),v.toNat<=k->0<=v->gJ (bQ v)=v/\XO (bQ v)
 |0,v,h,h0=>by
  rw[jI G];exact⟨by rw[gJ,gJ];omega, .inl ⟨rfl,G,G⟩⟩
 | k+1,v,h,h0=>by
  by_cases z:v<128
  ·rw [jI z];exact⟨by rw[gJ,gJ];omega, .inl ⟨rfl,G,G⟩⟩
  ·rw [qU G];obtain⟨h1,h2⟩:=OT k (v/128) G G;exact⟨by rw[gJ,h1];omega, .inr ⟨G,G,h2,by rw[h1];omega⟩⟩
theorem FH (h:0<=v):gJ (bQ v)=v:=(OT _ v (dh _) h).1
theorem PK (h:0<=v):XO (bQ v):=(OT _ v (dh _) h).2
theorem aDn: ∀l:List Int,XO l->bQ (gJ l)=l
 |[],h=>h.elim
 | d::l,h=>by
  rcases h with⟨rfl,h0,h1⟩|⟨h0,h1,h2,h3⟩
  ·rw [gJ,gJ,jI G];congr 1;omega
  ·rw [gJ,qU G];have e1:(d%128+128*gJ l)%128+128=d:=G
   have e2:(d%128+128*gJ l)/128=gJ l:=G
   rw[e1,e2,aDn l h2]
theorem aEo: ∀l m s t:List Int,XO l->XO m->l++s=m++t->l=m
 |[],_,_,_,h,_,_=>h.elim
 |_::_,[],_,_,_,h,_=>h.elim
 |d::l,e::m,s,t,h,g,q=>by
  rw[jd,jd] at q;obtain⟨rfl,q2⟩:=List.cons.inj q;rcases h with⟨rfl,h0,h1⟩|⟨h0,h1,h2,h3⟩<;>rcases g with⟨rfl,g0,g1⟩|⟨g0,g1,g2,g3⟩
  ·rfl
  ·omega
  ·omega
  ·rw[aEo l m s t h2 g2 q2]
def sS (b:List Int) (v:Int) (k:Nat):Prop:=(0<=v/\v<18446744073709551616)/\k=(bQ v).length/\ ∃t,b=bQ v++t
theorem sS.one {w:Int} {m:Nat} (h:sS b v k) (g:sS b w m):v=w/\k=m:=by
 obtain⟨h1,rfl,s,hs⟩:=h;obtain⟨g1,rfl,t,ht⟩:=g;have e:=aEo _ _ s t (PK h1.1) (PK g1.1) (hs.symm.trans ht);have e2:=bz gJ e;rw[FH h1.1,FH g1.1] at e2;subst e2;exact⟨rfl,rfl⟩
theorem sS.drop (h:sS b v k):b=bQ v++b.drop k:=by
 obtain⟨_,rfl,t,rfl⟩:=h;rw[Eu]
theorem sS.of (h:0<=v/\v<18446744073709551616) (t:List Int):sS (bQ v++t) v (bQ v).length:=⟨h,rfl,t,rfl⟩
def gQ (b:List Int):Int:=if b.findIdx (λx=>decide (x<128))<b.length then(b.findIdx (λx=>decide (x<128)):Nat) else -1
theorem aVt {i:Int} (i0:0<=i) (hi:i<b.length) (h:rd b i<128) (hn: ∀j:Int,0<=j->j<i-> ¬rd b j<128):gQ b=i:=by
 have e:b.findIdx (λx=>decide (x<128))=i.toNat:=by
  rw[List.findIdx_eq G];refine⟨by rw[eQ i0 hi] at h;simpa using h,λj hj=> ?_⟩;have:=hn j G G;rw[eQ G G] at this;simpa using this
 unfold gQ;rw[e,cu G];omega
theorem aIs (hn: ∀j:Int,0<=j->j<b.length-> ¬rd b j<128):gQ b= -1:=by
 unfold gQ;rw[bu];intro h;have hp:=Dq (w:=h);have:=hn (b.findIdx λx=>decide (x<128):Nat) G G;rw[eQ G G] at this;simp only[az] at this;simp only[yz] at hp;exact this hp
variable {b:List Int} {d V:Int} {e:Nat}
theorem aPu: ∀(e:Nat) (b:List Int),aO b->e<b.length->(∀j:Nat,j<e->128<=rd b j)->rd b (e:Int)<128->(e=0\/rd b (e:Int)≠0)->XO (b.take (e+1))/\(rd b (e:Int)≠0->0<gJ (b.take (e+1)))
 |0,d::b,hb,h,_,h1,_=>by
  have hd:=hb d cD;have e0:rd (d::b) ((0:Nat):Int)=d:=rfl;rw[e0] at h1 ⊢;refine⟨.inl ⟨rfl,hd.1,h1⟩,λda=> ?_⟩;show 0<d%128+128*gJ [];rw[gJ];omega
 | e+1,d::b,hb,h,hn,h1,h2=>by
  have hd:=hb d cD;have l6:128<=d:=hn 0 G
  have er: ∀j:Nat,rd (d::b) ((j+1:Nat):Int)=rd b (j:Int):=λj=>by
   unfold rd;rw[show((j+1:Nat):Int).toNat=j+1 by omega,az];rfl
  rw[er] at h1 h2 ⊢;have hz:rd b (e:Int)≠0:=h2.resolve_left G;have ih:=aPu e b (λx hx=>hb x (dw _ hx)) (by rw[dm] at h;omega) (λj hj=>by have:=hn (j+1) G;rwa[er] at this) h1 (.inr hz);refine⟨.inr ⟨l6,hd.2,ih.1,ih.2 hz⟩,λ_=> ?_⟩;show 0<d%128+128*gJ (b.take (e+1));have:=ih.2 hz;omega
 |0,[],_,h,_,_,_=>by simp at h
 |_+1,[],_,h,_,_,_=>by simp at h
theorem FE: ∀(e:Nat) (b:List Int),aO b->e<b.length->rd b (e:Int)<128->rd b (e:Int)*128^e<=gJ (b.take (e+1))/\gJ (b.take (e+1))<(rd b (e:Int)+1)*128^e
 |0,d::b,hb,h,h1=>by
  have hd:=hb d cD;have e0:rd (d::b) ((0:Nat):Int)=d:=rfl;rw[e0] at h1 ⊢;show d*128^0<=d%128+128*gJ []/\d%128+128*gJ []<(d+1)*128^0;rw[gJ,vv];omega
 | e+1,d::b,hb,h,h1=>by
  have er:rd (d::b) ((e+1:Nat):Int)=rd b (e:Int):=by
   unfold rd;rw[show((e+1:Nat):Int).toNat=e+1 by omega,az];rfl
  rw[er] at h1 ⊢;have ih:=FE e b (λx hx=>hb x (dw _ hx)) (by rw[dm] at h;omega) h1;show rd b (e:Int)*128^(e+1)<=d%128+128*gJ (b.take (e+1))/\d%128+128*gJ (b.take (e+1))<(rd b (e:Int)+1)*128^(e+1);rw[xe,<-ui,<-ui];omega
 |0,[],_,h,_=>by simp at h
 |_+1,[],_,h,_=>by simp at h
theorem xC (h:0<=gQ b):gQ b<b.length/\rd b (gQ b)<128/\ ∀j:Int,0<=j->j<gQ b-> ¬rd b j<128:=by
 have aw:b.findIdx (λx=>decide (x<128))<b.length:=by
  unfold gQ at h;split at h
  ·assumption
  ·omega
 have e:gQ b=(b.findIdx (λx=>decide (x<128)):Nat):=by unfold gQ;rw[cu aw]
 have hp:=Dq (w:=aw);refine⟨G,?_,λj j0 hj=> ?_⟩
 ·rw [e,eQ G G];simpa using hp
 ·have:=List.not_of_lt_findIdx (xs:=b) (p:=λx=>decide (x<128)) (i:=j.toNat) G;rw[eQ j0 G];simpa using this
theorem aKe: ∀n:Fin 256,n.val<2^Lib.bitLen n.val/\(n.val≠0->2^(Lib.bitLen n.val-1)<=n.val/\1<=Lib.bitLen n.val)/\(n.val=0->Lib.bitLen n.val=0):=by decide+kernel
theorem aFh (h0:0<=d) (h1:d<256):d+1<=(2:Int)^Lib.bitLen d.toNat/\(d≠0->(2:Int)^(Lib.bitLen d.toNat-1)<=d/\1<=Lib.bitLen d.toNat)/\(d=0->Lib.bitLen d.toNat=0):=by
 obtain⟨a,b,c⟩:=aKe ⟨d.toNat,G⟩;have e: ∀k:Nat,(2:Int)^k=((2^k:Nat):Int):=λk=>by norm_cast
 refine⟨by rw[e];simp only at a;omega,λh=> ?_,λh=>c (by simp only;omega)⟩;have:=b (by simp only;omega);rw[e];simp only at this;omega
theorem aUf (e:Nat):(128:Int)^e=2^(7*e):=by
 rw[Int.pow_mul];rfl
theorem aPj (h0:0<=d) (h1:d<256) (hV:V<(d+1)*128^e) (h:7*e+Lib.bitLen d.toNat<=64):V<18446744073709551616:=by
 have hb:=(aFh h0 h1).1;have hp:(0:Int)<=128^e:=uq G;have h2:(d+1)*128^e<=2^Lib.bitLen d.toNat*128^e:=mg hb hp;rw[aUf,<-yw] at h2
 have h3:(2:Int)^(Lib.bitLen d.toNat+7*e)<=2^64:=by
  have:(2:Nat)^(Lib.bitLen d.toNat+7*e)<=2^64:=Dw G G
  exact_mod_cast this
 rw[aUf] at hV;have:(2:Int)^64=18446744073709551616:=rfl;omega
theorem aVl (h0:0<=d) (h1:d<256) (he:e<=9) (hV:d*128^e<=V) (h:64<7*e+Lib.bitLen d.toNat):18446744073709551616<=V:=by
 obtain⟨_,hb,hz⟩:=aFh h0 h1;have hd:d≠0:=λc=>by have:=hz c;omega
 obtain⟨h2,h3⟩:=hb hd;have hp:(0:Int)<=128^e:=uq G;have h4:2^(Lib.bitLen d.toNat-1)*128^e<=d*128^e:=mg h2 hp;rw[aUf,<-yw] at h4
 have h5:(2:Int)^64<=2^(Lib.bitLen d.toNat-1+7*e):=by
  have:(2:Nat)^64<=2^(Lib.bitLen d.toNat-1+7*e):=Dw G G
  exact_mod_cast this
 rw[aUf] at hV;have:(2:Int)^64=18446744073709551616:=rfl;omega
theorem aVk (hb:aO b) (he:gQ b=(e:Int)) (h0:e=0\/rd b (e:Int)≠0) (h7:7*e+Lib.bitLen (rd b (e:Int)).toNat<=64):sS b (gJ (b.take (e+1))) (e+1):=by
 obtain⟨f1,f2,f3⟩:=xC (b:=b) G;rw[he] at f1 f2 f3;have hd:=hb.rd (e:Int);have h1:=(aPu e b hb G (λj hj=>by have:=f3 j G G;omega) f2 h0).1;have h2:=FE e b hb G f2;have h3:=aDn _ h1;refine⟨⟨tC _,aPj hd.1 hd.2 h2.2 h7⟩,?_,b.drop (e+1),?_⟩
 ·rw[h3,ax];omega
 ·rw[h3,gq]
theorem aEp: ∀l t:List Int,XO l->(l++t).findIdx (λx=>decide (x<128))=l.length-1/\0<l.length/\(l.length=1\/rd (l++t) ((l.length-1:Nat):Int)≠0)
 |[],_,h=>h.elim
 | d ::l,t,h=>by
  rcases h with⟨rfl,h0,h1⟩|⟨h0,h1,h2,h3⟩
  ·refine ⟨?_,cD, .inl rfl⟩;rw[jd,List.findIdx_cons,show decide (d<128)=true from lh h1];rfl
  ·obtain ⟨i1,i2,i3⟩:=aEp l t h2;refine⟨?_,cD, .inr ?_⟩
   ·rw [jd,List.findIdx_cons,show decide (d<128)=false from ol G,i1];simp only[dm,cond_false];omega
   ·have er:rd (d::(l++t)) (((l.length-1)+1:Nat):Int)=rd (l++t) ((l.length-1:Nat):Int):=by
     unfold rd;rw[show(((l.length-1)+1:Nat):Int).toNat=(l.length-1)+1 by omega,az];rfl
    rw[jd,dm,show l.length+1-1=(l.length-1)+1 by omega,er];rcases i3 with i3|i3
    ·intro hz
     match l,i3,h2,h3,hz with
     |[x],_,h2,h3,hz=>
      rw[gJ,gJ] at h3;have:x=0:=hz;omega
    ·exact i3
theorem aPi (hb:aO b) (h:gQ b<0\/9<gQ b\/(0<gQ b/\rd b (gQ b)=0)\/64<7*(gQ b).toNat+Lib.bitLen (rd b (gQ b)).toNat): ¬ ∃v k,sS b v k:=by
 rintro⟨v,k,⟨Sb,Qh⟩,rfl,t,ht⟩;have hE:=PK Sb;obtain⟨i1,i2,i3⟩:=aEp _ t hE;rw[<-ht] at i1 i3;have hlen:(bQ v).length<=b.length:=by rw[ht,ah];omega
 have he:gQ b=(((bQ v).length-1:Nat):Int):=by
  unfold gQ;rw[i1,cu G]
 have h10:=eF 9 v G;rw[he] at h;rcases h with h|h|⟨h,hz⟩|h
 ·omega
 ·omega
 ·rcases i3 with i3|i3
  ·omega
  ·exact i3 hz
 ·obtain ⟨f1,f2,_⟩:=xC (b:=b) G;rw[he] at f1 f2;have hd:=hb.rd (((bQ v).length-1:Nat):Int);have h2:=FE ((bQ v).length-1) b hb G f2
  have e1:b.take ((bQ v).length-1+1)=bQ v:=by
   rw[show(bQ v).length-1+1=(bQ v).length by omega]
   conv=>lhs;rw[ht]
   exact Aq
  rw[e1,FH Sb] at h2;rw[az] at h;have:=aVl hd.1 hd.2 G h2.1 h;omega
theorem RB: ∀(l:List Int) (d:Int),gJ (l++[d])=d%128*2^(7*l.length)+gJ l
 |[],d=>by simp[gJ]
 |x::l,d=>by
  rw[jd,gJ,gJ,RB l d,dm,show 7*(l.length+1)=7*l.length+7 by omega,yw,<-ui];rw[show(2:Int)^7=128 by rfl];omega
theorem xR {q:Nat} (h:q<b.length):gJ (b.take (q+1))=rd b (q:Int)%128*2^(7*q)+gJ (b.take q):=by
 have e:=dD (j:=(q:Int)) (show(0:Int)<=q by omega) (show(q:Int)<b.length by omega);rw[show((q:Int)+1).toNat=q+1 by omega,az] at e;rw[e,RB,ax,xu G]
theorem RF {b:List Int}: ∀q:Nat,q<=b.length->gJ (b.take q)<2^(7*q)
 |0,_=>by simp[gJ]
 |q+1,h=>by
  have ih:=RF (b:=b) q G;rw[xR G,show 7*(q+1)=7*q+7 by omega,yw];have hp:(0:Int)<2^(7*q):=Dp G;have h1:rd b (q:Int)%128*2^(7*q)<=127*2^(7*q):=mg G G;rw[show(2:Int)^7=128 by rfl];omega
theorem RD {b:List Int} {q:Nat}: ∀e:Nat,q<=e->e<=b.length->gJ (b.take q)<=gJ (b.take e)
 |0,h,_=>by rw[show q=0 by omega];exact ky _
 | e+1,h,hl=>by
  rcases fe e q with c|c
  ·rw[show q=e+1 by omega];exact ky _
  ·have ih:=RD (b:=b) (q:=q) e c G;have hp:(0:Int)<2^(7*e):=Dp G;have h1:0<=rd b (e:Int)%128*2^(7*e):=zh G G;rw[xR G];omega
end Go.Pure
namespace Go.Eng
open Go Go.RowKit Go.Pure
section
variable {P:Program} {n:Nd} {B:Nat} {w0:World} {L:Env} {R:List Row} {ty:TypeId}
theorem aSa: ∀n:Fin 256,(BitVec.ofInt 8 (n.val:Int) &&& ~~~ BitVec.ofInt 8 128).toNat=n.val%128:=by decide+kernel
theorem TB (p:Int) (h:0<=p/\p<256) (w:World):(Op.intBits .andNot .u8 p 128).run P w= .ok (.int .u8 (p%128)) w:=by
 have e:=aSa ⟨p.toNat,G⟩;simp only at e;rw[show((p.toNat:Nat):Int)=p by omega] at e;show Result.ok (Value.int .u8 (IntKind.u8.wrap ((BitVec.ofInt 8 p &&& ~~~ BitVec.ofInt 8 128).toNat:Int))) w=_;rw[e,rR G G];rw[show((p.toNat%128:Nat):Int)=p%128 by omega]
theorem aFp {x y:Operand} {t u:TypeId} {p:Int} (hx:ev L x=some (.int .u8 p)) (hy:ev L y=some (.int .u8 128)) (h:0<=p/\p<256):Yl P n B w0 (.binOp .andNot t x y u) ty L R (.int .u8 (p%128)):=by
 intro a w o ho _ hs _;simp[execOp,ho,binOp,eqGuard,hs.ev hx,hs.ev hy,TB p h]
theorem bCe {x y:Operand} {t u:TypeId} {p q m:Int} (k:Nat) (hx:ev L x=some (.int .u64 q)) (hy:ev L y=some (.int .u64 (p*m))) (hm:(2:Int)^k=m) (h:0<=p/\p*m+q<18446744073709551616) (hq:0<=q/\q<m):Yl P n B w0 (.binOp .or t x y u) ty L R (.int .u64 (p*m+q)):=by
 intro a w o ho _ hs _;have e:=aDa (P:=P) p q k m hm h hq w
 have e2:(Op.intBits .or .u64 q (p*m)).run P w= .ok (.int .u64 (p*m+q)) w:=by
  have c:Op.intBits .or .u64 q (p*m)=Op.intBits .or .u64 (p*m) q:=by
   unfold Op.intBits;simp only[BitVec.or_comm]
  rw[c,e]
 simp[execOp,ho,binOp,eqGuard,hs.ev hx,hs.ev hy,e2]
end
end Go.Eng
namespace Go.Proofs
open Go.Shelf
def Tryz.lays126_ren:Go.Shelf.Ren:=⟨λ|126=>271|n=>n,λ|5=>5|3=>3|9=>9|n=>n,λ|n=>n⟩
theorem Tryz.lays126:Go.Proofs.Lays.n126 Tryz.prog Tryz.lays126_ren:= {
 mixed:=cA
 f126:=Tryz.func271.trans (bz some cA)
 t3:=Be
 a3:=Gc
 z3:=Ep
 v3:=Bt
 t5:=Dg
 a5:=Jf
 z5:=Ig
 v5:=Ee
 t9:=Dh
 a9:=Jg
 z9:=Ih
 v9:=Ef}
theorem Tryz.bits_Len8 (x:Int) (w:World) (h0:0<=x) (h1:x<=255):
  Calls Tryz.prog 271 #[.int .u8 x] w λe w'=>e= .returned (.int .i64 (Lib.bitLen x.toNat))/\w'=w:=Any.bits_Len8 Tryz.lays126 x w h0 h1
end Go.Proofs
namespace Go.Proofs.YtdbebmmhdefgdaaGreat
open Go Go.Eng Go.Pure
open Tryz
set_option maxRecDepth 100000
variable {w:World} {ke:Option Addr} {qt kh:Nat} {b:List Int}
theorem aGh {c:Int}:
  Ct Tryz.prog 270 #[.int .u8 c] w.heap.size w [] (λv R'=>v= .bool (decide (c<128))):=by
 refine fn1 Tryz.func270 Z Z Z ?_;refine wq<|wn Z<|wq<|wm Z<|wL Z Z<|wn Z<|dF ?_;refine⟨_,Z,?_⟩;rfl
theorem aPv {w:World} (go:Rd w ke qt kh 1 (ints .u8 b)) (ce:aO b) (hN:b.length<=1000000):
  Ct Tryz.prog 269 #[sl ke qt kh, .func (.func 270) #[] #[]] w.heap.size w [] (λv R'=>v=I (gQ b)):=by
 obtain rfl:=go.lenI;refine fn1 Tryz.func269 Z Z Z ?_;have Jr:=go.max;refine wq<|wn Z<|aG<|wq<|wm Z<|wy (aQ ai Z)<|wm Z<|aA<|aI ?_;refine pX (λ(i:Int)=>[(0,sl ke b.length kh),(1, .func (.func 270) #[] #[]),(7,I ((b.length:Nat):Int)),(8,I i)]) (λi=>[]) (λi=>(0<=i)/\(i<=b.length)/\(∀j:Int,0<=j->j<i-> ¬rd b j<128)) (λi=>(b.length-i).toNat) ?_ ?_
 ·exact⟨0,⟨G,G,(λj h1 h2=>G)⟩,SA,λ_ h=>h⟩
 intro i ⟨ar,ia,hn⟩;refine wq<|wL Z Z<|aA<|aG<|bJ Z (λaq=> ?_) (λaq=> ?_)
 ·have rj:=ce.rd i;refine aJ<|aG<|aI<|wq<|wm Z<|wn Z<|wq<|wm Z<|wm Z<|wm Z<|wy (aH ai sz5 Z Z (go.c _))<|wy (aX cz Z Z (go.c _)) ?_;refine wa (JZ bDz Z Z (Ct.quiet (λw hw=>aGh))) ?_;rintro _ _ ⟨rfl,rfl⟩;refine aA<|bJ Z (λcr=> ?_) (λcr=> ?_)
  ·refine wq<|wm Z<|wn Z<|dF ?_;refine⟨_,Z,?_⟩;exact bz (Value.int .i64) (aVt ar G cF hn).symm
  ·refine aJ<|aM<|wA Z Z<|wm Z<|aA ?_
   exact⟨i+1,⟨G,G,(λj h1 h2=>by
     rcases ay j i with h|h
     ·exact hn j h1 h
     ·obtain rfl:j=i:=G
      assumption)⟩,G,SA,λ_ h=>h⟩
 ·refine aZ<|wq<|wn Z<|dF ?_;refine⟨_,Z,?_⟩;exact bz (Value.int .i64) (aIs λj h1 h2=>hn j h1 G).symm
theorem aWc {x:Int} (h:0<=x/\x<256):Ct Tryz.prog 271 #[.int .u8 x] w.heap.size w [] (λv R'=>v=I ((Lib.bitLen x.toNat:Nat):Int)):=λw' Jp=>(Tryz.bits_Len8 x w' h.1 G).mono (by rintro e Md ⟨he,rfl⟩;exact⟨_,[],he,Jp,rfl⟩)
theorem aVm (go:Rd w ke qt kh 1 (ints .u8 b)) (ce:aO b) (hN:b.length<=1000000):
  Ct Tryz.prog 227 #[sl ke qt kh] w.heap.size w [] (λv R'=>(∃(V:Int) (k:Nat),sS b V k/\v= .tuple #[.int .u64 V,I (k:Int),bt])\/((¬ ∃V k,sS b V k)/\v= .tuple #[.int .u64 0,I 0,bf])):=by
 obtain rfl:=go.lenI;refine fn3 Tryz.func227 Z Z Z ?_;have Jr:=go.max;refine wq<|wg Z<|wg Z<|wn Z<|wq<|wm Z<|wa (aF bEa Z (Ct.quiet (λw hw=>aPv ((go.c _) w hw) ce hN))) ?_;rintro _ _ ⟨rfl,rfl⟩;refine wn Z<|aG<|wq<|wm Z<|wL Z Z<|wm Z<|dQ 3 [(0,sl ke b.length kh),(2, .int .u64 0),(5,I (gQ b)),(15, .bool (decide (((gQ b)<0)\/(9<(gQ b)))))] [] ?_ ?_
 ·refine cK 12 Z (λaq=> ?_) (λaq=> ?_)
  ·refine aP Z Z Z Z<|aP Z Z Z Z<|wy (aY Z Z)<|aA ?_;exact⟨SA,λ_ h=>h⟩
  ·refine aC Z Z<|wm Z<|aC Z Z<|wy (dV Z Z)<|wy (aR Z Z)<|aA ?_;exact⟨SA,λ_ h=>h⟩
 refine aA<|bJ Z (λcr=> ?_) (λcr=> ?_)
 ·refine wq<|wg Z<|wg Z<|wn Z<|dF ?_;refine⟨_,_,_,Z,Z,Z,?_⟩;exact .inr ⟨aPi ce G,Z⟩
 ·obtain ⟨e,he⟩: ∃e:Nat,gQ b=(e:Int):=⟨(gQ b).toNat,G⟩;have hef:=xC (b:=b) G;have Ww:=ce.rd (gQ b);have xt:Lib.bitLen (rd b (gQ b)).toNat<=8:=Lib.bitLen_le8 ⟨(rd b (gQ b)).toNat,G⟩;refine aJ<|aG<|wq<|wm Z<|wy (dV Z Z)<|wm Z<|dQ 6 [(0,sl ke b.length kh),(2, .int .u64 0),(5,I (gQ b)),(24, .bool (decide ((0<(gQ b))/\((rd b (gQ b))=0))))] [] ?_ ?_
  ·refine cK 18 Z (λfd=> ?_) (λfd=> ?_)
   ·refine aC Z Z<|wm Z<|aC Z Z<|wm Z<|aC Z Z<|wy (aH ai sz5 Z Z (go.c _))<|aC Z Z<|wy (aX cz Z Z (go.c _))<|aC Z Z<|wy (bC Z Z)<|wy (aY Z Z)<|aA ?_;exact⟨SA,λ_ h=>h⟩
   ·refine aP Z Z Z Z<|aP Z Z Z Z<|aP Z Z Z Z<|aP Z Z Z Z<|aP Z Z Z Z<|wy (aR Z Z)<|aA ?_;exact⟨SA,λ_ h=>h⟩
  refine wm Z<|dQ 10 [(0,sl ke b.length kh),(2, .int .u64 0),(5,I (gQ b)),(35, .bool (decide (((0<(gQ b))/\((rd b (gQ b))=0))\/(64<((7*(gQ b))+((Lib.bitLen (rd b (gQ b)).toNat:Nat):Int))))))] [] ?_ ?_
  ·refine cK 25 Z (λka=> ?_) (λka=> ?_)
   ·refine aP Z Z Z Z<|aP Z Z Z Z<|aP Z Z Z Z<|aP Z Z Z Z<|aP Z Z Z Z<|aP Z Z Z Z<|aP Z Z Z Z<|aP Z Z Z Z<|aP Z Z Z Z<|wy (aY Z Z)<|aA ?_;exact⟨SA,λ_ h=>h⟩
   ·refine aC Z Z<|wm Z<|aC Z Z<|wy (gZ Z Z)<|aC Z Z<|wm Z<|aC Z Z<|wm Z<|aC Z Z<|wy (aH ai sz5 Z Z (go.c _))<|aC Z Z<|wy (aX cz Z Z (go.c _))<|aC Z Z<|wa (aF bDy Z (Ct.quiet (λw hw=>aWc (ce.rd _)))) ?_;rintro _ _ ⟨rfl,rfl⟩;refine aC Z Z<|wA Z Z<|aC Z Z<|wy (dV Z Z)<|wy (aR Z Z)<|aA ?_;exact⟨SA,λ_ h=>h⟩
  refine aA<|bJ Z (λkj=> ?_) (λkj=> ?_)
  ·refine wq<|wg Z<|wg Z<|wn Z<|dF ?_;refine⟨_,_,_,Z,Z,Z,?_⟩;exact .inr ⟨aPi ce (by first|exact .inr (.inr (kj.imp id λh=>G))|omega),Z⟩
  ·have vi:sS b (gJ (b.take (e+1))) (e+1):=by
    rw[he] at kj;refine aVk ce he ?_ G;rcases dx e with z|z
    ·exact .inl z
    ·exact .inr λc=>kj (.inl ⟨G,c⟩)
   refine aJ<|aG<|wq<|wm Z<|wm Z<|wA Z Z<|wy (gD ai sz5 Z Z (go.c _))<|wy (aQ ai Z)<|wm Z<|aA<|aI ?_;refine dS (λ(q:Nat) (x:Int)=>[(2, .int .u64 x),(5,I (gQ b)),(39,sl ke (((gQ b)+1).toNat) kh),(40,I ((((gQ b)+1).toNat:Nat):Int)),(41,I (q:Int))]) (λq x=>[]) (λq x=>(q<=e+1)/\(x=gJ (b.take q))) (λq x=>(e+1-q)) ?_ ?_
   ·exact⟨0,0,⟨G,(Z)⟩,SA,λ_ h=>h⟩
   intro q x ⟨hq,hx⟩;refine wq<|wL Z Z<|aA<|aG<|bJ Z (λxi=> ?_) (λxi=> ?_)
   ·have hbq:=ce.rd (q:Int);have b9:rd ((b).take ((gQ b)+1).toNat) (q:Int)=rd b (q:Int):=PE G G;have hstp:=xR (b:=b) (q:=q) G;have hmn:=RD (b:=b) (q:=q+1) (e+1) G G;have hvb:=vi.1.2;have Yf:=tC (b.take q);have Gk:x<2^(7*q):=by rw[hx];exact RF q G
    have Lk:0<=rd b (q:Int)%128*2^(7*q):=zh G (uq G);have Qf:0<=rd b (q:Int)%128*2^(7*q)/\rd b (q:Int)%128*2^(7*q)<18446744073709551616:=⟨Lk,G⟩;refine aJ<|aG<|aI<|wq<|wm Z<|wy (aH ai sz5 Z Z (RdC.toI (h:=((gQ b)+1).toNat) (go.c _) G))<|wy (aX cz Z Z (RdC.toI (h:=((gQ b)+1).toNat) (go.c _) G))<|wg Z<|wn Z<|aM<|wm Z<|wm Z<|wy (aFp Z Z (by rw[b9];exact hbq)) ?_;refine wy (iU cz fo Z)<|wm Z<|wy (Yl.is (gZ Z Z) (show Value.int .i64 (7*(q:Int))=Value.int .i64 ((7*q:Nat):Int) by simp))<|wy (wF (k:=7*q) (m:=2^(7*q)) rfl rfl rfl (by rw[b9];exact Qf) (Nat.ble_eq_true_of_le G)) ?_;refine wy (bCe (p:=(rd ((b).take ((gQ b)+1).toNat) (q:Int))%128) (m:=2^(7*q)) (7*q) Z Z Z (by rw[b9];exact⟨G,G⟩) ⟨G,Gk⟩) ?_;refine wn Z<|aM<|wA Z Z<|wm Z<|aA ?_;exact⟨(q+1),(rd ((b).take ((gQ b)+1).toNat) (q:Int))%128*2^(7*q)+x,⟨G,(by rw[b9,xR G,<-hx])⟩,G,SA,λ_ h=>h⟩
   ·refine aZ<|wq<|wm Z<|wm Z<|wA Z Z<|wg Z<|wg Z<|wn Z<|dF ?_;refine⟨_,_,_,Z,Z,Z,?_⟩;have eq:q=e+1:=G
    subst eq;subst hx;exact .inl ⟨_,e+1,vi,by rw[he];rfl⟩
end Go.Proofs.YtdbebmmhdefgdaaGreat
namespace Go.Pure
open Go Go.Eng
theorem NW: ∀ {a b:List Int},a.length=b.length->(cmpL a b<0↔ ∃d,d<a.length/\(∀e,e<d->lt a e=lt b e)/\lt a d<lt b d)
 |[],[],_=>by simp[cmpL]
 | x::a,y::b,h=>by
  have ih:=NW (a:=a) (b:=b) (by simpa using h);rw[cmpL];rcases ja x y with c|c|c
  ·rw [cu c];exact⟨λ_=>⟨0,cD,λe he=>G,c⟩,λ_=>G⟩
  ·subst c;rw[bu G,bu G,ih];constructor
   ·rintro ⟨d,h1,h2,h3⟩;refine⟨d+1,by simpa using h1,λe he=> ?_,h3⟩;cases e with
    |zero=>rfl
    |succ e=>exact h2 e G
   ·rintro ⟨d,h1,h2,h3⟩;cases d with
    |zero=>exact absurd h3 (by simp[lt])
    |succ d=>exact⟨d,by simpa using h1,λe he=>h2 (e+1) G,h3⟩
  ·rw [bu G,cu c];refine⟨λh=>G,?_⟩;rintro⟨d,h1,h2,h3⟩;cases d with
   |zero=>have:x<y:=h3;omega
   |succ d=>have:x=y:=h2 0 G;omega
section
variable {s:List Int}
def rot (s:List Int) (r d:Nat):Int:=om s (r+d)
def vW (s:List Int) (r:Int):List Int:=s.drop r.toNat++s.take r.toNat
theorem vE (s:List Int) (r:Int):(vW s r).length=s.length:=by unfold vW;rw[ah,bg,ax];omega
theorem nE {r d:Nat} (hr:r<=s.length) (hd:d<s.length):lt (vW s r) d=rot s r d:=by
 unfold vW lt rot om;rw[az];rcases fe (r+d) s.length with g|g
 ·rw[af,je (by rw[bg];omega),qc,lc g,<-af]
 ·rw[af,iy (by rw[bg];omega),bg,ng G,show(r+d)%s.length=d-(s.length-r) by rw[zq g,lc G];omega,<-af]
theorem aDc (r:Nat):Per (rot s r) s.length:=λd=>by
 unfold rot;rw[<-qd];exact uD s _
theorem aTn (r:Nat):rot s (r%s.length)=rot s r:=by
 funext d;unfold rot om;rw[Nat.mod_add_mod]
theorem TD {r q:Nat} (hn:0<s.length) (h: ∀d,d<s.length->rot s r d=rot s q d):rot s r=rot s q:=by
 funext d;rw[<-(aDc r).mod d,<-(aDc q).mod d];exact h _ (yg _ hn)
theorem aMf {r q:Nat} (hr:r<=s.length) (hq:q<=s.length):cmpL (vW s r) (vW s q)<0↔Lt (rot s r) (rot s q):=by
 rw[NW (by rw[vE,vE]),vE];constructor
 ·rintro ⟨d,h1,h2,h3⟩;refine⟨d,λe he=> ?_,?_⟩
  ·rw[<-nE hr G,<-nE hq G];exact h2 e he
  ·rw[<-nE hr h1,<-nE hq h1];exact h3
 ·rintro ⟨d,h2,h3⟩;rcases fe d s.length with g|g
  ·refine ⟨d,g,λe he=> ?_,?_⟩
   ·rw[nE hr G,nE hq G];exact h2 e he
   ·rw[nE hr g,nE hq g];exact h3
  ·exfalso;rcases dx s.length with z|z
   ·have: ∀r d,rot s r d=0:=λr d=>by
     unfold rot om;rw[ed z];rfl
    rw[this,this] at h3;omega
   ·have:=TD z λe he=>h2 e G;rw[this] at h3;omega
structure FL (s:List Int) (b:Nat):Prop where
 lt:b<s.length
 le: ∀r,r<s.length-> ¬Lt (rot s r) (rot s b)
 first: ∀r,r<b->Lt (rot s b) (rot s r)
theorem FL.any {b:Nat} (h:FL s b) (r:Nat): ¬Lt (rot s r) (rot s b):=by
 rw[<-aTn r];exact h.le _ (yg _ (by have:=h.lt;omega))
theorem FL.one {b c:Nat} (h:FL s b) (g:FL s c):b=c:=by
 rcases wo b c with a|a|a
 ·exact absurd (g.first b a) (h.any c)
 ·exact a
 ·exact absurd (h.first c a) (g.any b)
def qA (s:List Int):Nat->Nat
 |0=>0
 |r+1=>if cmpL (vW s r) (vW s (qA s r))<0 then r else qA s r
theorem UI: ∀n:Nat,0<n->n<=s.length->qA s n<n/\(∀r,r<n-> ¬Lt (rot s r) (rot s (qA s n)))/\ ∀r,r<qA s n->Lt (rot s (qA s n)) (rot s r)
 | 1,_,h=>by
  have e:qA s 1=0:=by
   rw[qA,qA];split<;>rfl
  rw[e];exact⟨G,λr hr=>by obtain rfl:r=0:=G;exact λh=>h.asymm h,λr hr=>G⟩
 | n +2,_,h=>by
  have ih:=UI (n+1) G G;rw[qA];split
  ·rename_i c;rw[aMf G G] at c;refine⟨G,λr hr=> ?_,λr hr=> ?_⟩
   ·rcases fe r (n+1) with g|g
    ·exact λaw=>ih.2.1 r g (aw.trans c)
    ·obtain rfl:r=n+1:=G
     exact λh=>h.asymm h
   ·rcases IP (rot s (n+1)) (rot s r) with a|a|a
    ·exact a
    ·exact absurd (by rw[<-funext a];exact c) (ih.2.1 r hr)
    ·exact absurd (a.trans c) (ih.2.1 r hr)
  ·rename_i c;rw[aMf G G] at c;refine⟨G,λr hr=> ?_,ih.2.2⟩;rcases fe r (n+1) with g|g
   ·exact ih.2.1 r g
   ·obtain rfl:r=n+1:=G
    exact c
def qH (s:List Int):Int:=qA s s.length
theorem PR (hn:0<s.length):FL s (qA s s.length):=by
 have h:=UI (s:=s) s.length hn (dh _);exact⟨h.1,h.2.1,h.2.2⟩
theorem aVd (s:List Int):0<=qH s/\qH s<=s.length/\(0<s.length->qH s<s.length):=by
 unfold qH;rcases dx s.length with z|z
 ·rw[z];exact⟨G,by show((0:Nat):Int)<=_;omega,λh=>G⟩
 ·have:=(PR z).lt;omega
structure LA (s:List Int) (b:Nat) (i j k:Int):Prop where
 i0:0<=i
 j0:0<=j
 k0:0<=k
 ne:i≠j
 agr: ∀e:Nat,(e:Int)<k->rot s i.toNat e=rot s j.toNat e
 hb:(b:Int)=i\/(b:Int)=j\/(i<b/\j<b)
theorem LA.init (b:Nat):LA s b 0 1 0:=⟨G,G,G,G,λe he=>G,G⟩
variable {b:Nat} {i j k:Int}
theorem LA.swap (h:LA s b i j k):LA s b j i k:=⟨h.j0,h.i0,h.k0,h.ne.symm,λe he=>(h.agr e he).symm,by have:=h.hb;omega⟩
theorem LA.eq (h:LA s b i j k) (he:rot s i.toNat k.toNat=rot s j.toNat k.toNat):LA s b i j (k+1):=
 ⟨h.i0,h.j0,by have:=h.k0;omega,h.ne,λe he'=>by
  rcases ay e k with g|g
  ·exact h.agr e g
  ·have:=h.k0;obtain rfl:e=k.toNat:=G
   exact he,h.hb⟩
theorem LA.out (h:LA s b i j k) (fl:FL s b) (Ml:rot s j.toNat k.toNat<rot s i.toNat k.toNat): ¬(i<=b/\(b:Int)<=i+k):=λhc=>by
 have i0:=h.i0;have k0:=h.k0;obtain⟨t,ht⟩: ∃t:Nat,b=i.toNat+t:=⟨b-i.toNat,G⟩;refine fl.any (j.toNat+t) ⟨k.toNat-t,λe he=> ?_,?_⟩
 ·have:=h.agr (t+e) G;unfold rot at this ⊢;rw[ht,qd,qd];exact this.symm
 ·unfold rot at Ml ⊢;rw[ht,qd,qd,show t+(k.toNat-t)=k.toNat by omega];exact Ml
theorem LA.gt (h:LA s b i j k) (fl:FL s b) (Ml:rot s j.toNat k.toNat<rot s i.toNat k.toNat):(i+(k+1)≠j->LA s b (i+(k+1)) j 0)/\(i+(k+1)=j->LA s b (i+(k+1)) (j+1) 0):=by
 have ho:=h.out fl Ml;have hb:=h.hb;have i0:=h.i0;have j0:=h.j0;have k0:=h.k0;exact⟨λda=>⟨G,j0,G,da,λe he=>G,G⟩,λhe=>⟨G,G,G,G,λe he=>G,G⟩⟩
theorem LA.lt (h:LA s b i j k) (fl:FL s b) (aw:rot s i.toNat k.toNat<rot s j.toNat k.toNat):(i≠j+(k+1)->LA s b i (j+(k+1)) 0)/\(i=j+(k+1)->LA s b i (j+(k+1)+1) 0):=by
 have ho:=h.swap.out fl aw;have hb:=h.hb;have i0:=h.i0;have j0:=h.j0;have k0:=h.k0;exact⟨λda=>⟨i0,G,G,da,λe he=>G,G⟩,λhe=>⟨G,G,G,G,λe he=>G,G⟩⟩
theorem LA.same (h:LA s b i j k) (fl:FL s b) (hn:(s.length:Int)<=k):min i j=b:=by
 have i0:=h.i0;have j0:=h.j0;have aw:=fl.lt;have he:rot s i.toNat=rot s j.toNat:=TD G λd hd=>h.agr d G;have da:=h.ne;have no: ∀x:Nat,x<b->rot s x≠rot s b:=λx hx e=>(fl.first x hx).not_eq λd=>by rw[e]
 rcases h.hb with e|e|⟨e1,e2⟩
 ·rcases ay j i with g|g
  ·exact absurd (by rw[show b=i.toNat by omega];exact he.symm) (no j.toNat G)
  ·omega
 ·rcases ay i j with g|g
  ·exact absurd (by rw[show b=j.toNat by omega];exact he) (no i.toNat G)
  ·omega
 ·exfalso
  have key: ∀lo hi:Nat,lo<hi->hi<b->rot s lo=rot s hi->False:=λlo hi h1 h2 e=>by
   refine no (lo+(b-hi)) G ?_;funext d;have:=congrFun e ((b-hi)+d);unfold rot at this ⊢;rw[qd,this];congr 1;omega
  rcases ay i j with g|g
  ·exact key i.toNat j.toNat G G he
  ·exact key j.toNat i.toNat G G he.symm
theorem LA.done (h:LA s b i j k) (fl:FL s b) (hc: ¬(i<s.length/\j<s.length/\k<s.length)):min i j=b:=by
 have hb:=h.hb;have aw:=fl.lt;have da:=h.ne;by_cases hk:(s.length:Int)<=k
 ·exact h.same fl hk
 ·omega
theorem aMe {i k:Int} (i0:0<=i) (k0:0<=k):rd s ((i+k)%s.length)=rot s i.toNat k.toNat:=by
 have:=bCt s (i.toNat+k.toNat);rw[show((i.toNat+k.toNat:Nat):Int)=i+k by omega] at this;exact this
end
end Go.Pure
namespace Go.Proofs.YtdbebmmhdefgdaaGreat
open Go Go.Eng Go.Pure
open Tryz
set_option maxRecDepth 100000
variable {u:List Int} {w:World} {ws:List (List Int)}
theorem LA.init0:LA u (qA u u.length) 0 1 0:=LA.init _
set_option maxHeartbeats 800000 in
theorem bBk {ao:Option Addr} {ap an:Nat} (am:Rd w ao ap an 1 (ints .u8 u)) (hN:u.length<=1000000):
  Ct Tryz.prog 190 #[sl ao ap an] w.heap.size w [] (λv R'=>v=I (qH u)):=by
 obtain rfl:=am.lenI;refine fn1 Tryz.func190 Z Z Z ?_;have pd:=am.max;refine wq<|wn Z<|wq<|wm Z<|wy (aQ ai Z)<|wn Z<|wq<|wg Z<|wg Z<|wg Z ?_;refine aA<|aG<|aI ?_;refine fU (λ(i:Int) (j:Int) (k:Int)=>[(0,sl ao u.length an),(3,I ((u.length:Nat):Int)),(4,I i),(5,I j),(6,I k)]) (λi j k=>[]) (λi j k=>(LA u (qA u u.length) i j k)/\(i<=2*u.length+2)/\(j<=2*u.length+3)/\(k<=u.length)/\(u.length=0->i=0/\j=1)) (λi j k=>(3*u.length+3-(i+j+k)).toNat) ?_ ?_
 ·exact⟨0,1,0,⟨(LA.init0),G,G,G,G⟩,SA,λ_ h=>h⟩
 intro i j k ⟨k6,f7,hjb,hkb,hz⟩;have ar:=k6.i0;have yd:=k6.j0;have nb:=k6.k0;refine aG<|wq<|wm Z<|wm Z<|wL Z Z<|wm Z<|dQ 4 [(0,sl ao u.length an),(3,I ((u.length:Nat):Int)),(4,I i),(5,I j),(6,I k),(18, .bool (decide ((i<((u.length:Nat):Int))/\(j<((u.length:Nat):Int)))))] [] ?_ ?_
 ·refine cK 14 Z (λaq=> ?_) (λaq=> ?_)
  ·refine aC Z Z<|wm Z<|aC Z Z<|wm Z<|aC Z Z<|wL Z Z<|wy (aY Z Z)<|aA ?_;exact⟨SA,λ_ h=>h⟩
  ·refine aP Z Z Z Z<|aP Z Z Z Z<|aP Z Z Z Z<|wy (aR Z Z)<|aA ?_;exact⟨SA,λ_ h=>h⟩
 refine wm Z<|dQ 4 [(0,sl ao u.length an),(3,I ((u.length:Nat):Int)),(4,I i),(5,I j),(6,I k),(23, .bool (decide (((i<((u.length:Nat):Int))/\(j<((u.length:Nat):Int)))/\(k<((u.length:Nat):Int)))))] [] ?_ ?_
 ·refine cK 19 Z (λcr=> ?_) (λcr=> ?_)
  ·refine aC Z Z<|wm Z<|aC Z Z<|wm Z<|aC Z Z<|wL Z Z<|wy (aY Z Z)<|aA ?_;exact⟨SA,λ_ h=>h⟩
  ·refine aP Z Z Z Z<|aP Z Z Z Z<|aP Z Z Z Z<|wy (aR Z Z)<|aA ?_;exact⟨SA,λ_ h=>h⟩
 refine aA<|bJ Z (λfd=> ?_) (λfd=> ?_)
 ·have ln:=ym (i+k) (show(u.length:Int)≠0 by omega);have Mr:=wz (i+k) (show(0:Int)<u.length by omega);have Xn:=ym (j+k) (show(u.length:Int)≠0 by omega);have hm4:=wz (j+k) (show(0:Int)<u.length by omega);have fl:=PR (s:=u) G;have ei:=aMe (s:=u) k6.i0 k6.k0;have ej:=aMe (s:=u) k6.j0 k6.k0;refine aJ<|aI<|aG<|bT mixed<|wD 0 Z (aN Z)<|wD 1 Z (aN Z)<|wD 2 Z (aN Z)<|wD 3 Z (dG Z Z)<|wD 4 Z (aN Z)<|wD 5 Z (CE Z Z)<|wD 6 Z (aH ai sz5 Z Z (am.c _))<|wD 7 Z (aX cz Z Z (am.c _))<|wD 8 Z (aN Z)<|wD 9 Z (aN Z)<|wD 10 Z (aN Z) ?_;refine wD 11 Z (dG Z Z)<|wD 12 Z (aN Z)<|wD 13 Z (CE Z Z)<|wD 14 Z (aH ai sz5 Z Z (am.c _))<|wD 15 Z (aX cz Z Z (am.c _))<|wD 16 Z (bP Z)<|wD 17 Z (bP Z)<|wN<|aG<|aI<|wq<|wm Z<|wm Z<|wy (bC Z Z) ?_;refine wn Z<|bJ Z (λka=> ?_) (λka=> ?_)
  ·have ee:=k6.eq (by rw[<-ei,<-ej];exact ka);refine wq<|wm Z<|wA Z Z<|wn Z<|aZ ?_;exact⟨i,j,k+1,⟨(ee),G,G,G,G⟩,G,SA,λ_ h=>h⟩
  ·refine wq<|wm Z<|wm Z<|wy (dV Z Z)<|wn Z<|bJ Z (λkj=> ?_) (λkj=> ?_)
   ·have ee:=k6.gt fl (by rw[<-ei,<-ej];exact kj);refine aM<|wm Z<|wm Z<|wA Z Z<|wA Z Z<|wn Z<|wq<|wn Z<|wq<|wm Z<|wm Z ?_;refine wy (bC Z Z)<|aA<|bJ Z (λxi=> ?_) (λxi=> ?_)
    ·refine aM<|wm Z<|wA Z Z<|wn Z ?_;exact⟨i+(k+1),j+1,0,⟨(ee.2 G),G,G,G,G⟩,G,SA,λ_ h=>h⟩
    ·refine aJ ?_;exact⟨i+(k+1),j,0,⟨(ee.1 G),G,G,G,G⟩,G,SA,λ_ h=>h⟩
   ·have ee:=k6.lt fl (by rw[<-ei,<-ej];omega);refine aM<|wm Z<|wm Z<|wA Z Z<|wA Z Z<|wn Z<|wq<|wn Z<|wq<|wm Z<|wm Z ?_;refine wy (bC Z Z)<|aA<|bJ Z (λDd=> ?_) (λDd=> ?_)
    ·refine aM<|wm Z<|wA Z Z<|wn Z ?_;exact⟨i,(j+(k+1))+1,0,⟨(ee.2 G),G,G,G,G⟩,G,SA,λ_ h=>h⟩
    ·refine aJ ?_;exact⟨i,j+(k+1),0,⟨(ee.1 G),G,G,G,G⟩,G,SA,λ_ h=>h⟩
 ·refine aZ<|wq<|wm Z<|wm Z<|wy (vV Z Z)<|wn Z<|dF ?_;refine⟨_,Z,?_⟩;rcases dx u.length with z|z
  ·obtain ⟨rfl,rfl⟩:=hz z;have e:qH u=0:=by unfold qH;rw[z];rfl
   rw[e];rfl
  ·exact bz (Value.int .i64) (k6.done (PR z) G)
theorem aPh {m:Int} (h0:0<=m) (hN:m<=1000000):
  Ct Tryz.prog 70 #[sl none 0 0,I m] w.heap.size w [] (λv R'=> ∃A c,v=sl A 0 c/\R'=[(ru 5 A 0 c ([]))]):=by
 refine fn1 Tryz.func70 Z Z Z ?_;refine wq<|dH (R1:=[(ru 5 none 0 0 ([]))]) (Sub.refl _) (λ_ h=>h.nil 5 1)<|wn Z<|aG<|wq<|wm Z<|wy (Yl.f (eO Z Z))<|aA<|aL Z<|aJ<|aG<|aG ?_;refine aM<|wm Z<|wm Z<|wy (aXe ai Z)<|wm Z<|wy (aQ ai Z)<|wS Z Z<|wS Z Z<|wn Z<|wq<|wm Z<|wy (dV Z Z)<|aA ?_;refine bJ Z (λaq=> ?_) (λaq=> ?_)
 ·refine aM<|wm Z<|wm Z<|wy (aXe ai Z)<|wy (QX ai sz5 Z Z)<|wy (Yl.is (aN Z) (by rw[show m-(((0:Nat):Int)-((0:Nat):Int))=((m.toNat:Nat):Int) by omega])) ?_;refine wa (aWt ai ak zb5 Z Z Z G G G) ?_;rintro _ _ ⟨al,br,rfl,rfl⟩;refine dH (R1:=[(ru 5 (GG al) 0 br ([])),(ru 5 none 0 0 ([]))]) (Sub.refl _) (λ_ h=>h.cut (k:=0) (uh _) cD) ?_;refine wm Z<|wy (aQ ai Z)<|wy (QX ai sz5 Z Z)<|wn Z<|wq<|wm Z<|wn Z<|aT [0] 99 cC Z ?_;refine⟨_,Z,?_⟩;exact⟨_,_,Z,Z⟩
 ·refine aJ<|wq<|wm Z<|wn Z<|aT [0] 99 cC Z ?_;refine⟨_,Z,?_⟩;exact⟨_,_,Z,Z⟩
theorem ER (i:Nat):((ws.take i).flatten).length<=ws.flatten.length:=by
 conv=>rhs;rw[<-gq i ws]
 rw[ow,ah];omega
set_option maxHeartbeats 800000 in
theorem jL {gl:Option Addr} {mc gn:Nat} {ef:List Value} (jp:Rd w gl mc gn 1 ef) (nh:SlW .u8 w ef ws) (hN:ws.flatten.length<=1000000/\ws.length<=1000000):
  Ct Tryz.prog 38 #[sl gl mc gn] w.heap.size w [] (λv R'=> ∃A c,v=sl A (ws.flatten).length c/\R'=[(ru 5 A ((ws.flatten).length) c (ws.flatten))]):=by
 obtain rfl:mc=ws.length:=by have:=jp.len;have:=nh.1;omega
 refine fn1 Tryz.func38 Z Z Z ?_;have Lz:=jp.max;refine wq<|wn Z<|wq<|wn Z<|aG<|wq<|wm Z<|wy (aQ gp Z)<|wm Z<|aA ?_;refine aI ?_;refine dS (λ(i:Int) (z:Int)=>[(0,sl gl ws.length gn),(3,I z),(9,sl gl ws.length gn),(10,I ((ws.length:Nat):Int)),(11,I i)]) (λi z=>[]) (λi z=>(0<=i)/\(i<=ws.length)/\(z=((ws.take i.toNat).flatten.length:Int))) (λi z=>(ws.length-i).toNat) ?_ ?_
 ·exact⟨0,0,⟨G,G,(Z)⟩,SA,λ_ h=>h⟩
 intro i z ⟨ar,ia,hz⟩;have qk:=ER (ws:=ws) i.toNat;refine wq<|wL Z Z<|aA<|aG<|bJ Z (λaq=> ?_) (λaq=> ?_)
 ·have Kx:=ER (ws:=ws) (i+1).toNat;rw[iM ar G,ah] at Kx;refine aJ<|aG<|aI<|wq<|wy (aH gp dO Z Z (jp.c _)) ?_;refine nh.elim (i:=i) G G (λbx br Ly Py Ok Qn=> ?_);refine wy (AB ai Z Z Z (jp.c _) Ly)<|wn Z<|wq<|wm Z<|wm Z<|wy (aQ ai Z)<|wA Z Z<|wn Z<|wq<|wm Z<|wy (Yl.f (eO Z Z)) ?_;refine aA<|aL Z<|aJ<|aM<|wA Z Z<|wm Z<|aA ?_;exact⟨i+1,z+(((rdl ws i).length:Nat):Int),⟨G,G,(by rw[iM ar G,ah,hz];omega)⟩,G,SA,λ_ h=>h⟩
 ·refine aZ<|wq<|wm Z<|wa (aF bGp Z (Ct.fresh (λw hw=>aPh G G))) ?_;rintro _ _ ⟨_,rfl,fk,nv,rfl,rfl⟩;refine wn Z<|aG<|wq<|wm Z<|wy (aQ gp Z)<|wm Z<|aA<|aI ?_;refine jN (λ(q:Int) (A1:Option Addr) (n1:Nat) (c1:Nat) (acc:List Int)=>[(6,sl A1 n1 c1),(25,sl gl ws.length gn),(26,I ((ws.length:Nat):Int)),(27,I q)]) (λq A1 n1 c1 acc=>[(ru 5 A1 n1 c1 acc)]) (λq A1 n1 c1 acc=>(0<=q)/\(q<=ws.length)/\(n1=acc.length)/\(acc=(ws.take q.toNat).flatten)) (λq A1 n1 c1 acc=>(ws.length-q).toNat) ?_ ?_
  ·exact⟨0,fk,0,nv,[],⟨G,G,(Z),(Z)⟩,SA,λ_ h=>h⟩
  intro q A1 n1 c1 acc ⟨gv,f9,dd,bb⟩;have wb:acc.length<=ws.flatten.length:=by rw[bb];exact ER _
  refine wq<|wL Z Z<|aA<|aG<|bJ Z (λcr=> ?_) (λcr=> ?_)
  ·have Kx:=ER (ws:=ws) (q+1).toNat;rw[iM gv G,ah] at Kx;refine aJ<|aG<|aI<|wq<|wy (aH gp dO Z Z (jp.c _)) ?_;refine nh.elim (i:=q) G G (λgw kf Qi Pu Wt Vx=> ?_);refine wy (AB ai Z Z Z (jp.c _) Qi)<|wn Z<|aM<|wm Z<|wm Z<|wa (bE 0 Z ai zb5 Z Z Z (Pu.c _)) ?_;rintro _ _ ⟨fz,ge,rfl,rfl⟩;refine bN (v:=sl fz (n1+((rdl ws q).length)) ge) Z<|wn Z<|aM<|wA Z Z<|wm Z<|aA ?_;exact⟨q+1,fz,n1+((rdl ws q).length),ge,acc++(rdl ws q),⟨G,G,(by rw[ah,dd]),(by rw[iM gv G,bb])⟩,G,SA,λ_ h=>h⟩
  ·refine aZ<|wq<|wm Z<|wn Z<|aT [0] 99 cC Z ?_;refine⟨_,Z,?_⟩;rw[bn G] at bb;subst bb;obtain rfl:=dd;exact⟨_,_,Z,Z⟩
end Go.Proofs.YtdbebmmhdefgdaaGreat
namespace Go.Eng
open Go Go.RowKit Go.Proofs Go.Sort
theorem UU {W w':World} (hb:Below W.heap.size W w') (hd:W.drawn<=w'.drawn): ∃q os,w'=grow (W.drewN q) os:=by
 refine⟨w'.drawn-W.drawn,w'.heap.extract W.heap.size w'.heap.size,?_⟩
 have hh:W.heap++w'.heap.extract W.heap.size w'.heap.size=w'.heap:=by
  apply Array.ext_getElem?;intro k;rw[Ah];split
  ·rename_i hk;exact(hb.block k hk).symm
  ·rename_i hk;have:=hb.size;rw[Array.getElem?_extract];split
   ·congr 1;omega
   ·rename_i h2;rw[Ci G]
 obtain⟨h1,h2,h3,h4,h5⟩:=w';obtain⟨g1,g2,g3,g4,g5⟩:=W;have b1:=hb.os;have b2:=hb.tape;have b3:=hb.output;simp only at b1 b2 b3 hh hd;subst b1;subst b2;subst b3;simp only[grow,World.drewN,hh,World.mk.injEq,zm,Aa];omega
section
variable {P:Program} {B:Nat} {w0:World} {R:List Row}
def aFm (P:Program) (f g:Nat) (cb:Array Value):Prop:=
 ∀(α:Type) [Inhabited α] (enc:α->List Value) (_: ∀x,(enc x).length=2) (_: ∀x,∀v∈enc x,v.oneCell'=true) (cf:α->α->Int) (_:SWO (ltOf cf)) (dr off cap:Nat) (d:Array α) (w:World)
  (_:CmpLays P g cb enc 2 cf dr off d.size w) (_:HoldsK enc 2 w dr off d) (_:dr<w.heap.size) (_:d.size<4611686018427387904),
  Calls P f #[.slice (some ⟨dr,off,none⟩) d.size cap, .func (.func g) #[] cb] w λe w'=>e= .returned (.tuple #[])/\ ∃d' n os,PermIn 0 d.size d d'/\SortedIn (ltOf cf) 0 d.size d'/\w'=sortWorldK enc 2 w dr off n d' os
theorem Hp.but {w W:World} (h:Hp B w0 w R) {i:Nat} {r:Row} (hi:R[i]? =some r) (ho:W.os=w.os) (ht:W.tape=w.tape) (hu:W.output=w.output) (hd:w.drawn<=W.drawn) (hs:w.heap.size<=W.heap.size)
  (hk: ∀k,k<w.heap.size->(∀a,r.A=some a->a.block≠k)->W.heap[k]? =w.heap[k]?):Hp B w0 W (R.eraseIdx i):=by
 have hr:r∈R:=ek hi;refine⟨⟨ho.trans h.below.os,ht.trans h.below.tape,hu.trans h.below.output,sw h.below.size hs,λk Xj=> ?_⟩,sw h.base hs,λq hq=> ?_,h.apart.sublist (List.eraseIdx_sublist _ _),h.late.trans ⟨hd,λk o kx hc=> ?_⟩⟩
 ·rw[hk k (Nat.lt_of_lt_of_le Xj h.base) (λa ha=>by have:=(Row.lies_lt (h.own r hr) a ha).1;omega),h.below.block k Xj]
 ·obtain ⟨j,hj⟩:=List.mem_iff_getElem?.1 hq
  obtain⟨j',sn,da⟩: ∃j',R[j']? =some q/\j'≠i:=by
   rw[List.getElem?_eraseIdx] at hj;split at hj
   ·exact⟨j,hj,G⟩
   ·exact⟨j+1,hj,G⟩
  refine Row.lies_of_block (h.own q (ek sn)) λa ha=>hk a.block (Row.lies_lt (h.own q (ek sn)) a ha).2 λa' ki=> ?_;have b8:=(dn.1 sn).1;have Pa:=(dn.1 sn).2;have Ub:=(dn.1 hi).1;have wd:=(dn.1 hi).2;rcases Bv da with aw|aw
  ·have:=di.1 h.apart j' i b8 Ub aw;rw[Pa,wd] at this;exact λe=>this a a' ha ki e.symm
  ·have:=di.1 h.apart i j' Ub b8 aw;rw[Pa,wd] at this;exact this a' a ki ha
 ·rw [hk k (dz.1 kx).1 λa ha e=> ?_]
  ·exact kx
  ·subst e;obtain⟨cs,e',fr,cr⟩:=Row.lies_cells (h.own r hr) ha;rw[cr] at kx;cases kx;cases hc
theorem YL {f g:Nat} {cb:Array Value} (Tf:aFm P f g cb) {T m c:Nat} {A:Option Addr} {l:List (Int × Int)} (i:Nat) (hi:R[i]? =some ⟨T,2,A,m,c,prs l,false⟩) (da:l≠[]) (hsz:l.length<4611686018427387904) (cmp:Int × Int->Int × Int->Int) (hO:SWO (ltOf cmp))
  (Kr: ∀W,Hp B w0 W (R.eraseIdx i)-> ∀x∈l,∀y∈l,
   Ct P g (#[.agg #[.int .i64 x.1, .int .i64 x.2], .agg #[.int .i64 y.1, .int .i64 y.2]]++cb) W.heap.size W [] (λv _=>v= .int .i64 (cmp x y))):
  Ct P f #[.slice A m c, .func (.func g) #[] cb] B w0 R (λv R'=>v= .tuple #[]/\ ∃l',l'.Perm l/\l'.Pairwise (λx y=> ¬cmp y x<0)/\R'=R.set i ⟨T,2,A,m,c,prs l',false⟩):=by
 intro w hw;have du:=Row.lies_w (hw.own _ (ek hi)) rfl;have ie:=Row.rd (hw.own _ (ek hi))
 have hm:m=l.length:=by
  have:=ie.len;rw[kS] at this;simp only at this;omega
 have db:0<l.length:=List.length_pos_iff.2 da;rcases du.2 with⟨_,hn⟩|⟨dr,cap,cur,hv,hb,hg,hnc,pj,hcs,ht⟩
 ·simp only at hn;omega
 simp only[jq,zm] at hv;obtain⟨rfl,rfl⟩:=hv;simp only at ht hcs hg hnc
 haveI:Inhabited {p:Int × Int//p∈l}:=⟨⟨l[0],kz _⟩⟩
 let d:Array {p:Int × Int//p∈l}:=l.attach.toArray
 have vf:d.size=l.length:=by simp[d]
 have Ot:d.toList.map Subtype.val=l:=El l;have aw:dr<w.heap.size:=(dz.1 hg).1
 have hH:HoldsK encP 2 w dr 0 d:=by
  intro j hj
  have sn:j<l.length*2:=by
   have:j<(flatK encP 2 d).size:=hj;rw[size_flatK,vf] at this;exact this
  have hf:=NL d;rw[Ot] at hf
  have e:(prs l)[j]? =some ((flatK encP 2 d)[j]!):=by
   rw[<-hf,qh,oq hj,tq _ j hj]
  refine⟨?_,?_⟩
  ·rw [ni];exact hw.cellAt i hi rfl e
  ·exact hw.openAt i (0+j) hi rfl rfl
 have te:CmpLays P g cb (encP (l:=l)) 2 (λx y=>cmp x.1 y.1) dr 0 d.size w:=by
  intro m' os dk Os x y
  have hW:w.heap.size<=(sortWorldK (encP (l:=l)) 2 w dr 0 m' dk os).heap.size:=by
   unfold sortWorldK;rw[size_grow];unfold putRowK;rw[Go.Sort.size_putRow];exact Bb _ _
  have hk: ∀k,k<w.heap.size->(∀a:Addr,some (⟨dr,0,none⟩:Addr)=some a->a.block≠k)->(sortWorldK (encP (l:=l)) 2 w dr 0 m' dk os).heap[k]? =w.heap[k]? :=by
   intro k hk da;have s8:dr≠k:=da _ rfl;unfold sortWorldK;rw[heap_grow_old _ _ (by unfold putRowK;rw[Go.Sort.size_putRow];exact hk)];simp[putRowK,putRow,mapBlock,uo,s8,Sort.ahead]
  refine(Kr _ (hw.but (W:=sortWorldK (encP (l:=l)) 2 w dr 0 m' dk os) hi rfl rfl rfl (by show w.drawn<=w.drawn+m';omega) hW hk) x.1 x.2 y.1 y.2 _ (Hp.refl _)).mono ?_;rintro e w' ⟨v,R',rfl,hh,rfl⟩;exact⟨rfl,UU hh.below hh.late.1⟩
 have Tc:SWO (ltOf λ(x y: {p:Int × Int//p∈l})=>cmp x.1 y.1):=⟨λx=>hO.irrefl x.1,λx y z=>hO.trans x.1 y.1 z.1,λx y z=>hO.ntrans x.1 y.1 z.1⟩;have vd:=Tf _ encP (λ_=>rfl) (λx v hv=>by simp[encP] at hv;rcases hv with rfl|rfl<;>rfl) _ Tc dr 0 c d w te hH aw (by rw[vf];exact hsz);rw[vf,<-hm] at vd;refine vd.mono ?_;rintro e w' ⟨rfl,d',n,os,⟨dg,_,oy⟩,o5,rfl⟩;have l5:d'.size=l.length:=by rw[dg,vf]
 refine⟨_,_,rfl,?_,rfl,d'.toList.map Subtype.val,?_,?_,rfl⟩
 ·have l9:(sortWorldK encP 2 w dr 0 n d' os).heap[dr]? =some (.cells (putCells id 0 (flatK encP 2 d') cur) T (0,0)):=by
   unfold sortWorldK;rw[heap_grow_old _ _ (by unfold putRowK;rw[Go.Sort.size_putRow];exact aw)];simp[putRowK,putRow,mapBlock,uo,Sort.ahead,hg,onCells]
  refine hw.upd hi (row:=some dr) ⟨rfl,rfl,rfl,?_,λk hk da=> ?_⟩ ?_ (λk hk=> ?_) ?_ (λa' ki=> .inl ⟨a',ki,rfl⟩)
  ·unfold sortWorldK;rw[size_grow];unfold putRowK;rw[Go.Sort.size_putRow];exact Bb _ _
  ·have s8:dr≠k:=λe=>da (by rw[e]);unfold sortWorldK;rw[heap_grow_old _ _ (by unfold putRowK;rw[Go.Sort.size_putRow];exact hk)];simp[putRowK,putRow,mapBlock,uo,s8,Sort.ahead]
  ·show w.drawn<=w.drawn+n;omega
  ·obtain rfl:=iw hk;exact⟨_,rfl,rfl⟩
  ·unfold Row.lies;simp only;refine⟨by rw[kS,bi,jl,l5,hm], .inr ⟨dr,c,_,rfl,hb,l9,hnc,pj,?_,?_⟩⟩
   ·simp only[putCells,Array.size_mapIdx];exact hcs
   ·have hf:=NL d';rw[<-hf];have In:(flatK encP 2 d').size=m*2:=by rw[size_flatK,l5,hm]
    apply su;intro t;rw[oh];split
    ·rename_i u7
     have Sa:t<cur.size:=by
      have:m*2<=c*2:=ug _ hnc;omega
     rw[qh,qh,oq (by simp[putCells];exact Sa),oq (by rw[In];exact u7)];simp only[putCells,Array.getElem_mapIdx,id];rw[cu ⟨uh _,by rw[ni,In];exact u7⟩,yc,tq _ t (by rw[In];exact u7)]
    ·rename_i u7;rw[ll (by rw[jl,In];omega)]
 ·have e1:(d'.extract 0 m).toList=d'.toList:=by rw[show m=d'.size by omega];simp
  have e2:(d.extract 0 m).toList=d.toList:=by rw[show m=d.size by omega];simp
  rw[e1,e2] at oy;have:=oy.map Subtype.val;rwa[Ot] at this
 ·refine ik.2 (di.2 λa b ha Hn sd=> ?_);rw[jl] at ha Hn;have h1:=o5 a b (uh _) sd G;rw[tq d' a ha,tq d' b Hn] at h1;simp only[ltOf,uf] at h1;simpa using h1
end
end Go.Eng
namespace Go.Eng
open Go Go.RowKit
section
variable {B:Nat} {w0 w w':World} {R R':List Row}
theorem Hp.allocObj (h:Hp B w0 w R) (o:Obj):Hp B w0 (w.alloc o) R:=
 h.join (Rn:=[]) ⟨(Es _ _).alloc (dh _) _,cD,λ_ hr=>(by cases hr), .nil,Late.alloc _ _⟩
theorem Hp.putObj (h:Hp B w0 w R) {l:Nat} {o:Obj} (ho:w.heap[l]? =some o) (hn:UE o=true) (o':Obj) (hB:B<=l) (h0:w0.heap.size<=l):Hp B w0 (w.putObj l o') R:=by
 refine⟨h.below.trans ((Es _ _).grown (grownBy_putObj' w l o') h.base λk e=>by cases e;exact hB),by rw[World.putObj_size];exact h.base,λr hr=> ?_,h.apart,⟨h.late.1,λk q hk hc=> ?_⟩⟩
 ·refine Row.lies_of_block (h.own r hr) λa ha=>World.putObj_heap_other λe=> ?_;obtain⟨cs,e',fr,hc⟩:=Row.lies_cells (h.own r hr) ha;rw[e,ho] at hc;cases hc;cases hn
 ·rw [World.putObj_heap_other (λe=>by have:=(dz.1 hk).1;omega)];exact h.late.2 k q hk hc
theorem Hp.rebase (h:Hp B w0 w R):Hp B w w R:=⟨Es _ _,h.base,h.own,h.apart,Late.refl _⟩
theorem Hp.comp (h:Hp B w0 w R) (h':Hp B w w' R'):Hp B w0 w' R':=⟨h.below.trans h'.below,h'.base,h'.own,h'.apart,h.late.trans h'.late⟩
theorem Rd.cb {W:World} {A:Option Addr} {n c sz:Nat} {xs:List Value} (h:Rd w A n c sz xs) (hb:Below w.heap.size w W) (R:List Row):RdC w.heap.size W R A n c sz xs:=
 λ_ hw=>h.below (hb.trans hw.below)
end
def mark (D:Nat):Deferred:= {target:= .collected D,args:= #[]}
section
variable {P:Program} {n:Nd} {B:Nat} {w0 w00:World} {F:Exit->Act->World->Prop} {L:Env} {R:List Row}
def V (P:Program) (n:Nd) (B:Nat) (w0:World) (c:Code) (F:Exit->Act->World->Prop) (L:Env) (R:List Row):Prop:=
 ∀a w,Sat n L a->Hp B w0 w R->c.wpIn (NF n.rd) 0 P F a w
def FQ (F:Exit->Act->World->Prop) (n:Nd) (B:Nat) (w0:World):eH:=
 ⟨λL R=> ∀a w,Sat n L a->Hp B w0 w R->F .normal a w,λL R=> ∀a w,Sat n L a->Hp B w0 w R->F .ret a w,λi L R=> ∀a w,Sat n L a->Hp B w0 w R->F (.exit i) a w⟩
theorem v_w {c:Code} (h:W P n B w0 c (FQ F n B w0) L R):V P n B w0 c F L R:=λa w hs hp=>by
 refine Ag (h a w hs hp) λe a' w' hq=> ?_;cases e with
 |normal=>obtain⟨L',R',dg,bw,hf⟩:=hq;exact hf a' w' dg bw
 |ret=>obtain⟨L',R',dg,bw,hf⟩:=hq;exact hf a' w' dg bw
 |exit i=>obtain⟨L',R',dg,bw,hf⟩:=hq;exact hf a' w' dg bw
 |goto l=>exact hq.elim
 |panic ch=>exact hq.elim
 |outgrown=>exact hq.elim
theorem fP {x y:Code} (h:W P n B w0 x {FQ F n B w0 with nrm:=λL R=>V P n B w0 y F L R} L R):V P n B w0 (.seq x y) F L R:=λa w hs hp=>by
 refine wpIn_seq (Ag (h a w hs hp) λe a' w' hq=> ?_);cases e with
 |normal=>obtain⟨L',R',dg,bw,hf⟩:=hq;exact hf a' w' dg bw
 |ret=>obtain⟨L',R',dg,bw,hf⟩:=hq;exact hf a' w' dg bw
 |exit i=>obtain⟨L',R',dg,bw,hf⟩:=hq;exact hf a' w' dg bw
 |goto l=>exact hq.elim
 |panic ch=>exact hq.elim
 |outgrown=>exact hq.elim
theorem aCn {x y:Code} (h:V P n B w0 x (Exit.then (y.wpIn (NF n.rd) 0 P F) F) L R):V P n B w0 (.seq x y) F L R:=λa w hs hp=>wpIn_seq (h a w hs hp)
def VN (n:Nd) (B:Nat) (w0:World) (F:Exit->Act->World->Prop) (L:Env) (R:List Row):Prop:= ∀a w,Sat n L a->Hp B w0 w R->F .normal a w
theorem aSp {y:Code} {rd:Option Nat} (h:V P n B w0 y F L R) (ie:n.rd=rd:=by exact rfl):VN n B w0 (Exit.then (y.wpIn (NF rd) 0 P F) F) L R:=λa w hs hp=>by subst ie;exact h a w hs hp
theorem aCp {id:Nat} (h:VN n B w0 F L R):VN n B w0 (Exit.inBlock id F) L R:=h
theorem EC {id:Nat} {c:Code} (h:V P n B w0 c (Exit.inBlock id F) L R):V P n B w0 (.block id c) F L R:=λa w hs hp=>wpIn_block (h a w hs hp)
def prm:List Nat->List Value->Env->Env
 |p::ps,v::vs,L=>prm ps vs ((p,v)::L)
 |_,_,L=>L
theorem Sat.prm: ∀(pl:List Nat) (vs:List Value) {m:Nat} {ds:List Deferred} {rd:Option Nat} {L:Env} {t:Array Value},pl.all (λp=>Nat.blt p m)=true->Sat ⟨m,ds,rd⟩ L {tmps:=t,defers:=ds}->
  Sat ⟨m,ds,rd⟩ (prm pl vs L) {tmps:=(pl.zip vs).foldl (λt (p,v)=>t.setIfInBounds p v) t,defers:=ds}
 |[],_,_,_,_,_,_,_,h=>h
 |_::_,[],_,_,_,_,_,_,h=>h
 |p::pl,v::vs,m,ds,rd,L,t,hp,h=>by
  simp only[Gq,qj] at hp;have h1:Sat ⟨m,ds,rd⟩ ((p,v)::L) {tmps:=t.setIfInBounds p v,defers:=ds}:=h.put (d:=p) hp.1 v;exact Sat.prm pl vs hp.2 h1
def Iter (P:Program) (gf:Nat) (lb:Array Value) (ns:World->Prop) (N:Nat) (f:Nat->List Value):Prop:=
 ∀(l:Nat) (J:Nat->World->Prop) (W:World),(∀k W,J k W->ns W)->(∀k W (d:Nat),J k W->W.drawn<=d->J k {W with drawn:=d})->
  (∀k W,k<N->J k W->YieldAt Fence.wide 0 P l (f k).toArray W λe W'=>e= .returned (.bool true)/\J (k+1) W')->
  J 0 W->CallsIn Fence.wide 0 P gf (#[.func (.yield l) #[] #[]]++lb) W λe W'=>(∃v,e= .returned v)/\J N W'
structure Gd (B:Nat) (w00:World) (n:Nd) (w0:World):Prop where
 below:Below B w00 w0
 late:Late w00 w0
 nodup:n.ds.Nodup
 marks: ∀d∈n.ds,∃D,d=mark D/\B<=D/\w00.heap.size<=D/\w0.heap[D]? =some (.deferred (some []))
theorem Gd.refl {m:Nat}:Gd B w00 (m:Nd) w00:=⟨Es _ _,Late.refl _, .nil,λ_ h=>(by cases h)⟩
theorem rounds {σ:Type} {m:Nat} {pl:List Nat} {assign body:Code} {gf:Nat} {lb:Array Value} {ns:World->Prop} {N:Nat} {f:Nat->List Value} (it:Iter P gf lb ns N f)
  (qs:pl.all (λp=>Nat.blt p m)=true) (qk: ∀k,(f k).length=pl.length) (Rx:Nat->σ->List Row) (J:Nat->σ->Prop) (mu: ∀k s w,J k s->Hp B w0 w (Rx k s)->ns w)
  (round: ∀l k s W2,k<N->J k s->Below B w0 W2->W P ⟨m,[],some l⟩ B W2 assign ⟨λL' R'=> ∀W3,Below B w0 W3->W P ⟨m,[],some l⟩ B W3 body ⟨λ_ rr=> ∃s',J (k+1) s'/\ ∀W4 w,Hp B W4 w rr->Hp B W4 w (Rx (k+1) s'),λ_ _=>False,λ_ _ _=>False⟩ L' R',λ_ _=>False,λ_ _ _=>False⟩ (prm pl (f k) L) (Rx k s))
  {l:Nat} {rec:LoopState->Loop} {fn:FuncId} {t:Array Value} {Df:Nat} (gi:rec=λst=> {state:=st,pending:=none,fn,tmps:=t,params:=pl.toArray,assign,body,defers:=Df}) (ht:Sat ⟨m,[],some l⟩ L {tmps:=t,defers:=[]}) (Pc:B<=l) (m5:w0.heap.size<=l) (X:World->Prop)
  (hX: ∀W W' R R',X W->Hp B w0 W R->Hp B W W' R'->X W') (Oe: ∀W o,X W->X (W.putObj l o)) {W1:World} (k5:W1.heap[l]? =some (.loop (rec .ready))) (Th:X W1) {s0:σ} (k4:J 0 s0) (py:Hp B w0 W1 (Rx 0 s0)):
  CallsIn Fence.wide 0 P gf (#[.func (.yield l) #[] #[]]++lb) W1 λe W'=>(∃v,e= .returned v)/\ ∃s,J N s/\Hp B w0 W' (Rx N s)/\W'.heap[l]? =some (.loop (rec .ready))/\X W':=by
 refine it l (λk W=> ∃s,J k s/\Hp B w0 W (Rx k s)/\W.heap[l]? =some (.loop (rec .ready))/\X W) W1 (λk W ⟨s,hJ,hp,_⟩=>mu k s W hJ hp) (λk W d ⟨s,hJ,hp,hl,hx⟩ hd=>⟨s,hJ,hp.drawn d hd,hl,hX _ _ _ _ hx hp (hp.rebase.drawn d hd)⟩) ?_ ⟨s0,k4,py,k5,Th⟩;rintro k W hk ⟨s,hJ,hp,hl,hx⟩;have hy:=run_yield (P:=P) (args:=(f k).toArray) hl (by rw[gi];simp[qk k])
 have un:Sat ⟨m,[],some l⟩ (prm pl (f k) L) {tmps:=(rec .ready).params.zip (f k).toArray|>.foldl (λt (p,v)=>t.setIfInBounds p v) (rec .ready).tmps,defers:=[]}:=by
  rw[gi];simpa using Sat.prm pl (f k) qs ht
 refine⟨fn,_,assign,body,by rw[hy,gi],roundIn_of_wpIn trivial ?_⟩;refine Ag ((round l k s W hk hJ hp.below) _ _ (by rw[gi] at un;exact un) hp.rebase) ?_;rintro e a1 Wa hq;cases e with
 | normal=>
  obtain⟨L',R',dg,bw,hb⟩:=hq;have m7:=bw.late.2 _ _ hl rfl;have ue:=hp.comp bw;have aw:=(dz.1 m7).1;have Tq:=run_beginRound (P:=P) m7 (by rw[gi]);refine⟨_,Tq,?_⟩;have lz:Hp B w0 (Wa.putObj l (.loop {rec .ready with state:= .busy})) R':=ue.putObj m7 rfl _ Pc m5;have po:(Wa.putObj l (.loop {rec .ready with state:= .busy})).heap[l]? =some (.loop {rec .ready with state:= .busy}):=World.putObj_heap_same aw;have Vo:=Oe _ (.loop {rec .ready with state:= .busy}) (hX _ _ _ _ hx hp bw);refine Ag (hb _ lz.below a1 _ dg lz.rebase) ?_;rintro e a3 W3 hq;cases e with
  | normal=>
   obtain⟨L3,R3,_,se,s',Sv,Hi⟩:=hq;have wi:=se.late.2 _ _ po rfl;have Tv:=run_endRound (P:=P) none wi;refine⟨_,_,Tv,rfl,s',Sv,?_,?_,?_⟩
   ·exact(lz.comp (Hi _ _ se)).putObj wi rfl _ Pc m5
   ·rw [World.putObj_heap_same (dz.1 wi).1,gi];rfl
   ·exact Oe _ _ (hX _ _ _ _ Vo lz se)
  |ret=>obtain⟨_,_,_,_,h⟩:=hq;exact h.elim
  |exit id=>obtain⟨_,_,_,_,h⟩:=hq;exact h.elim
  |goto t=>exact hq.elim
  |panic ch=>exact hq.elim
  |outgrown=>exact hq.elim
 |ret=>obtain⟨_,_,_,_,h⟩:=hq;exact h.elim
 |exit id=>obtain⟨_,_,_,_,h⟩:=hq;exact h.elim
 |goto t=>exact hq.elim
 |panic ch=>exact hq.elim
 |outgrown=>exact hq.elim
theorem aCo {σ:Type} {m:Nat} {ds:List Deferred} {g:Operand} {pl:List Nat} {assign body:Code} {gf:Nat} {lb:Array Value} {ns:World->Prop} {N:Nat} {f:Nat->List Value} (hg:ev L g=some (.func (.func gf) #[] lb))
  (ya: ∀args w,(callFunc gf args).run P w= .ok (.enter gf args) w) (it:Iter P gf lb ns N f)
  (qs:pl.all (λp=>Nat.blt p m)=true) (qk: ∀k,(f k).length=pl.length) (hG:Gd B w00 ⟨m,ds,none⟩ w0) (Rx:Nat->σ->List Row) (J:Nat->σ->Prop) (h0: ∃s,J 0 s/\ ∀w,Hp B w0 w R->Hp B w0 w (Rx 0 s)) (mu: ∀k s w,J k s->Hp B w0 w (Rx k s)->ns w)
  (round: ∀l k s W2,k<N->J k s->Below B w0 W2->W P ⟨m,[],some l⟩ B W2 assign ⟨λL' R'=> ∀W3,Below B w0 W3->W P ⟨m,[],some l⟩ B W3 body ⟨λ_ rr=> ∃s',J (k+1) s'/\ ∀W4 w,Hp B W4 w rr->Hp B W4 w (Rx (k+1) s'),λ_ _=>False,λ_ _ _=>False⟩ L' R',λ_ _=>False,λ_ _ _=>False⟩ (prm pl (f k) L) (Rx k s))
  (after: ∀W5 D s,J N s->Below B w0 W5->Gd B w00 ⟨m,mark D::ds,none⟩ W5->VN ⟨m,mark D::ds,none⟩ B W5 F L (Rx N s)):
  V P ⟨m,ds,none⟩ B w0 (.rangeFunc g pl.toArray assign body) F L R:=by
 intro a w hs hp;refine wpIn_rangeFunc ?_;intro fn _;obtain⟨rec,gi⟩: ∃rec:LoopState->Loop,rec=λst=> {state:=st,pending:=none,fn,tmps:=a.tmps,params:=pl.toArray,assign,body,defers:=w.heap.size}:=⟨_,rfl⟩;obtain⟨W1,xd⟩: ∃W1,(w.alloc (.deferred (some []))).alloc (.loop (rec .ready))=W1:=⟨_,rfl⟩
 have k5:W1.heap[w.heap.size+1]? =some (.loop (rec .ready)):=by
  rw[<-xd];have:=World.alloc_heap_new (w.alloc (.deferred (some []))) (.loop (rec .ready));rwa[World.size_alloc] at this
 have Sy:W1.heap[w.heap.size]? =some (.deferred (some [])):=by
  rw[<-xd];exact(Below.heap_alloc _ _ _ cD).trans (World.alloc_heap_new w _)
 obtain⟨s0,k4,Kf⟩:=h0;have py:Hp B w0 W1 (Rx 0 s0):=by rw[<-xd];exact((Kf w hp).allocObj _).allocObj _
 have Pf:w0.heap.size<=w.heap.size:=hp.below.size;have Pg:=hp.base;refine⟨w.heap.size+1,[mark w.heap.size],W1,{target:= .fn (.func gf) lb,args:= #[.func (.yield (w.heap.size+1)) #[] #[]]},W1,gf,#[.func (.yield (w.heap.size+1)) #[] #[]]++lb,W1,?_,?_,λ_ _=>trivial,?_,λh=>(by cases h),?_⟩
 ·rw[<-xd,gi];exact run_enterLoop_outer _ _ _ _ _
 ·simp only[resolve,hs.ev hg];simp[go_sem]
 ·simp[invoke,go_sem,ya]
 ·refine CallsIn.mono (rounds (w0:=w0) (m:=m) (L:=L) it qs qk Rx J mu round (l:=w.heap.size+1) (rec:=rec) gi ⟨hs.size,rfl,hs.val⟩ G G (λW=>W.heap[w.heap.size]? =some (.deferred (some []))/\Late w W) ?_ ?_ k5 ⟨Sy,?_⟩ k4 py) ?_
  ·rintro W W' R R' ⟨hk,hl⟩ _ h2;exact⟨h2.late.2 _ _ hk rfl,hl.trans h2.late⟩
  ·rintro W o ⟨hk,hl⟩;refine⟨(World.putObj_heap_other G).trans hk,hl.1,λk q kx hc=> ?_⟩;rw[World.putObj_heap_other (λe=>by have:=(dz.1 kx).1;omega)];exact hl.2 k q kx hc
  ·rw [<-xd];exact(Late.alloc _ _).trans (Late.alloc _ _)
  ·rintro e W2 ⟨⟨v,rfl⟩,s,hJ,lz,po,Lb,vl⟩;have pn:=run_endLoop (P:=P) po (by rw[gi];simp);have Pt:(rec .ready).pending=none:=by rw[gi]
   refine⟨none,W2.putObj (w.heap.size+1) (.loop {rec .ready with state:= .exhausted}),pn.trans (bz (λp=>Result.ok p _) Pt),?_⟩;have se:Hp B w0 (W2.putObj (w.heap.size+1) (.loop {rec .ready with state:= .exhausted})) (Rx N s):=lz.putObj po rfl _ G G;have Ud:(W2.putObj (w.heap.size+1) (.loop {rec .ready with state:= .exhausted})).heap[w.heap.size]? =some (.deferred (some [])):=(World.putObj_heap_other G).trans Lb
   have Ld:Late w (W2.putObj (w.heap.size+1) (.loop {rec .ready with state:= .exhausted})):=⟨vl.1,λk q kx hc=>by
    rw[World.putObj_heap_other (λe=>by have:=(dz.1 kx).1;omega)]
    exact vl.2 k q kx hc⟩
   have vf:=hs.defers;refine after _ w.heap.size s hJ se.below ⟨hG.below.trans se.below,hG.late.trans se.late,ut.2 ⟨λjt=> ?_,hG.nodup⟩,λd hd=> ?_⟩ _ _ ⟨hs.size,by simp only[nz,vf],hs.val⟩ se.rebase
   ·obtain ⟨D,he,_,_,hD⟩:=hG.marks _ jt;have h1:=(dz.1 hD).1;simp only[mark,Deferred.mk.injEq,Target.collected.injEq,Aa] at he;omega
   ·rcases jf.1 hd with rfl|hd
    ·exact⟨_,rfl,G,by have:=hG.below.size;omega,Ud⟩
    ·obtain ⟨D,he,h1,h2,hD⟩:=hG.marks _ hd;exact⟨D,he,h1,h2,se.late.2 _ _ hD rfl⟩
theorem aLc {σ0 σ1:Type} {m:Nat} {ds:List Deferred} {g:Operand} {pl:List Nat} {assign body:Code} {gf:Nat} {lb:Array Value} {ns:World->Prop} {N:Nat} {f:Nat->List Value} (hg:ev L g=some (.func (.func gf) #[] lb))
  (ya: ∀args w,(callFunc gf args).run P w= .ok (.enter gf args) w) (it:Iter P gf lb ns N f)
  (qs:pl.all (λp=>Nat.blt p m)=true) (qk: ∀k,(f k).length=pl.length) (hG:Gd B w00 ⟨m,ds,none⟩ w0) (Rx:Nat->σ0->σ1->List Row) (J:Nat->σ0->σ1->Prop)
  (h0: ∃x0 x1,J 0 x0 x1/\ ∀w,Hp B w0 w R->Hp B w0 w (Rx 0 x0 x1)) (mu: ∀k x0 x1 w,J k x0 x1->Hp B w0 w (Rx k x0 x1)->ns w)
  (round: ∀l k x0 x1 W2,k<N->J k x0 x1->Below B w0 W2->W P ⟨m,[],some l⟩ B W2 assign ⟨λL' R'=> ∀W3,Below B w0 W3->W P ⟨m,[],some l⟩ B W3 body ⟨λ_ rr=> ∃y0 y1,J (k+1) y0 y1/\ ∀W4 w,Hp B W4 w rr->Hp B W4 w (Rx (k+1) y0 y1),λ_ _=>False,λ_ _ _=>False⟩ L' R',λ_ _=>False,λ_ _ _=>False⟩ (prm pl (f k) L) (Rx k x0 x1))
  (after: ∀W5 D x0 x1,J N x0 x1->Below B w0 W5->Gd B w00 ⟨m,mark D::ds,none⟩ W5->VN ⟨m,mark D::ds,none⟩ B W5 F L (Rx N x0 x1)):
  V P ⟨m,ds,none⟩ B w0 (.rangeFunc g pl.toArray assign body) F L R:=by
 obtain⟨x0,x1,h1,h2⟩:=h0;refine aCo (σ:=σ0 × σ1) hg ya it qs qk hG (λk p=>Rx k p.1 p.2) (λk p=>J k p.1 p.2) ⟨(x0,x1),h1,h2⟩ (λk p=>mu k p.1 p.2) (λl k p W2 hk hp hb=>gL (round l k p.1 p.2 W2 hk hp hb) ?_ (λ_ _ h=>h) (λ_ _ _ h=>h)) (λW5 D p=>after W5 D p.1 p.2);intro L' R' h W3 Cl;refine gL (h W3 Cl) ?_ (λ_ _ h=>h) (λ_ _ _ h=>h);rintro _ rr ⟨y0,y1,g1,g2⟩;exact⟨(y0,y1),g1,g2⟩
theorem RG {σ0 σ1 σ2 σ3:Type} {m:Nat} {ds:List Deferred} {g:Operand} {pl:List Nat} {assign body:Code} {gf:Nat} {lb:Array Value} {ns:World->Prop} {N:Nat} {f:Nat->List Value} (hg:ev L g=some (.func (.func gf) #[] lb))
  (ya: ∀args w,(callFunc gf args).run P w= .ok (.enter gf args) w) (it:Iter P gf lb ns N f)
  (qs:pl.all (λp=>Nat.blt p m)=true) (qk: ∀k,(f k).length=pl.length) (hG:Gd B w00 ⟨m,ds,none⟩ w0) (Rx:Nat->σ0->σ1->σ2->σ3->List Row) (J:Nat->σ0->σ1->σ2->σ3->Prop)
  (h0: ∃x0 x1 x2 x3,J 0 x0 x1 x2 x3/\ ∀w,Hp B w0 w R->Hp B w0 w (Rx 0 x0 x1 x2 x3)) (mu: ∀k x0 x1 x2 x3 w,J k x0 x1 x2 x3->Hp B w0 w (Rx k x0 x1 x2 x3)->ns w)
  (round: ∀l k x0 x1 x2 x3 W2,k<N->J k x0 x1 x2 x3->Below B w0 W2->W P ⟨m,[],some l⟩ B W2 assign ⟨λL' R'=> ∀W3,Below B w0 W3->W P ⟨m,[],some l⟩ B W3 body ⟨λ_ rr=> ∃y0 y1 y2 y3,J (k+1) y0 y1 y2 y3/\ ∀W4 w,Hp B W4 w rr->Hp B W4 w (Rx (k+1) y0 y1 y2 y3),λ_ _=>False,λ_ _ _=>False⟩ L' R',λ_ _=>False,λ_ _ _=>False⟩ (prm pl (f k) L) (Rx k x0 x1 x2 x3))
  (after: ∀W5 D x0 x1 x2 x3,J N x0 x1 x2 x3->Below B w0 W5->Gd B w00 ⟨m,mark D::ds,none⟩ W5->VN ⟨m,mark D::ds,none⟩ B W5 F L (Rx N x0 x1 x2 x3)):
  V P ⟨m,ds,none⟩ B w0 (.rangeFunc g pl.toArray assign body) F L R:=by
 obtain⟨x0,x1,x2,x3,h1,h2⟩:=h0;refine aCo (σ:=σ0 × σ1 × σ2 × σ3) hg ya it qs qk hG (λk p=>Rx k p.1 p.2.1 p.2.2.1 p.2.2.2) (λk p=>J k p.1 p.2.1 p.2.2.1 p.2.2.2) ⟨(x0,x1,x2,x3),h1,h2⟩ (λk p=>mu k p.1 p.2.1 p.2.2.1 p.2.2.2) (λl k p W2 hk hp hb=>gL (round l k p.1 p.2.1 p.2.2.1 p.2.2.2 W2 hk hp hb) ?_ (λ_ _ h=>h) (λ_ _ _ h=>h)) (λW5 D p=>after W5 D p.1 p.2.1 p.2.2.1 p.2.2.2);intro L' R' h W3 Cl;refine gL (h W3 Cl) ?_ (λ_ _ h=>h) (λ_ _ _ h=>h);rintro _ rr ⟨y0,y1,y2,y3,g1,g2⟩;exact⟨(y0,y1,y2,y3),g1,g2⟩
def Fin (P:Program) (fn:Func) (B:Nat) (w00:World) (Post:Value->List Row->Prop):Exit->Act->World->Prop:=
 bodyPostM Fence.wide 0 P fn λe w'=> ∃v R',e= .returned v/\Hp B w00 w' R'/\Post v R'
theorem yZ {fn:Func} {Post:Value->List Row->Prop} {tmps:Array Value} {v:Value} {w0:World} (hB:Below B w00 w0) (hL:Late w00 w0): ∀(ds:List Deferred) (w:World),ds.Nodup->(∀d∈ds,∃D,d=mark D/\B<=D/\w00.heap.size<=D/\w.heap[D]? =some (.deferred (some [])))->Hp B w00 w R->(∀w,(results fn tmps).run P w= .ok v w)->Post v R->
  LeavesInM Fence.wide 0 P fn tmps (λe w'=> ∃v R',e= .returned v/\Hp B w00 w' R'/\Post v R') ds .returning w
 |[],w,_,_,hp,hr,hv=>⟨v,hr w,v,R,rfl,hp,hv⟩
 |d::ds,w,hn,hm,hp,hr,hv=>by
  obtain⟨D,rfl,h1,h2,hD⟩:=hm _ (.head _);refine⟨cD, .inl ⟨D,_,rfl,run_takeDeferred hD,yZ hB hL ds _ (ut.1 hn).2 (λd hd=> ?_) (hp.putObj hD rfl _ h1 h2) hr hv⟩⟩;obtain⟨D',he,So,Wi,Zq⟩:=hm d (.tail _ hd);refine⟨D',he,So,Wi,(World.putObj_heap_other λe=> ?_).trans Zq⟩;subst e;subst he;exact(ut.1 hn).1 hd
theorem aPq {fn:Func} {Post:Value->List Row->Prop} {v:Value} (hG:Gd B w00 n w0) (Fo: ∀a w,Sat n L a->(results fn a.tmps).run P w= .ok v w) (hv:Post v R): ∀a w,Sat n L a->Hp B w0 w R->Fin P fn B w00 Post .ret a w/\Fin P fn B w00 Post .normal a w:=by
 intro a w hs hp;have bw:Hp B w00 w R:=⟨hG.below.trans hp.below,hp.base,hp.own,hp.apart,hG.late.trans hp.late⟩
 have h:=yZ (P:=P) (fn:=fn) (Post:=Post) (tmps:=a.tmps) (v:=v) hG.below hG.late n.ds w hG.nodup (λd hd=>by
  obtain⟨D,he,h1,h2,hD⟩:=hG.marks d hd
  exact⟨D,he,h1,h2,hp.late.2 _ _ hD rfl⟩) bw (λw=>Fo a w hs) hv
 rw[<-hs.defers] at h;exact⟨h,h⟩
theorem bGf {fn:Func} {Post:Value->List Row->Prop} {r:Nat} (hr:fn.results= #[.tmp r]) (hG:Gd B w00 n w0) (h: ∃v,lk L r=some v/\Post v R): ∀a w,Sat n L a->Hp B w0 w R->Fin P fn B w00 Post .ret a w:=by
 obtain⟨v,hv,mn⟩:=h;exact λa w hs hp=>(aPq hG (λa w hs=>by rw[results_tmp hr,hs.getD hv]) mn a w hs hp).1
theorem aPr {fn:Func} {Post:Value->List Row->Prop} {r s:Nat} (hr:fn.results= #[.tmp r, .tmp s]) (hG:Gd B w00 n w0) (h: ∃v u,lk L r=some v/\lk L s=some u/\Post (.tuple #[v,u]) R): ∀a w,Sat n L a->Hp B w0 w R->Fin P fn B w00 Post .ret a w:=by
 obtain⟨v,u,hv,hu,mn⟩:=h;exact λa w hs hp=>(aPq hG (λa w hs=>by rw[results_tmp2 hr,hs.getD hv,hs.getD hu]) mn a w hs hp).1
theorem fnV {f:FuncId} {fn:Func} {c:Code} {args:List Value} {Post:Value->List Row->Prop} (hf:P.funcs[f]? =some fn) (hb:fn.body=some c) (hl:Nat.ble args.length fn.ntmps=true)
  (h:V P (fn.ntmps:Nd) B w00 c (Fin P fn B w00 Post) (ini 0 args) R):Ct P f args.toArray B w00 R Post:=by
 intro w hw;have me:args.length<=fn.ntmps:=au hl;refine callsIn_wide.1 (callsIn_of_wp_marks (F:=Fence.wide) (n:=0) hf hb trivial (h _ w ⟨cG,rfl,λt v ht=> ?_⟩ hw));obtain⟨_,h2⟩:=ZO args 0 t v ht;simp only[yc] at h2;have aw:=(dn.1 h2).1;rw[<-h2];simp[Ah,aw]
end
section
variable {P:Program} {n:Nd} {B:Nat} {w0 w00:World} {F:Exit->Act->World->Prop} {L:Env} {R:List Row}
theorem aDb {σ:Type} {m:Nat} {pl:List Nat} {assign body:Code} {gf:Nat} {lb:Array Value} {ns:World->Prop} {N:Nat} {f:Nat->List Value} (it:Iter P gf lb ns N f)
  (qs:pl.all (λp=>Nat.blt p m)=true) (qk: ∀k,(f k).length=pl.length) (Rx:Nat->σ->List Row) (J:Nat->σ->Prop) (mu: ∀k s w,J k s->Hp B w0 w (Rx k s)->ns w)
  (round: ∀l k s W2,k<N->J k s->Below B w0 W2->W P ⟨m,[],some l⟩ B W2 assign ⟨λL' R'=> ∀W3,Below B w0 W3->(∃rc,W3.heap[l]? =some (.loop rc))->W P ⟨m,[],some l⟩ B W3 body ⟨λ_ rr=> ∃s',J (k+1) s'/\ ∀W4 w,Hp B W4 w rr->Hp B W4 w (Rx (k+1) s'),λ_ _=>False,λ_ _ _=>False⟩ L' R',λ_ _=>False,λ_ _ _=>False⟩ (prm pl (f k) L) (Rx k s))
  {l:Nat} {rec:LoopState->Loop} {fn:FuncId} {t:Array Value} {Df:Nat} (gi:rec=λst=> {state:=st,pending:=none,fn,tmps:=t,params:=pl.toArray,assign,body,defers:=Df}) (ht:Sat ⟨m,[],some l⟩ L {tmps:=t,defers:=[]}) (Pc:B<=l) (m5:w0.heap.size<=l) (X:World->Prop)
  (hX: ∀W W' R R',X W->Hp B w0 W R->Hp B W W' R'->X W') (Oe: ∀W o,X W->X (W.putObj l o)) {W1:World} (k5:W1.heap[l]? =some (.loop (rec .ready))) (Th:X W1) {s0:σ} (k4:J 0 s0) (py:Hp B w0 W1 (Rx 0 s0)):
  CallsIn Fence.wide 0 P gf (#[.func (.yield l) #[] #[]]++lb) W1 λe W'=>(∃v,e= .returned v)/\ ∃s,J N s/\Hp B w0 W' (Rx N s)/\W'.heap[l]? =some (.loop (rec .ready))/\X W':=by
 refine it l (λk W=> ∃s,J k s/\Hp B w0 W (Rx k s)/\W.heap[l]? =some (.loop (rec .ready))/\X W) W1 (λk W ⟨s,hJ,hp,_⟩=>mu k s W hJ hp) (λk W d ⟨s,hJ,hp,hl,hx⟩ hd=>⟨s,hJ,hp.drawn d hd,hl,hX _ _ _ _ hx hp (hp.rebase.drawn d hd)⟩) ?_ ⟨s0,k4,py,k5,Th⟩;rintro k W hk ⟨s,hJ,hp,hl,hx⟩;have hy:=run_yield (P:=P) (args:=(f k).toArray) hl (by rw[gi];simp[qk k])
 have un:Sat ⟨m,[],some l⟩ (prm pl (f k) L) {tmps:=(rec .ready).params.zip (f k).toArray|>.foldl (λt (p,v)=>t.setIfInBounds p v) (rec .ready).tmps,defers:=[]}:=by
  rw[gi];simpa using Sat.prm pl (f k) qs ht
 refine⟨fn,_,assign,body,by rw[hy,gi],roundIn_of_wpIn trivial ?_⟩;refine Ag ((round l k s W hk hJ hp.below) _ _ (by rw[gi] at un;exact un) hp.rebase) ?_;rintro e a1 Wa hq;cases e with
 | normal=>
  obtain⟨L',R',dg,bw,hb⟩:=hq;have m7:=bw.late.2 _ _ hl rfl;have ue:=hp.comp bw;have aw:=(dz.1 m7).1;have Tq:=run_beginRound (P:=P) m7 (by rw[gi]);refine⟨_,Tq,?_⟩;have lz:Hp B w0 (Wa.putObj l (.loop {rec .ready with state:= .busy})) R':=ue.putObj m7 rfl _ Pc m5;have po:(Wa.putObj l (.loop {rec .ready with state:= .busy})).heap[l]? =some (.loop {rec .ready with state:= .busy}):=World.putObj_heap_same aw;have Vo:=Oe _ (.loop {rec .ready with state:= .busy}) (hX _ _ _ _ hx hp bw);refine Ag (hb _ lz.below ⟨_,po⟩ a1 _ dg lz.rebase) ?_;rintro e a3 W3 hq;cases e with
  | normal=>
   obtain⟨L3,R3,_,se,s',Sv,Hi⟩:=hq;have wi:=se.late.2 _ _ po rfl;have Tv:=run_endRound (P:=P) none wi;refine⟨_,_,Tv,rfl,s',Sv,?_,?_,?_⟩
   ·exact(lz.comp (Hi _ _ se)).putObj wi rfl _ Pc m5
   ·rw [World.putObj_heap_same (dz.1 wi).1,gi];rfl
   ·exact Oe _ _ (hX _ _ _ _ Vo lz se)
  |ret=>obtain⟨_,_,_,_,h⟩:=hq;exact h.elim
  |exit id=>obtain⟨_,_,_,_,h⟩:=hq;exact h.elim
  |goto t=>exact hq.elim
  |panic ch=>exact hq.elim
  |outgrown=>exact hq.elim
 |ret=>obtain⟨_,_,_,_,h⟩:=hq;exact h.elim
 |exit id=>obtain⟨_,_,_,_,h⟩:=hq;exact h.elim
 |goto t=>exact hq.elim
 |panic ch=>exact hq.elim
 |outgrown=>exact hq.elim
theorem aLb {σ:Type} {m:Nat} {ds:List Deferred} {g:Operand} {pl:List Nat} {assign body:Code} {gf:Nat} {lb:Array Value} {ns:World->Prop} {N:Nat} {f:Nat->List Value} (hg:ev L g=some (.func (.func gf) #[] lb))
  (ya: ∀args w,(callFunc gf args).run P w= .ok (.enter gf args) w) (it:Iter P gf lb ns N f)
  (qs:pl.all (λp=>Nat.blt p m)=true) (qk: ∀k,(f k).length=pl.length) (hG:Gd B w00 ⟨m,ds,none⟩ w0) (Rx:Nat->σ->List Row) (J:Nat->σ->Prop) (h0: ∃s,J 0 s/\ ∀w,Hp B w0 w R->Hp B w0 w (Rx 0 s)) (mu: ∀k s w,J k s->Hp B w0 w (Rx k s)->ns w)
  (round: ∀l k s W2,k<N->J k s->Below B w0 W2->W P ⟨m,[],some l⟩ B W2 assign ⟨λL' R'=> ∀W3,Below B w0 W3->(∃rc,W3.heap[l]? =some (.loop rc))->W P ⟨m,[],some l⟩ B W3 body ⟨λ_ rr=> ∃s',J (k+1) s'/\ ∀W4 w,Hp B W4 w rr->Hp B W4 w (Rx (k+1) s'),λ_ _=>False,λ_ _ _=>False⟩ L' R',λ_ _=>False,λ_ _ _=>False⟩ (prm pl (f k) L) (Rx k s))
  (after: ∀W5 D s,J N s->Below B w0 W5->Gd B w00 ⟨m,mark D::ds,none⟩ W5->VN ⟨m,mark D::ds,none⟩ B W5 F L (Rx N s)):
  V P ⟨m,ds,none⟩ B w0 (.rangeFunc g pl.toArray assign body) F L R:=by
 intro a w hs hp;refine wpIn_rangeFunc ?_;intro fn _;obtain⟨rec,gi⟩: ∃rec:LoopState->Loop,rec=λst=> {state:=st,pending:=none,fn,tmps:=a.tmps,params:=pl.toArray,assign,body,defers:=w.heap.size}:=⟨_,rfl⟩;obtain⟨W1,xd⟩: ∃W1,(w.alloc (.deferred (some []))).alloc (.loop (rec .ready))=W1:=⟨_,rfl⟩
 have k5:W1.heap[w.heap.size+1]? =some (.loop (rec .ready)):=by
  rw[<-xd];have:=World.alloc_heap_new (w.alloc (.deferred (some []))) (.loop (rec .ready));rwa[World.size_alloc] at this
 have Sy:W1.heap[w.heap.size]? =some (.deferred (some [])):=by
  rw[<-xd];exact(Below.heap_alloc _ _ _ cD).trans (World.alloc_heap_new w _)
 obtain⟨s0,k4,Kf⟩:=h0;have py:Hp B w0 W1 (Rx 0 s0):=by rw[<-xd];exact((Kf w hp).allocObj _).allocObj _
 have Pf:w0.heap.size<=w.heap.size:=hp.below.size;have Pg:=hp.base;refine⟨w.heap.size+1,[mark w.heap.size],W1,{target:= .fn (.func gf) lb,args:= #[.func (.yield (w.heap.size+1)) #[] #[]]},W1,gf,#[.func (.yield (w.heap.size+1)) #[] #[]]++lb,W1,?_,?_,λ_ _=>trivial,?_,λh=>(by cases h),?_⟩
 ·rw[<-xd,gi];exact run_enterLoop_outer _ _ _ _ _
 ·simp only[resolve,hs.ev hg];simp[go_sem]
 ·simp[invoke,go_sem,ya]
 ·refine CallsIn.mono (aDb (w0:=w0) (m:=m) (L:=L) it qs qk Rx J mu round (l:=w.heap.size+1) (rec:=rec) gi ⟨hs.size,rfl,hs.val⟩ G G (λW=>W.heap[w.heap.size]? =some (.deferred (some []))/\Late w W) ?_ ?_ k5 ⟨Sy,?_⟩ k4 py) ?_
  ·rintro W W' R R' ⟨hk,hl⟩ _ h2;exact⟨h2.late.2 _ _ hk rfl,hl.trans h2.late⟩
  ·rintro W o ⟨hk,hl⟩;refine⟨(World.putObj_heap_other G).trans hk,hl.1,λk q kx hc=> ?_⟩;rw[World.putObj_heap_other (λe=>by have:=(dz.1 kx).1;omega)];exact hl.2 k q kx hc
  ·rw [<-xd];exact(Late.alloc _ _).trans (Late.alloc _ _)
  ·rintro e W2 ⟨⟨v,rfl⟩,s,hJ,lz,po,Lb,vl⟩;have pn:=run_endLoop (P:=P) po (by rw[gi];simp);have Pt:(rec .ready).pending=none:=by rw[gi]
   refine⟨none,W2.putObj (w.heap.size+1) (.loop {rec .ready with state:= .exhausted}),pn.trans (bz (λp=>Result.ok p _) Pt),?_⟩;have se:Hp B w0 (W2.putObj (w.heap.size+1) (.loop {rec .ready with state:= .exhausted})) (Rx N s):=lz.putObj po rfl _ G G;have Ud:(W2.putObj (w.heap.size+1) (.loop {rec .ready with state:= .exhausted})).heap[w.heap.size]? =some (.deferred (some [])):=(World.putObj_heap_other G).trans Lb
   have Ld:Late w (W2.putObj (w.heap.size+1) (.loop {rec .ready with state:= .exhausted})):=⟨vl.1,λk q kx hc=>by
    rw[World.putObj_heap_other (λe=>by have:=(dz.1 kx).1;omega)]
    exact vl.2 k q kx hc⟩
   have vf:=hs.defers;refine after _ w.heap.size s hJ se.below ⟨hG.below.trans se.below,hG.late.trans se.late,ut.2 ⟨λjt=> ?_,hG.nodup⟩,λd hd=> ?_⟩ _ _ ⟨hs.size,by simp only[nz,vf],hs.val⟩ se.rebase
   ·obtain ⟨D,he,_,_,hD⟩:=hG.marks _ jt;have h1:=(dz.1 hD).1;simp only[mark,Deferred.mk.injEq,Target.collected.injEq,Aa] at he;omega
   ·rcases jf.1 hd with rfl|hd
    ·exact⟨_,rfl,G,by have:=hG.below.size;omega,Ud⟩
    ·obtain ⟨D,he,h1,h2,hD⟩:=hG.marks _ hd;exact⟨D,he,h1,h2,se.late.2 _ _ hD rfl⟩
theorem aFs {σ0 σ1 σ2 σ3:Type} {m:Nat} {ds:List Deferred} {g:Operand} {pl:List Nat} {assign body:Code} {gf:Nat} {lb:Array Value} {ns:World->Prop} {N:Nat} {f:Nat->List Value} (hg:ev L g=some (.func (.func gf) #[] lb))
  (ya: ∀args w,(callFunc gf args).run P w= .ok (.enter gf args) w) (it:Iter P gf lb ns N f)
  (qs:pl.all (λp=>Nat.blt p m)=true) (qk: ∀k,(f k).length=pl.length) (hG:Gd B w00 ⟨m,ds,none⟩ w0) (Rx:Nat->σ0->σ1->σ2->σ3->List Row) (J:Nat->σ0->σ1->σ2->σ3->Prop)
  (h0: ∃x0 x1 x2 x3,J 0 x0 x1 x2 x3/\ ∀w,Hp B w0 w R->Hp B w0 w (Rx 0 x0 x1 x2 x3)) (mu: ∀k x0 x1 x2 x3 w,J k x0 x1 x2 x3->Hp B w0 w (Rx k x0 x1 x2 x3)->ns w)
  (round: ∀l k x0 x1 x2 x3 W2,k<N->J k x0 x1 x2 x3->Below B w0 W2->W P ⟨m,[],some l⟩ B W2 assign ⟨λL' R'=> ∀W3,Below B w0 W3->(∃rc,W3.heap[l]? =some (.loop rc))->W P ⟨m,[],some l⟩ B W3 body ⟨λ_ rr=> ∃y0 y1 y2 y3,J (k+1) y0 y1 y2 y3/\ ∀W4 w,Hp B W4 w rr->Hp B W4 w (Rx (k+1) y0 y1 y2 y3),λ_ _=>False,λ_ _ _=>False⟩ L' R',λ_ _=>False,λ_ _ _=>False⟩ (prm pl (f k) L) (Rx k x0 x1 x2 x3))
  (after: ∀W5 D x0 x1 x2 x3,J N x0 x1 x2 x3->Below B w0 W5->Gd B w00 ⟨m,mark D::ds,none⟩ W5->VN ⟨m,mark D::ds,none⟩ B W5 F L (Rx N x0 x1 x2 x3)):
  V P ⟨m,ds,none⟩ B w0 (.rangeFunc g pl.toArray assign body) F L R:=by
 obtain⟨x0,x1,x2,x3,h1,h2⟩:=h0;refine aLb (σ:=σ0 × σ1 × σ2 × σ3) hg ya it qs qk hG (λk p=>Rx k p.1 p.2.1 p.2.2.1 p.2.2.2) (λk p=>J k p.1 p.2.1 p.2.2.1 p.2.2.2) ⟨(x0,x1,x2,x3),h1,h2⟩ (λk p=>mu k p.1 p.2.1 p.2.2.1 p.2.2.2) (λl k p W2 hk hp hb=>gL (round l k p.1 p.2.1 p.2.2.1 p.2.2.2 W2 hk hp hb) ?_ (λ_ _ h=>h) (λ_ _ _ h=>h)) (λW5 D p=>after W5 D p.1 p.2.1 p.2.2.1 p.2.2.2);intro L' R' h W3 Cl wi;refine gL (h W3 Cl wi) ?_ (λ_ _ h=>h) (λ_ _ _ h=>h);rintro _ rr ⟨y0,y1,y2,y3,g1,g2⟩;exact⟨(y0,y1,y2,y3),g1,g2⟩
theorem aSo {σ:Type} {m l0:Nat} {g:Operand} {pl:List Nat} {assign body:Code} {gf:Nat} {lb:Array Value} {ns:World->Prop} {N:Nat} {f:Nat->List Value} {Q:eH} (hg:ev L g=some (.func (.func gf) #[] lb))
  (ya: ∀args w,(callFunc gf args).run P w= .ok (.enter gf args) w) (it:Iter P gf lb ns N f)
  (qs:pl.all (λp=>Nat.blt p m)=true) (qk: ∀k,(f k).length=pl.length) (m5: ∃rc,w0.heap[l0]? =some (.loop rc)) (Rx:Nat->σ->List Row) (J:Nat->σ->Prop) (h0: ∃s,J 0 s/\ ∀w,Hp B w0 w R->Hp B w0 w (Rx 0 s)) (mu: ∀k s w,J k s->Hp B w0 w (Rx k s)->ns w)
  (round: ∀l k s W2,k<N->J k s->Below B w0 W2->W P ⟨m,[],some l⟩ B W2 assign ⟨λL' R'=> ∀W3,Below B w0 W3->(∃rc,W3.heap[l]? =some (.loop rc))->W P ⟨m,[],some l⟩ B W3 body ⟨λ_ rr=> ∃s',J (k+1) s'/\ ∀W4 w,Hp B W4 w rr->Hp B W4 w (Rx (k+1) s'),λ_ _=>False,λ_ _ _=>False⟩ L' R',λ_ _=>False,λ_ _ _=>False⟩ (prm pl (f k) L) (Rx k s))
  (after: ∀s,J N s->Q.nrm L (Rx N s)):
  W P ⟨m,[],some l0⟩ B w0 (.rangeFunc g pl.toArray assign body) Q L R:=by
 obtain⟨r0,Ru⟩:=m5;intro a w hs hp;have Uf:=hp.late.2 _ _ Ru rfl;refine wpIn_rangeFunc ?_;intro fn _;obtain⟨rec,gi⟩: ∃rec:LoopState->Loop,rec=λst=> {state:=st,pending:=none,fn,tmps:=a.tmps,params:=pl.toArray,assign,body,defers:=r0.defers}:=⟨_,rfl⟩;obtain⟨W1,xd⟩: ∃W1,w.alloc (.loop (rec .ready))=W1:=⟨_,rfl⟩;have k5:W1.heap[w.heap.size]? =some (.loop (rec .ready)):=by rw[<-xd];exact World.alloc_heap_new w _
 obtain⟨s0,k4,Kf⟩:=h0;have py:Hp B w0 W1 (Rx 0 s0):=by rw[<-xd];exact(Kf w hp).allocObj _
 have Pf:w0.heap.size<=w.heap.size:=hp.below.size;have Pg:=hp.base;refine⟨w.heap.size,[],W1,{target:= .fn (.func gf) lb,args:= #[.func (.yield w.heap.size) #[] #[]]},W1,gf,#[.func (.yield w.heap.size) #[] #[]]++lb,W1,?_,?_,λ_ _=>trivial,?_,λh=>(by cases h),?_⟩
 ·rw[<-xd,gi];exact run_enterLoop_inner Uf _ _ _ _ _
 ·simp only[resolve,hs.ev hg];simp[go_sem]
 ·simp[invoke,go_sem,ya]
 ·refine CallsIn.mono (aDb (w0:=w0) (m:=m) (L:=L) it qs qk Rx J mu round (l:=w.heap.size) (rec:=rec) gi ⟨hs.size,rfl,hs.val⟩ G G (λ_=>True) (λ_ _ _ _ _ _ _=>trivial) (λ_ _ _=>trivial) k5 trivial k4 py) ?_;rintro e W2 ⟨⟨v,rfl⟩,s,hJ,lz,po,_⟩;have pn:=run_endLoop (P:=P) po (by rw[gi];simp);have Pt:(rec .ready).pending=none:=by rw[gi]
  refine⟨none,W2.putObj w.heap.size (.loop {rec .ready with state:= .exhausted}),pn.trans (bz (λp=>Result.ok p _) Pt),?_⟩;have vf:=hs.defers;exact⟨L,Rx N s,⟨hs.size,by simp only[jb,vf],hs.val⟩,lz.putObj po rfl _ G G,after s hJ⟩
theorem aKx {σ0 σ1 σ2 σ3:Type} {m l0:Nat} {g:Operand} {pl:List Nat} {assign body:Code} {gf:Nat} {lb:Array Value} {ns:World->Prop} {N:Nat} {f:Nat->List Value} {Q:eH} (hg:ev L g=some (.func (.func gf) #[] lb))
  (ya: ∀args w,(callFunc gf args).run P w= .ok (.enter gf args) w) (it:Iter P gf lb ns N f)
  (qs:pl.all (λp=>Nat.blt p m)=true) (qk: ∀k,(f k).length=pl.length) (m5: ∃rc,w0.heap[l0]? =some (.loop rc)) (Rx:Nat->σ0->σ1->σ2->σ3->List Row) (J:Nat->σ0->σ1->σ2->σ3->Prop)
  (h0: ∃x0 x1 x2 x3,J 0 x0 x1 x2 x3/\ ∀w,Hp B w0 w R->Hp B w0 w (Rx 0 x0 x1 x2 x3)) (mu: ∀k x0 x1 x2 x3 w,J k x0 x1 x2 x3->Hp B w0 w (Rx k x0 x1 x2 x3)->ns w)
  (round: ∀l k x0 x1 x2 x3 W2,k<N->J k x0 x1 x2 x3->Below B w0 W2->W P ⟨m,[],some l⟩ B W2 assign ⟨λL' R'=> ∀W3,Below B w0 W3->(∃rc,W3.heap[l]? =some (.loop rc))->W P ⟨m,[],some l⟩ B W3 body ⟨λ_ rr=> ∃y0 y1 y2 y3,J (k+1) y0 y1 y2 y3/\ ∀W4 w,Hp B W4 w rr->Hp B W4 w (Rx (k+1) y0 y1 y2 y3),λ_ _=>False,λ_ _ _=>False⟩ L' R',λ_ _=>False,λ_ _ _=>False⟩ (prm pl (f k) L) (Rx k x0 x1 x2 x3))
  (after: ∀x0 x1 x2 x3,J N x0 x1 x2 x3->Q.nrm L (Rx N x0 x1 x2 x3)):
  W P ⟨m,[],some l0⟩ B w0 (.rangeFunc g pl.toArray assign body) Q L R:=by
 obtain⟨x0,x1,x2,x3,h1,h2⟩:=h0;refine aSo (σ:=σ0 × σ1 × σ2 × σ3) hg ya it qs qk m5 (λk p=>Rx k p.1 p.2.1 p.2.2.1 p.2.2.2) (λk p=>J k p.1 p.2.1 p.2.2.1 p.2.2.2) ⟨(x0,x1,x2,x3),h1,h2⟩ (λk p=>mu k p.1 p.2.1 p.2.2.1 p.2.2.2) (λl k p W2 hk hp hb=>gL (round l k p.1 p.2.1 p.2.2.1 p.2.2.2 W2 hk hp hb) ?_ (λ_ _ h=>h) (λ_ _ _ h=>h)) (λp=>after p.1 p.2.1 p.2.2.1 p.2.2.2);intro L' R' h W3 Cl wi;refine gL (h W3 Cl wi) ?_ (λ_ _ h=>h) (λ_ _ _ h=>h);rintro _ rr ⟨y0,y1,y2,y3,g1,g2⟩;exact⟨(y0,y1,y2,y3),g1,g2⟩
def SlR (k:IntKind) (Rs:List Row) (vals:List Value) (ls:List (List Int)):Prop:=vals.length=ls.length/\ ∀j:Nat,j<ls.length-> ∃(A:Option Addr) (c:Nat),vals[j]? =some (.slice A (ls.getD j []).length c)/\ ∀(B:Nat) (w0 w:World),Hp B w0 w Rs->Rd w A (ls.getD j []).length c 1 (ints k (ls.getD j []))
theorem SlR.nil (k:IntKind):SlR k [] [] []:=⟨rfl,λj hj=>by simp at hj⟩
theorem SlR.snoc {k:IntKind} {Rs:List Row} {vals:List Value} {ls:List (List Int)} {A:Option Addr} {n c e:Nat} {l:List Int} {ro:Bool} (h:SlR k Rs vals ls) (hn:n=l.length):SlR k (⟨e,1,A,n,c,ints k l,ro⟩::Rs) (vals++[.slice A n c]) (ls++[l]):=by
 subst hn;refine⟨by simp[h.1],λj hj=> ?_⟩;rcases fe j ls.length with g|g
 ·obtain ⟨A',c',h1,h2⟩:=h.2 j g
  have e1:(ls++[l]).getD j []=ls.getD j []:=by
   rw[af,af,je g]
  rw[e1];exact⟨A',c',by rw[je (by rw[h.1];exact g)];exact h1,λB w0 w hw=>h2 B w0 w hw.tail⟩
 ·have b8:j=ls.length:=by simp at hj;omega
  subst b8;have e1:(ls++[l]).getD ls.length []=l:=by simp[af]
  rw[e1];refine⟨A,c,by rw[<-h.1];simp,λB w0 w hw=> ?_⟩;exact rdr (R:=⟨e,1,A,l.length,c,ints k l,ro⟩::Rs) 0 rfl w hw
theorem SlR.at {k:IntKind} {Rs:List Row} {vals:List Value} {ls:List (List Int)} (h:SlR k Rs vals ls) {i:Int} (h0:0<=i) (h1:i<ls.length): ∃(A:Option Addr) (c:Nat),vals[i.toNat]? =some (.slice A (rdl ls i).length c)/\ ∀(B:Nat) (w0 w:World),Hp B w0 w Rs->Rd w A (rdl ls i).length c 1 (ints k (rdl ls i)):=h.2 i.toNat G
theorem Hp.left {w:World} {X T:List Row} (h:Hp B w0 w (X++T)):Hp B w0 w X:=h.sublist (List.sublist_append_left X T)
theorem Hp.toTail0 {w:World} {X Rs Y:List Row} (h:Hp B w0 w ((X++Rs)++Y)):Hp B w0 w (X++(Y++Rs)):=by
 refine h.perm ?_;rw[ig];exact Cx X yl
theorem bGb {Q:eH} {c:Code} {d:Nat} {v:Value} (h:lk L d=some v) (k:W P n B w0 c Q ((d,v)::L) R):W P n B w0 c Q L R:=λa w hs hp=>k a w ⟨hs.size,hs.defers,λt u ht=>by
 unfold lk at ht;cases e:Nat.beq d t with
 |true=>rw[e] at ht;simp only[cond_true] at ht;obtain rfl:=ww e;exact hs.val _ _ (h.trans ht)
 |false=>rw[e] at ht;simp only[cond_false] at ht;exact hs.val _ _ ht⟩ hp
end
end Go.Eng
namespace Go.Eng
open Go Go.RowKit Go.Proofs Go.Sort
section
variable {P:Program} {B:Nat} {w0:World} {R:List Row}
def aSi (P:Program) (f g:Nat) (cb:Array Value) (k:Nat):Prop:=
 ∀(α:Type) [Inhabited α] (enc:α->List Value) (_: ∀x,(enc x).length=k) (_: ∀x,∀v∈enc x,v.oneCell'=true) (cf:α->α->Int) (_:SWO (ltOf cf)) (dr off cap:Nat) (d:Array α) (w:World)
  (_:CmpLays P g cb enc k cf dr off d.size w) (_:HoldsK enc k w dr off d) (_:dr<w.heap.size) (_:d.size<4611686018427387904),
  Calls P f #[.slice (some ⟨dr,off,none⟩) d.size cap, .func (.func g) #[] cb] w λe w'=>e= .returned (.tuple #[])/\ ∃d' n os,PermIn 0 d.size d d'/\SortedIn (ltOf cf) 0 d.size d'/\w'=sortWorldK enc k w dr off n d' os
def OH (P:Program) (f:Nat):Prop:= ∀(p:Option Addr) (cap:Nat) (fv:Value) (w:World),Calls P f #[.slice p 0 cap,fv] w λe w'=>e= .returned (.tuple #[])/\w'=w
theorem Hp.putRow {w:World} (hw:Hp B w0 w R) {i T k m c dr:Nat} {vs:List Value} (hi:R[i]? =some ⟨T,k,some ⟨dr,0,none⟩,m,c,vs,false⟩) (xs:Array Value) (Qk:xs.size=m*k) (n:Nat) (os:Array Obj):
  Hp B w0 (grow (putRow id (Sort.ahead w n) dr 0 xs) os) (R.set i ⟨T,k,some ⟨dr,0,none⟩,m,c,xs.toList,false⟩)/\Hp B w0 (grow (putRow id (Sort.ahead w n) dr 0 xs) os) (R.eraseIdx i):=by
 have du:=Row.lies_w (hw.own _ (ek hi)) rfl;rcases du.2 with⟨hv,hn⟩|⟨g,cap,cur,hv,hb,hg,hnc,pj,hcs,ht⟩
 ·simp at hv
 simp only[jq,lm,Ab,Aa,zm] at hv;obtain⟨rfl,rfl⟩:=hv;simp only at ht hcs hg hnc hb;have aw:dr<w.heap.size:=(dz.1 hg).1
 have hsz:w.heap.size<=(grow (Go.Sort.putRow id (Sort.ahead w n) dr 0 xs) os).heap.size:=by
  rw[size_grow,Go.Sort.size_putRow];exact Bb _ _
 have hk: ∀k,k<w.heap.size->dr≠k->(grow (Go.Sort.putRow id (Sort.ahead w n) dr 0 xs) os).heap[k]? =w.heap[k]? :=by
  intro k hk s8;rw[heap_grow_old _ _ (by rw[Go.Sort.size_putRow];exact hk)];simp[Go.Sort.putRow,mapBlock,uo,s8,Sort.ahead]
 have l9:(grow (Go.Sort.putRow id (Sort.ahead w n) dr 0 xs) os).heap[dr]? =some (.cells (putCells id 0 xs cur) T (0,0)):=by
  rw[heap_grow_old _ _ (by rw[Go.Sort.size_putRow];exact aw)];simp[Go.Sort.putRow,mapBlock,uo,Sort.ahead,hg,onCells]
 refine⟨?_,hw.but hi rfl rfl rfl (by show w.drawn<=w.drawn+n;omega) hsz λk h1 h2=>hk k h1 (h2 _ rfl)⟩;refine hw.upd hi (row:=some dr) ⟨rfl,rfl,rfl,hsz,λk h1 da=>hk k h1 λe=>da (by rw[e])⟩ ?_ (λk hk=> ?_) ?_ (λa' ki=> .inl ⟨a',ki,rfl⟩)
 ·show w.drawn<=w.drawn+n;omega
 ·obtain rfl:=iw hk;exact⟨_,rfl,rfl⟩
 ·unfold Row.lies;simp only;refine⟨by rw[jl,Qk], .inr ⟨dr,c,_,rfl,hb,l9,hnc,pj,?_,?_⟩⟩
  ·simp only[putCells,Array.size_mapIdx];exact hcs
  ·apply su;intro t;rw[oh];split
   ·rename_i u7
    have Sa:t<cur.size:=by
     have:m*k<=c*k:=ug _ hnc;omega
    rw[qh,qh,oq (by simp[putCells];exact Sa),oq (by rw[Qk];exact u7)];simp only[putCells,Array.getElem_mapIdx,id];rw[cu ⟨uh _,by rw[ni,Qk];exact u7⟩,yc,tq _ t (by rw[Qk];exact u7)]
   ·rename_i u7;rw[ll (by rw[jl,Qk];omega)]
theorem IZ {α:Type} [Inhabited α] {enc:α->List Value} {k:Nat} (hk: ∀x,(enc x).length=k) (d:Array α):(flatK enc k d).toList=d.toList.flatMap enc:=by
 have hlen: ∀l:List α,(l.flatMap enc).length=l.length*k:=λl=>by
  induction l with
  |nil=>simp
  |cons x l ih=>rw[Ck,ah,ih,hk,dm,xm];omega
 have Tz: ∀(l:List α) (t:Nat) (x:α),0<k->l[t/k]? =some x->(l.flatMap enc)[t]? =(enc x)[t%k]? :=λl=>by
  induction l with
  |nil=>intro t x _ h;simp at h
  | cons y l ih=>
   intro t x k0 h;rw[Ck];rcases fe t k with g|g
   ·rw [Db g] at h;simp only[List.getElem?_cons_zero,lm] at h;subst h;rw[je (by rw[hk];exact g),lc g]
   ·have e:t/k=(t-k)/k+1:=by
     rw[<-qf g,Nat.add_div_right _ k0];simp
    rw[e,Cc] at h;rw[iy (by rw[hk];exact g),hk,ih (t-k) x k0 h,<-zq g]
 apply su;intro t;have hs:(flatK enc k d).size=d.size*k:=size_flatK _ _ _;rcases fe t (d.size*k) with h|h
 ·have k0:0<k:=Nat.pos_of_ne_zero λe=>by subst e;simp at h
  have Os:t/k<d.size:=Nat.div_lt_of_lt_mul (by rw[zt];exact h)
  have e1:(flatK enc k d)[t]? =some ((flatK enc k d)[t]!):=by
   rw[oq (by rw[hs];exact h),tq _ t (by rw[hs];exact h)]
  rw[qh,e1,get_flatK enc k d t h,Tz d.toList t d[t/k] k0 (by rw[qh,oq Os]),tq d _ Os];have hm:t%k<(enc d[t/k]).length:=by rw[hk];exact yg _ k0
  rw[av hm,tq (enc d[t/k]) (t%k) hm]
 ·rw[ll (by rw[jl,hs];exact h),ll (by rw[hlen,jl];exact h)]
theorem aPp {α:Type} {enc:α->List Value} {k:Nat} (hk: ∀x,(enc x).length=k) (l:List α):(l.flatMap enc).length=l.length*k:=by
 induction l with
 |nil=>simp
 |cons x l ih=>rw[Ck,ah,ih,hk,dm,xm];omega
theorem GY {α:Type} [Inhabited α] {d d':Array α} (h:PermIn 0 d.size d d'):d'.toList.Perm d.toList:=by
 obtain⟨hs,_,hp⟩:=h;have e1:(d'.extract 0 d.size).toList=d'.toList:=by rw[<-hs];simp
 have e2:(d.extract 0 d.size).toList=d.toList:=cD
 rw[e1,e2] at hp;exact hp
theorem KL {α:Type} [Inhabited α] {cf:α->α->Int} {d':Array α} {n:Nat} (h:SortedIn (ltOf cf) 0 n d') (hn:d'.size=n):d'.toList.Pairwise λx y=> ¬cf y x<0:=by
 refine di.2 λa b ha Hn sd=> ?_;rw[jl] at ha Hn;have h1:=h a b (uh _) sd G;rw[tq d' a ha,tq d' b Hn] at h1;simp only[ltOf,uf] at h1;simpa using h1
theorem aUq {w:World} (hw:Hp B w0 w R) {i T k c:Nat} {A:Option Addr} {vs:List Value} (hi:R[i]? =some ⟨T,k,A,0,c,vs,false⟩):R.set i ⟨T,k,A,0,c,[],false⟩=R/\vs=[]:=by
 have du:=Row.lies_w (hw.own _ (ek hi)) rfl;have hl:=du.1;simp only[Eo] at hl;obtain rfl:=ed hl;refine⟨?_,rfl⟩;apply su;intro j;rw[vw];split
 ·rename_i h;subst h;split
  ·exact hi.symm
  ·rename_i h2;rw[ll G]
 ·rfl
theorem YM {α:Type} {f g k:Nat} {cb:Array Value} {enc:α->List Value} (Tf:aSi P f g cb k) (Te:OH P f) (hk: ∀x,(enc x).length=k) (h1: ∀x,∀v∈enc x,v.oneCell'=true) {T c:Nat} {A:Option Addr} {l:List α} (i:Nat) (hi:R[i]? =some ⟨T,k,A,l.length,c,l.flatMap enc,false⟩) (hsz:l.length<4611686018427387904) (cmp:α->α->Int) (hO:SWO (ltOf cmp))
  (Kr: ∀W,Hp B w0 W (R.eraseIdx i)-> ∀x∈l,∀y∈l,
   Ct P g (#[.agg (enc x).toArray, .agg (enc y).toArray]++cb) W.heap.size W [] (λv _=>v= .int .i64 (cmp x y))):
  Ct P f #[.slice A l.length c, .func (.func g) #[] cb] B w0 R (λv R'=>v= .tuple #[]/\ ∃l':List α,l'.Perm l/\l'.Pairwise (λx y=> ¬cmp y x<0)/\R'=R.set i ⟨T,k,A,l'.length,c,l'.flatMap enc,false⟩):=by
 intro w hw;rcases l with _|⟨x0,l0⟩
 ·refine (Te A c _ w).mono ?_;rintro e w' ⟨rfl,rfl⟩;obtain⟨h1,h2⟩:=aUq hw hi;exact⟨_,_,rfl,hw,rfl,[], .refl _, .nil,h1.symm⟩
 generalize hl:x0::l0=l at*;have db:0<l.length:=by rw[<-hl];simp
 have du:=Row.lies_w (hw.own _ (ek hi)) rfl;rcases du.2 with⟨_,hn⟩|⟨dr,cap,cur,hv,hb,hg,hnc,pj,hcs,ht⟩
 ·simp only at hn;omega
 simp only[jq,zm] at hv;obtain⟨rfl,rfl⟩:=hv;simp only at ht hcs hg hnc
 haveI:Inhabited {p:α//p∈l}:=⟨⟨l[0],kz _⟩⟩
 obtain⟨d,hd⟩: ∃d:Array {p:α//p∈l},d=l.attach.toArray:=⟨_,rfl⟩;have vf:d.size=l.length:=by rw[hd];simp
 have Ot:d.toList.map Subtype.val=l:=by rw[hd];exact El l
 have Lb: ∀x: {p:α//p∈l},(enc x.1).length=k:=λx=>hk x.1;have Xd: ∀e:List {p:α//p∈l},e.flatMap (λx=>enc x.1)=(e.map Subtype.val).flatMap enc:=λe=>by rw[List.flatMap_map]
 have aw:dr<w.heap.size:=(dz.1 hg).1
 have hH:HoldsK (λx: {p:α//p∈l}=>enc x.1) k w dr 0 d:=by
  intro j hj
  have sn:j<l.length*k:=by
   have:j<(flatK (λx: {p:α//p∈l}=>enc x.1) k d).size:=hj;rw[size_flatK,vf] at this;exact this
  have hf:=IZ Lb d;rw[Xd,Ot] at hf
  have e:(l.flatMap enc)[j]? =some ((flatK (λx: {p:α//p∈l}=>enc x.1) k d)[j]!):=by
   rw[<-hf,qh,oq hj,tq _ j hj]
  refine⟨?_,?_⟩
  ·rw [ni];exact hw.cellAt i hi rfl e
  ·exact hw.openAt i (0+j) hi rfl rfl
 have te:CmpLays P g cb (λx: {p:α//p∈l}=>enc x.1) k (λx y=>cmp x.1 y.1) dr 0 d.size w:=by
  intro m' os dk Os x y;have hW:=(hw.putRow hi (flatK (λx: {p:α//p∈l}=>enc x.1) k dk) (by rw[size_flatK,Os,vf]) m' os).2;refine(Kr (sortWorldK (λx: {p:α//p∈l}=>enc x.1) k w dr 0 m' dk os) hW x.1 x.2 y.1 y.2 _ (Hp.refl _)).mono ?_;rintro e w' ⟨v,R',rfl,hh,rfl⟩;exact⟨rfl,UU hh.below hh.late.1⟩
 have Tc:SWO (ltOf λ(x y: {p:α//p∈l})=>cmp x.1 y.1):=⟨λx=>hO.irrefl x.1,λx y z=>hO.trans x.1 y.1 z.1,λx y z=>hO.ntrans x.1 y.1 z.1⟩;have vd:=Tf _ (λx: {p:α//p∈l}=>enc x.1) Lb (λx=>h1 x.1) _ Tc dr 0 c d w te hH aw (by rw[vf];exact hsz);rw[vf] at vd;refine vd.mono ?_;rintro e w' ⟨rfl,d',n,os,oy,o5,rfl⟩;rw[<-vf] at oy;have l5:d'.size=l.length:=by rw[oy.1,vf]
 have hW:=(hw.putRow hi (flatK (λx: {p:α//p∈l}=>enc x.1) k d') (by rw[size_flatK,l5]) n os).1;rw[IZ Lb,Xd] at hW
 have bw:(d'.toList.map Subtype.val).Perm l:=by
  have:=(GY oy).map Subtype.val;rwa[Ot] at this
 refine⟨_,_,rfl,hW,rfl,d'.toList.map Subtype.val,bw,?_,?_⟩
 ·exact ik.2 (KL o5 l5)
 ·rw[bw.length_eq]
end
end Go.Eng
namespace Go.Pure
open Go Go.Eng
def Bd (u:List Int) (n k:Nat):Prop:=k<n/\ ∀e,e<k->lt u e=lt u (n-k+e)
def MB (u:List Int) (n:Nat) (k:Int):Prop:=0<=k/\Bd u n k.toNat/\ ∀q:Nat,Bd u n q->(q:Int)<=k
def KI (u:List Int) (i:Nat) (n:Int):Prop:=0<=n/\Bd u i n.toNat/\ ∀q:Nat,Bd u i q->n<q->lt u q≠lt u i
variable {u:List Int}
theorem MB.one:MB u 1 0:=⟨G,⟨G,λe he=>by simp at he⟩,λq h=>by have:=h.1;omega⟩
theorem MB.bd {n:Nat} {k:Int} (h:MB u n k):0<=k/\k<n:=⟨h.1,by have:=h.2.1.1;have:=h.1;omega⟩
theorem KI.bd {n:Nat} {k:Int} (h:KI u n k):0<=k/\k<n:=⟨h.1,by have:=h.2.1.1;have:=h.1;omega⟩
theorem KI.init {i:Nat} {n:Int} (h:MB u i n):KI u i n:=⟨h.1,h.2.1,λq hq hn=>by have:=h.2.2 q hq;omega⟩
theorem KI.step {i:Nat} {n m:Int} (h:KI u i n) (da:lt u n.toNat≠lt u i) (hb:MB u n.toNat m):KI u i m:=by
 obtain⟨h0,⟨h1,h2⟩,h3⟩:=h;obtain⟨g0,⟨g1,g2⟩,g3⟩:=hb;refine⟨g0,⟨G,λe he=> ?_⟩,λq hq Ul=> ?_⟩
 ·rw [g2 e he,h2 (n.toNat-m.toNat+e) G];congr 1;omega
 ·rcases wo q n.toNat with a|a|a
  ·have:Bd u n.toNat q:=⟨a,λe he=>by
    rw[hq.2 e he,h2 (n.toNat-q+e) G];congr 1
    omega⟩
   have:=g3 q this;omega
  ·subst a;exact da
  ·exact h3 q hq G
theorem KI.hit {i:Nat} {n:Int} (h:KI u i n) (he:lt u n.toNat=lt u i):MB u (i+1) (n+1):=by
 obtain⟨h0,⟨h1,h2⟩,h3⟩:=h;refine⟨G,⟨G,λe hE=> ?_⟩,λq hq=> ?_⟩
 ·rcases fe e n.toNat with a|a
  ·rw[h2 e a];congr 1;omega
  ·obtain rfl:e=n.toNat:=G
   rw[he];congr 1;omega
 ·rcases q with _|q
  ·omega
  ·have hb:Bd u i q:=⟨by have:=hq.1;omega,λe hE=>by rw[hq.2 e G];congr 1;omega⟩;have hl:=hq.2 q G;have:=hq.1;rw[show i+1-(q+1)+q=i by omega] at hl;rcases ay n q with a|a
   ·exact absurd hl (h3 q hb a)
   ·omega
theorem KI.miss {i:Nat} {n:Int} (h:KI u i n) (hn:n<=0) (he:lt u n.toNat≠lt u i):MB u (i+1) n:=by
 obtain⟨h0,⟨h1,h2⟩,h3⟩:=h;obtain rfl:n=0:=G
 refine⟨G,⟨G,λe hE=>by simp at hE⟩,λq hq=> ?_⟩;rcases q with _|q
 ·omega
 ·have hb:Bd u i q:=⟨by have:=hq.1;omega,λe hE=>by rw[hq.2 e G];congr 1;omega⟩;have hl:=hq.2 q G;have:=hq.1;rw[show i+1-(q+1)+q=i by omega] at hl;rcases dx q with a|a
  ·subst a;exact absurd hl he
  ·exact absurd hl (h3 q hb G)
theorem aFj {n k:Nat} (hn:n=u.length) (hk:k<n):Bd u n k↔KC u (n-k):=by
 subst hn;rw[GZ];constructor
 ·intro h i hi;have:=h.2 i G;unfold lt at this;rw[this];congr 1;omega
 ·intro h;refine⟨hk,λe he=> ?_⟩;have:=h e G;unfold lt;rw[<-this];congr 1;omega
theorem MB.least {k:Int} (hn:0<u.length) (h:MB u u.length k):(u.length:Int)-k=lp u:=by
 obtain⟨r,e,r1,r2,hp,Ui⟩:=EO hn;obtain⟨k0,hb,px⟩:=h;have sk:=hb.1;have h1:=px (u.length-r) ((aFj rfl G).2 (by rw[show u.length-(u.length-r)=r by omega];exact hp));have h2:=(aFj rfl hb.1).1 hb;rcases fe (u.length-k.toNat) r with a|a
 ·exact absurd h2 (Ui _ G a)
 ·omega
theorem BU: ∀a b:List Int,cmpL b a= -cmpL a b
 |[],[]=>rfl
 |[],_::_=>rfl
 |_::_,[]=>rfl
 |x::a,y::b=>by
  rw[cmpL,cmpL,BU a b];split<;>split<;>omega
theorem cmpL_eq: ∀a b:List Int,cmpL a b=0↔a=b
 |[],[]=>by simp[cmpL]
 |[],_::_=>by simp[cmpL]
 |_::_,[]=>by simp[cmpL]
 | x::a,y::b=>by
  have ih:=cmpL_eq a b;rw[cmpL];split
  ·simp;omega
  ·split
   ·simp;omega
   ·rw[ih];simp;omega
theorem aFb: ∀a b c:List Int,cmpL a b<=0->cmpL b c<=0->cmpL a c<=0
 |[],[],_,_,h=>h
 |[],_::_,[],_,h=>by simp[cmpL] at h
 |[],_::_,_::_,_,_=>by simp[cmpL]
 |_::_,[],_,h,_=>by simp[cmpL] at h
 |_::_,_::_,[],_,h=>by simp[cmpL] at h
 | x ::a,y::b,z::c,h1,h2=>by
  have ih:=aFb a b c;rw[cmpL] at h1 h2 ⊢;split at h1
  ·split at h2
   ·rw[cu G];omega
   ·split at h2
    ·omega
    ·rw[cu G];omega
  ·split at h1
   ·omega
   ·split at h2
    ·rw[cu G];omega
    ·split at h2
     ·omega
     ·rw[bu G,bu G];exact ih h1 h2
abbrev RT:=List Int × Int
def kT (a b:RT):Int:=if cmpL a.1 b.1≠0 then cmpL a.1 b.1 else kD a.2 b.2
theorem oH (a b:RT):kT b a= -kT a b:=by
 unfold kT;rw[BU a.1 b.1,aJp a.2 b.2];split<;>split<;>omega
theorem PU (a b:RT):kT a b=0↔a=b:=by
 unfold kT;have h1:=cmpL_eq a.1 b.1;have h2:= @jT a.2 b.2;rw[Prod.ext_iff];split
 ·rename_i c;constructor
  ·intro h;exact absurd h c
  ·intro h;exact absurd (h1.2 h.1) c
 ·rename_i c;rw[h2];constructor
  ·intro h;exact⟨h1.1 G,h⟩
  ·intro h;exact h.2
theorem aWe {a b:Int}:kD a b<=0↔a<=b:=by unfold kD;split<;>(try split)<;>omega
theorem UQ {a b:RT}:kT a b<=0↔cmpL a.1 b.1<0\/a.1=b.1/\a.2<=b.2:=by
 unfold kT;have h1:=cmpL_eq a.1 b.1;have h2:= @aWe a.2 b.2;split
 ·rename_i c;constructor
  ·intro h;left;omega
  ·rintro (h|h)
   ·omega
   ·exact absurd (h1.2 h.1) c
 ·rename_i c;rw[h2];constructor
  ·intro h;exact .inr ⟨h1.1 G,h⟩
  ·rintro (h|h)
   ·omega
   ·exact h.2
theorem EP (a b c:RT) (h1:kT a b<=0) (h2:kT b c<=0):kT a c<=0:=by
 rw[UQ] at h1 h2 ⊢;have h:=aFb a.1 b.1 c.1;have e1:=cmpL_eq a.1 b.1;have e2:=cmpL_eq b.1 c.1;have e3:=cmpL_eq a.1 c.1;rcases h1 with h1|h1
 ·rcases h2 with h2|h2
  ·have a1:=h G G;rcases Et a1 with g|g
   ·exact .inl g
   ·have e:=e3.1 g;rw[e,BU b.1 c.1] at h1;omega
  ·exact .inl (by rw[<-h2.1];exact h1)
 ·rcases h2 with h2|h2
  ·exact .inl (by rw[h1.1];exact h2)
  ·exact .inr ⟨h1.1.trans h2.1,G⟩
theorem DT {l m:List RT} (hp:l.Perm m) (hl:l.Pairwise λa b=>kT a b<=0) (hm:m.Pairwise λa b=>kT a b<=0):l=m:=
 hp.eq_of_pairwise (λa b _ _ h1 h2=>(PU a b).1 (by rw[oH a b] at h2;omega)) hl hm
def lw (u:List Int):List Int:=vW u (qH u)
def kH (c:List Int):List Int:=c.take (rl c).toNat
def iA (c:List Int):Int:=(c.length:Int)/rl c
def AZ (u:List Int):RT:=(kH (lw u),iA (lw u))
def dZ (ws:List (List Int)):List RT:=(ws.filter λw=>decide (0<w.length)).map AZ
def vY (ws:List (List Int)):List RT:=(dZ ws).mergeSort λa b=>decide (kT a b<=0)
def aZb (r:RT):List Int:=rep r.1 r.2
def canon (ws:List (List Int)):List (List Int):=(vY ws).map aZb
theorem rV (ws:List (List Int)):(vY ws).Perm (dZ ws):=List.mergeSort_perm _ _
theorem PD (ws:List (List Int)):(vY ws).Pairwise λa b=>kT a b<=0:=by
 have:=List.pairwise_mergeSort (le:=λa b:RT=>decide (kT a b<=0)) (λa b c h1 h2=>lh (EP a b c (Ak h1) (Ak h2))) (λa b=>by
  rw[zx,yz,yz,oH a b];omega) (dZ ws)
 exact this.imp λh=>Ak h
theorem MO {ws:List (List Int)} {l:List RT} (hp:l.Perm (dZ ws)) (hs:l.Pairwise λa b=>kT a b<=0):l=vY ws:=DT (hp.trans (rV ws).symm) hs (PD ws)
theorem IM (u:List Int):(lw u).length=u.length:=vE u _
theorem bAh:lw []=[]:=rfl
theorem bAa {a b:List Int} (hl:a.length=b.length) (h:om a=om b):a=b:=by
 refine bI hl λj h0 h1=> ?_;have:=congrFun h j.toNat;rw[CW G,CW G] at this;exact this
theorem aZh {c:List Int} (h:0<c.length):(c.length:Int)%rl c=0:=by
 obtain⟨r,e,r1,r2,_,_⟩:=EO h;unfold rl;split
 ·exact Int.emod_self
 ·omega
theorem TE {c:List Int} (h:0<c.length):((kH c).length:Int)=rl c:=by
 have:=yD h;unfold kH;rw[ax];omega
theorem LU {c:List Int} (h:0<c.length):iA c*rl c=c.length:=Int.ediv_mul_cancel (Int.dvd_of_emod_eq_zero (aZh h))
theorem AQ {c:List Int} (h:0<c.length):0<iA c:=by
 have h1:=LU h;have h2:=yD h;rcases ay 0 (iA c) with a|a
 ·exact a
 ·have:=Int.mul_nonneg_of_nonpos_of_nonpos a (show -(rl c)<=0 by omega);rw[Int.mul_neg] at this;omega
theorem aTo {c:List Int} (h:0<c.length):om (kH c)=om c:=by
 obtain⟨r,e,r1,r2,ho,_⟩:=aDd h;funext i;rw[ho i];unfold kH;rw[e];rfl
theorem CO {c:List Int} (h:0<c.length):rep (kH c) (iA c)=c:=by
 have hr:=TE h;have hp:=yD h;have ht:=AQ h
 have hl:(rep (kH c) (iA c)).length=c.length:=by
  rw[oW];have h1:=LU h
  have:((iA c).toNat*(kH c).length:Int)=c.length:=by
   rw[ou G,hr,h1]
  exact_mod_cast this
 refine bAa hl ?_;rw[show iA c=((iA c).toNat:Int) by omega];funext i;rw[aZz G G,aTo h]
theorem aHi {ws:List (List Int)} {r:RT} (h:r∈dZ ws): ∃w∈ws,0<w.length/\r=AZ w:=by
 unfold dZ at h;obtain⟨w,hw,e⟩:=il.1 h;obtain⟨h1,h2⟩:=mo.1 hw;exact⟨w,h1,Ak h2,e.symm⟩
theorem aHj {ws:List (List Int)} {r:RT} (h:r∈vY ws): ∃w∈ws,0<w.length/\r=AZ w:=aHi ((rV ws).subset h)
theorem lL (a b:List (List Int)):dZ (a++b)=dZ a++dZ b:=by unfold dZ;rw[qz,jh]
theorem aJt (ws:List (List Int)):(canon ws).length=(dZ ws).length:=by
 unfold canon;rw[bi,(rV ws).length_eq]
end Go.Pure
namespace Go.Eng
open Go Go.RowKit Go.Pure
section
variable {P:Program} {n:Nd} {B:Nat} {w0:World} {L:Env} {R:List Row} {ty:TypeId}
theorem aGx {w:World} {A:Option Addr} {m c:Nat} {k:IntKind} {u:List Int} (h:Rd w A m c 1 (ints k u)) (hA:A.isNone=true):u=[]:=by
 cases u with
 |nil=>rfl
 |cons y l=>
  obtain⟨b,g,_⟩:=h.at_ 0 (.int k y) (by simp[ints]);rw[g] at hA;cases hA
theorem SlR.weak {k:IntKind} {Rs Nk:List Row} {vals:List Value} {ls:List (List Int)} (h:SlR k Rs vals ls) (hr: ∀B w0 w,Hp B w0 w Nk->Hp B w0 w Rs):SlR k Nk vals ls:=
 ⟨h.1,λj hj=>by
  obtain⟨A,c,h1,h2⟩:=h.2 j hj
  exact⟨A,c,h1,λB w0 w hw=>h2 B w0 w (hr B w0 w hw)⟩⟩
theorem SlR.right {k:IntKind} {Rs:List Row} {vals:List Value} {ls:List (List Int)} (h:SlR k Rs vals ls) (X:List Row):SlR k (X++Rs) vals ls:=h.weak λ_ _ _ hw=>hw.right
theorem SlR.left {k:IntKind} {Rs:List Row} {vals:List Value} {ls:List (List Int)} (h:SlR k Rs vals ls) (T:List Row):SlR k (Rs++T) vals ls:=h.weak λ_ _ _ hw=>hw.left
theorem UV {l m:List (List Int)} {j:Nat} (h:j<l.length):(l++m).getD j []=l.getD j []:=by
 rw[af,af,je h]
theorem SlR.app {k:IntKind} {Rs:List Row} {v1 v2:List Value} {l1 l2:List (List Int)} (h:SlR k Rs v1 l1) (g:SlR k Rs v2 l2):SlR k Rs (v1++v2) (l1++l2):=by
 refine⟨by simp[h.1,g.1],λj hj=> ?_⟩;rcases fe j l1.length with q|q
 ·obtain ⟨A,c,h1,h2⟩:=h.2 j q;rw[UV q,je (by rw[h.1];exact q)];exact⟨A,c,h1,h2⟩
 ·rw [ah] at hj;obtain⟨A,c,h1,h2⟩:=g.2 (j-l1.length) G
  have e:(l1++l2).getD j []=l2.getD (j-l1.length) []:=by
   rw[af,af,iy q]
  rw[e,iy (by rw[h.1];exact q),h.1];exact⟨A,c,h1,h2⟩
theorem SlR.take {k:IntKind} {Rs:List Row} {vals:List Value} {ls:List (List Int)} (h:SlR k Rs vals ls) (i:Nat):SlR k Rs (vals.take i) (ls.take i):=by
 refine⟨by simp[h.1],λj hj=> ?_⟩;rw[ax] at hj;obtain⟨A,c,h1,h2⟩:=h.2 j G
 have e:(ls.take i).getD j []=ls.getD j []:=by
  rw[af,af,ng G]
 rw[e,ng G];exact⟨A,c,h1,h2⟩
theorem SlR.drop {k:IntKind} {Rs:List Row} {vals:List Value} {ls:List (List Int)} (h:SlR k Rs vals ls) (i:Nat):SlR k Rs (vals.drop i) (ls.drop i):=by
 refine⟨by simp[h.1],λj hj=> ?_⟩;rw[bg] at hj;obtain⟨A,c,h1,h2⟩:=h.2 (i+j) G
 have e:(ls.drop i).getD j []=ls.getD (i+j) []:=by
  rw[af,af,qc]
 rw[e,qc];exact⟨A,c,h1,h2⟩
theorem SlR.single {k:IntKind} {Rs:List Row} {A:Option Addr} {m c:Nat} {l:List Int} (hm:m=l.length) (h: ∀B w0 w,Hp B w0 w Rs->Rd w A m c 1 (ints k l)):SlR k Rs [.slice A m c] [l]:=by
 subst hm;refine⟨rfl,λj hj=> ?_⟩;simp only[ic] at hj;obtain rfl:j=0:=G
 exact⟨A,c,rfl,h⟩
theorem SlR.push {k:IntKind} {Rs:List Row} {vals:List Value} {ls:List (List Int)} {A:Option Addr} {m c:Nat} {l:List Int} (h:SlR k Rs vals ls) (hm:m=l.length) (hr: ∀B w0 w,Hp B w0 w Rs->Rd w A m c 1 (ints k l)):SlR k Rs (vals++[.slice A m c]) (ls++[l]):=h.app (SlR.single hm hr)
theorem SlR.one {k:IntKind} {Rs:List Row} {vals:List Value} {ls:List (List Int)} (h:SlR k Rs vals ls): ∀v∈vals,v.oneCell'=true:=λv hv=>by
 obtain⟨j,hj,e⟩:=gz.1 hv;obtain⟨A,c,h1,_⟩:=h.2 j (by rw[<-h.1];exact hj);rw[av hj,e] at h1;obtain rfl:=iw h1;simp[Value.oneCell']
def OkB (ls:List (List Int)):Prop:= ∀l∈ls,aO l/\l.length<=140737488355327
theorem SlW.take {k:IntKind} {w:World} {vals:List Value} {ls:List (List Int)} (h:SlW k w vals ls) (i:Nat):SlW k w (vals.take i) (ls.take i):=by
 refine⟨by simp[h.1],λj hj=> ?_⟩;rw[ax] at hj
 have e:(ls.take i).getD j []=ls.getD j []:=by
  rw[af,af,ng G]
 rw[e,ng G];exact h.2 j G
theorem SlW.one {k:IntKind} {w:World} {vals:List Value} {ls:List (List Int)} (h:SlW k w vals ls): ∀v∈vals,v.oneCell'=true:=λv hv=>by
 obtain⟨j,hj,e⟩:=gz.1 hv;obtain⟨A,c,h1,_⟩:=h.2 j (by rw[<-h.1];exact hj);rw[av hj,e] at h1;obtain rfl:=iw h1;simp[Value.oneCell']
theorem SlW.app {k:IntKind} {w:World} {v1 v2:List Value} {l1 l2:List (List Int)} (h:SlW k w v1 l1) (g:SlW k w v2 l2):SlW k w (v1++v2) (l1++l2):=by
 refine⟨by simp[h.1,g.1],λj hj=> ?_⟩;rcases fe j l1.length with q|q
 ·rw [UV q,je (by rw[h.1];exact q)];exact h.2 j q
 ·rw [ah] at hj
  have e:(l1++l2).getD j []=l2.getD (j-l1.length) []:=by
   rw[af,af,iy q]
  rw[e,iy (by rw[h.1];exact q),h.1];exact g.2 (j-l1.length) G
theorem SlW.okB {w:World} {vals:List Value} {ls:List (List Int)} (h:SlW .u8 w vals ls):OkB ls:=λl hl=>by
 obtain⟨j,hj,e⟩:=gz.1 hl;obtain⟨A,c,_,_,h3,h4⟩:=h.2 j hj;have e2:ls.getD j []=l:=by rw[af,av hj,e];rfl
 rw[e2] at h3 h4;exact⟨byteL_wf h3,h4⟩
structure RC where
 A:Option Addr
 c:Nat
 root:List Int
 times:Int
def encR (r:RC):List Value:=[.slice r.A r.root.length r.c, .int .i64 r.times]
def RC.rt (r:RC):RT:=(r.root,r.times)
def rdG (l:List RC) (i:Int):RC:=l.getD i.toNat ⟨none,0,[],0⟩
def rgs (l:List RC):List Value:=l.flatMap encR
def RgR (Rs:List Row) (l:List RC):Prop:= ∀r∈l,aO r.root/\ ∀(B:Nat) (w0 w:World),Hp B w0 w Rs->Rd w r.A r.root.length r.c 1 (ints .u8 r.root)
theorem RgR.nil (Rs:List Row):RgR Rs []:=λr h=>by cases h
theorem RgR.weak {Rs Nk:List Row} {l:List RC} (h:RgR Rs l) (hr: ∀B w0 w,Hp B w0 w Nk->Hp B w0 w Rs):RgR Nk l:=λr h'=>⟨(h r h').1,λB w0 w hw=>(h r h').2 B w0 w (hr B w0 w hw)⟩
theorem RgR.right {Rs:List Row} {l:List RC} (h:RgR Rs l) (X:List Row):RgR (X++Rs) l:=h.weak λ_ _ _ hw=>hw.right
theorem RgR.snoc {Rs:List Row} {l:List RC} {e m:Nat} {A:Option Addr} {c:Nat} {u:List Int} {t:Int} {ro:Bool} (h:RgR Rs l) (hm:m=u.length) (hb:aO u):RgR (⟨e,1,A,m,c,ints .u8 u,ro⟩::Rs) (l++[⟨A,c,u,t⟩]):=λr hr=>by
 subst hm;rcases fw.1 hr with hr|hr
 ·exact⟨(h r hr).1,λB w0 w hw=>(h r hr).2 B w0 w hw.tail⟩
 ·obtain rfl:=jc.1 hr;exact⟨hb,λB w0 w hw=>rdr (R:=⟨e,1,A,u.length,c,ints .u8 u,ro⟩::Rs) 0 rfl w hw⟩
theorem RgR.perm {Rs:List Row} {l m:List RC} (h:RgR Rs l) (hp:m.Perm l):RgR Rs m:=λr hr=>h r (hp.subset hr)
theorem aDh (l:List RC):(rgs l).length=l.length*2:=aPp (enc:=encR) (λ_=>rfl) l
theorem aDi (l m:List RC):rgs (l++m)=rgs l++rgs m:=List.flatMap_append
theorem aTu (l:List RC): ∀v∈rgs l,v.oneCell'=true:=λv hv=>by
 obtain⟨r,_,h⟩:=He.1 hv;simp only[encR,jf,yf,or_false] at h;rcases h with rfl|rfl<;>rfl
theorem aPy (x:RC): ∀v∈encR x,v.oneCell'=true:=λv hv=>by
 simp only[encR,jf,yf,or_false] at hv;rcases hv with rfl|rfl<;>rfl
theorem aDl {l:List RC} {i:Int} (h0:0<=i) (h1:i<l.length):rdG l i∈l:=by
 unfold rdG;rw[af,av G];exact kz _
theorem aZm {l:List RC} {i:Int} (h0:0<=i) (h1:i<l.length):((rgs l).drop (i.toNat*2)).take 2=encR (rdG l i):=by
 have e:l=l.take i.toNat++rdG l i::l.drop (i.toNat+1):=by
  conv=>lhs;rw[<-gq i.toNat l]
  congr 1;rw[jw G];congr 1;unfold rdG;rw[af,av G];rfl
 have hl:(rgs (l.take i.toNat)).length=i.toNat*2:=by rw[aDh,ax,xu G]
 have e2:rgs l=rgs (l.take i.toNat)++(encR (rdG l i)++rgs (l.drop (i.toNat+1))):=by
  conv=>lhs;rw[e]
  rw[aDi];rfl
 rw[e2,Dz hl];rfl
theorem bCh {x:Operand} {t:TypeId} {d:TypeDesc} {A:Option Addr} {m c:Nat} {l:List RC} {i:Int} (hu:P.underlying t=some d) (hd:BZ d=true) (ee:(P.info? t).map (·.size)=some 2) (hx:ev L x=some (.pointer (pat A (i.toNat*2)))) (hr:RdC B w0 R A m c 2 (rgs l)) (h0:0<=i) (h1:i<l.length):
  Yl P n B w0 (.load t x) ty L R (.agg #[.slice (rdG l i).A (rdG l i).root.length (rdG l i).c, .int .i64 (rdG l i).times]):=by
 have:=aCj (P:=P) (n:=n) (B:=B) (w0:=w0) (R:=R) (ty:=ty) hu hd ee hx rfl hr (by rw[aDh];omega) G;rwa[aZm h0 h1] at this
theorem aKk {s x:Operand} {t e:TypeId} {z:Value} {bytes m p c c2:Nat} {A A2:Option Addr} {l news:List RC} (i:Nat) (hi:R[i]? =some ⟨e,2,A,p,c,rgs l,false⟩) (ht:P.underlying t=some (.slice e)) (co:(P.info? e).map (λi=>(i.zero,i.size,i.bytes))=some (some z,2,bytes)) (hz:z.cells.size=2) (a7:Nat.blt 0 bytes=true)
  (hs:ev L s=some (.slice A p c)) (hx:ev L x=some (.slice A2 m c2)) (ie:RdC B w0 R A2 m c2 2 (rgs news)) (gs:(p+m)*bytes<=140737488355328):
  Ac P n B w0 (.call {callee:= .builtin .append,args:= #[s,x],argTypes:= #[t,t]}) ty L R (λv R'=> ∃A' c',v= .slice A' (p+m) c'/\R'=R.set i ⟨e,2,A',p+m,c',rgs (l++news),false⟩):=by
 have:=rJ (P:=P) (n:=n) (B:=B) (w0:=w0) (ty:=ty) i hi rfl ht co hz rfl a7 hs hx ie (aTu news) gs;simp only[<-aDi] at this;exact this
theorem bBn {t e:TypeId} {x:Operand} (r:RC) (ht:P.underlying t=some (.slice e)) (co:(P.info? e).map (λi=>(i.zero,i.size))=some (some (.agg #[.slice none 0 0, .int .i64 0]),2)) (hx:ev L x=some (.agg #[.slice r.A r.root.length r.c, .int .i64 r.times])):
  Ac P n B w0 (.buildSlice t 1 #[(0,x)]) ty L R (λv R'=> ∃g,v= .slice (some ⟨g,0,none⟩) 1 1/\R'=⟨e,2,some ⟨g,0,none⟩,1,1,rgs [r],false⟩::R):=by
 have hv:evp L [(0,x)]=some [(0, .agg #[.slice r.A r.root.length r.c, .int .i64 r.times])]:=by simp[evp,hx]
 exact nZ (P:=P) (n:=n) (B:=B) (w0:=w0) (L:=L) (R:=R) (ty:=ty) (len:=1) (ps:=[(0,x)]) (cells:= #[.slice r.A r.root.length r.c, .int .i64 r.times]) ht co hv cC cC cA (by rfl)
end
end Go.Eng
namespace Go.Proofs.YtdbebmmhdefgdaaGreat
open Go Go.Eng Go.Pure
set_option maxRecDepth 100000
variable {w:World} {x:Int}
theorem NH:
  Ct Tryz.prog 194 #[I x] w.heap.size w [] (λv R'=>v=bf):=by
 refine fn1 Ib Z Z Z ?_;refine wq<|wn Z<|wq<|wm Z<|wm Z<|wy (Yl.f (iZ Z Z))<|wn Z<|dF ?_;refine⟨_,Z,?_⟩;rfl
theorem nJ {y:Int}:
  Ct Tryz.prog 121 #[I x,I y] w.heap.size w [] (λv R'=>v=I (kD x y)):=by
 refine fn1 Tryz.func121 Z Z Z ?_;refine wq<|wn Z<|wq<|wm Z<|wa (aF aYe Z (Ct.quiet (λw hw=>NH))) ?_;rintro _ _ ⟨rfl,rfl⟩;refine wn Z<|wq<|wm Z<|wa (aF aYe Z (Ct.quiet (λw hw=>NH))) ?_;rintro _ _ ⟨rfl,rfl⟩;refine wn Z<|aG<|wq<|wm Z<|aA<|aL Z<|aJ<|aG<|wq<|wm Z<|aA<|aL Z ?_;refine aJ<|aG<|wq<|wm Z<|wm Z<|wL Z Z<|aA<|bJ Z (λaq=> ?_) (λaq=> ?_)
 ·refine wq<|wn Z<|dF ?_;refine⟨_,Z,?_⟩;exact bz (Value.int .i64) (by unfold kD;rw[cu G])
 ·refine aJ<|aG<|wq<|wm Z<|wm Z<|wy (dV Z Z)<|aA<|bJ Z (λcr=> ?_) (λcr=> ?_)
  ·refine wq<|wn Z<|dF ?_;refine⟨_,Z,?_⟩;exact bz (Value.int .i64) (by unfold kD;rw[bu G,cu G])
  ·refine aJ<|wq<|wn Z<|dF ?_;refine⟨_,Z,?_⟩;exact bz (Value.int .i64) (by unfold kD;rw[bu G,bu G])
open Tryz
variable {w:World} {ao:Option Addr} {ap an:Nat} {u:List Int}
theorem bAc (am:Rd w ao ap an 1 (ints .u8 u)) (ac:aO u) (hN:u.length<=1000000):
  Ct Tryz.prog 116 #[sl ao ap an] w.heap.size w [] (λv R'=> ∃A c,v=sl A (lw u).length c/\R'=[(ru 5 A ((lw u).length) c (lw u))]):=by
 obtain rfl:=am.lenI;refine fn1 Tryz.func116 Z Z Z ?_;have pd:=am.max;have Pj:=aVd u;have Xb:([u.drop (qH u).toNat,u.take (qH u).toNat]:List (List Int)).flatten=lw u:=by simp[lw,vW]
 have hlw:=IM u;refine wq<|wn Z<|wq<|wm Z<|wa (aF bEp Z (Ct.quiet (λw hw=>bBk ((am.c _) w hw) cE))) ?_;rintro _ _ ⟨rfl,rfl⟩;refine wn Z<|aG<|bT mixed<|wD 0 Z (aN Z)<|wD 1 Z (aN Z)<|wD 2 Z (iP ai sz5 Z Z)<|wD 3 Z (aN Z)<|wD 4 Z (aN Z)<|wD 5 Z (gD ai sz5 Z Z (am.c _)) ?_;have yq:SlW .u8 w [sl (iY ao (qH u).toNat an 1) (u.length-(qH u).toNat) (an-(qH u).toNat),sl ao ((qH u).toNat) an] [u.drop (qH u).toNat,u.take (qH u).toNat]:=((jA _ _).snoc (am.fromI (l:=(qH u).toNat) G) (λx hx=>fH (ac x (pg hx))) (by rw[bg];omega)).snoc (am.toI G) (λx hx=>fH (ac x (lu hx))) (by rw[ax];omega);refine wC 6 Z (nN [Value.slice (iY ao (qH u).toNat an 1) (u.length-(qH u).toNat) (an-(qH u).toNat),Value.slice ao ((qH u).toNat) an] gp xK Z Z Z Z) ?_;rintro _ _ ⟨cv,rfl,rfl⟩;refine⟨.inr λ_ h=>h.right (R':=[_]),?_⟩;refine wC 7 Z (aF KV Z (Ct.fresh (λw hw=>jL ((rdr 0 Z) w hw) (yq.c hw) (by rw[Xb];exact⟨G,cD⟩)))) ?_;rintro _ _ ⟨_,rfl,ij,io,rfl,rfl⟩;refine⟨.inr λ_ h=>h.right (R':=[_]),?_⟩;refine wD 8 Z (bP Z)<|wN<|aT [0] 99 cC Z ?_;refine⟨_,Z,?_⟩;rw[Xb];exact⟨_,_,Z,Z⟩
theorem lG (am:Rd w ao ap an 1 (ints .u8 u)) (hN:u.length<=1000000):
  Ct Tryz.prog 57 #[sl ao ap an] w.heap.size w [] (λv R'=> ∃A c,v=sl A (u).length c/\R'=[(ru 5 A ((u).length) c (u))]):=by
 obtain rfl:=am.lenI;refine fn1 Tryz.func57 Z Z Z ?_;have pd:=am.max;refine wq<|dH (R1:=[(ru 5 none 0 0 ([]))]) (Sub.refl _) (λ_ h=>h.nil 5 1)<|wn Z<|aG<|wq<|wm Z<|wy (aCh ai Z Z)<|aA<|FC Z (λaq=> ?_) (λaq=> ?_)
 ·refine wq<|wn Z<|aT [0] 99 cC Z ?_;refine⟨_,Z,?_⟩;obtain rfl:=aGx am aq;exact⟨_,_,Z,Z⟩
 ·refine aJ<|wq<|wa (bS .u8 [] ai zs5 Z Z Z) ?_;rintro _ _ ⟨cv,rfl,rfl⟩;refine wm Z<|wa (bE 0 Z ai zb5 Z Z Z (am.c _)) ?_;rintro _ _ ⟨ij,io,rfl,rfl⟩;refine bN (v:=sl ij (0+u.length) io) Z<|wn Z<|aT [0] 99 cC Z ?_;refine⟨_,Z,?_⟩;simp only[jb,ni];exact⟨_,_,Z,Z⟩
theorem QE {rg:Option Addr} {rn rh:Nat} {t:List Int} (am:Rd w ao ap an 1 (ints .u8 u)) (Kj:Rd w rg rn rh 1 (ints .u8 t)) (ac:aO u) (Jx:aO t):
  Ct Tryz.prog 120 #[sl ao ap an,sl rg rn rh] w.heap.size w [] (λv R'=>v=I (cmpL u t)):=by
 obtain rfl:=am.lenI;obtain rfl:=Kj.lenI;refine fn1 Tryz.func120 Z Z Z ?_;have pd:=am.max;have m_t:=Kj.max;refine wq<|wn Z<|wq<|wm Z<|wm Z<|wa (bFt Tryz.func193 cA cA cA cA Z Z (am.c _) (Kj.c _) ac Jx) ?_;rintro _ _ ⟨rfl,rfl⟩;refine wn Z<|dF ?_;refine⟨_,Z,?_⟩;rfl
theorem NZ {L:List Int} {i z:Int} (i1:1<=i) (hi:i<u.length) (hl:L.length=u.length) (hM: ∀j:Int,0<=j->j<i->j<u.length->MB u (j+1).toNat (rd L j)) (h:MB u (i.toNat+1) z): ∀j:Int,0<=j->j<i+1->j<u.length->MB u (j+1).toNat (rd (upd L i z) j):=λj h0 h1 h2=>by
 by_cases e:j=i
 ·subst e;rw[eD G G,show(j+1).toNat=j.toNat+1 by omega];exact h
 ·rw [eP G h0 (λq=>e q.symm)];exact hM j h0 G h2
set_option maxHeartbeats 800000 in
theorem aBo (am:Rd w ao ap an 1 (ints .u8 u)) (hN:u.length<=1000000):
  Ct Tryz.prog 242 #[sl ao ap an] w.heap.size w [] (λv R'=> ∃(A:Option Addr) (c:Nat) (L:List Int),v=sl A L.length c/\L.length=u.length/\(∀j:Int,0<=j->j<u.length->j<u.length->MB u (j+1).toNat (rd L j))/\R'=[(ri 3 A L.length c L)]):=by
 obtain rfl:=am.lenI;refine fn1 Tryz.func242 Z Z Z ?_;have pd:=am.max;refine wq<|wn Z<|wq<|wm Z<|wy (aQ ai Z)<|wa (dE aa zb3 Z Z) ?_;rintro _ _ ⟨al,rfl,rfl⟩;refine iW (R1:=[(ri 3 (GG al) u.length u.length (List.replicate u.length (0:Int)))]) Z<|bN (v:=sl (GG al) u.length u.length) Z<|wn Z<|wq<|wn Z<|aG<|wq<|wn Z<|aI ?_;refine fU (λ(i:Int) (z:Int) (L:List Int)=>[(0,sl ao u.length an),(3,sl (GG al) u.length u.length),(4,I z),(5,I i)]) (λi z L=>[(ri 3 (GG al) u.length u.length L)]) (λi z L=>(1<=i)/\(i<=u.length\/i=1)/\(L.length=u.length)/\(∀j:Int,0<=j->j<i->j<u.length->MB u (j+1).toNat (rd L j))/\(MB u i.toNat z)) (λi z L=>(u.length-i).toNat) ?_ ?_
 ·exact⟨1,0,List.replicate u.length (0:Int),⟨G,G,(by rw[bq]),(λj h0 h1 h2=>by obtain rfl:j=0:=G;have e:rd (List.replicate u.length (0:Int)) 0=0:=(by unfold rd;rw[af,zk];split<;>rfl);rw[e];exact MB.one),(MB.one)⟩,SA,λ_ h=>h⟩
 intro i z L ⟨ia,Ox,d7,hM,hn⟩;refine aG<|wq<|wm Z<|wm Z<|wy (aQ ai Z)<|wL Z Z<|aA<|bJ Z (λaq=> ?_) (λaq=> ?_)
 ·refine aJ<|aG<|aI<|aG<|aI ?_;refine pX (λ(m:Int)=>[(0,sl ao u.length an),(3,sl (GG al) u.length u.length),(4,I m),(5,I i)]) (λm=>[(ri 3 (GG al) u.length u.length L)]) (λm=>(KI u i.toNat m)) (λm=>m.toNat) ?_ ?_
  ·exact⟨z,(KI.init hn),SA,λ_ h=>h⟩
  intro m hK;have hKb:=hK.bd;refine aG ?_;refine vC [(0,sl ao u.length an),(3,sl (GG al) u.length u.length),(4,I m),(5,I i),(27, .bool (decide ((0<m)/\((rd u i)≠(rd u m)))))] [(ri 3 (GG al) u.length u.length L)] ?_ ?_
  ·refine bT mixed<|wD 0 Z (aN Z)<|wD 1 Z (dV Z Z)<|wD 2 Z (aN Z)<|mZ 17 Z (λcr=> ?_) (λcr=> ?_)
   ·refine wG 3 Z Z Z (aN Z)<|wG 4 Z Z Z (aN Z)<|wG 5 Z Z Z (aH ai sz5 Z Z (am.c _))<|wG 6 Z Z Z (aX cz Z Z (am.c _))<|wG 7 Z Z Z (aN Z)<|wG 8 Z Z Z (aN Z)<|wG 9 Z Z Z (aH ai sz5 Z Z (am.c _))<|wG 10 Z Z Z (aX cz Z Z (am.c _))<|wG 11 Z Z Z (iZ Z Z)<|wD 12 Z (aY Z Z)<|wN ?_;exact⟨SA,λ_ h=>h⟩
   ·refine wO 3 Z Z Z<|wO 4 Z Z Z<|wO 5 Z Z Z<|wO 6 Z Z Z<|wO 7 Z Z Z<|wO 8 Z Z Z<|wO 9 Z Z Z<|wO 10 Z Z Z<|wO 11 Z Z Z<|wD 12 Z (aR Z Z)<|wN ?_;exact⟨SA,λ_ h=>h⟩
  refine bJ Z (λfd=> ?_) (λfd=> ?_)
  ·have ee:rd u m≠rd u i:=λe=>fd.2 e.symm;have Sz:=hM (m-1) G G G;rw[show(m-1+1).toNat=m.toNat by omega] at Sz;refine aJ<|aI<|aM<|wm Z<|wm Z<|wS Z Z<|wy (aH aa sz3 Z Z (rdr 0 Z))<|wy (aX ak Z Z (rdr 0 Z))<|wn Z ?_;exact⟨rd L (m-1),(hK.step (by rw[<-IQ,<-IQ];exact ee) Sz),(by have:=Sz.bd;omega),SA,λ_ h=>h⟩
  ·refine aZ<|aG<|aG<|bT mixed<|wD 0 Z (aN Z)<|wD 1 Z (aN Z)<|wD 2 Z (aH ai sz5 Z Z (am.c _))<|wD 3 Z (aX cz Z Z (am.c _))<|wD 4 Z (aN Z)<|wD 5 Z (aN Z)<|wD 6 Z (aH ai sz5 Z Z (am.c _))<|wD 7 Z (aX cz Z Z (am.c _))<|wD 8 Z (bC Z Z)<|wN<|bJ Z (λka=> ?_) (λka=> ?_)
   ·have Ms:=hK.hit (by rw[<-IQ,<-IQ];exact ka.symm);refine aM<|wm Z<|wA Z Z<|wn Z<|aM<|wm Z<|wm Z<|wm Z<|wy (aH aa sz3 Z Z (rdr 0 Z))<|bX (bG 0 Z sz3 Z Z) ?_;rintro _ _ rfl;refine iW (R1:=[(ri 3 (GG al) u.length u.length (upd L i (m+1)))]) Z<|aA<|aM<|wm Z<|wA Z Z<|wn Z ?_;exact⟨i+1,m+1,upd L i (m+1),⟨G,G,(by rw[aV];exact d7),(NZ ia G d7 hM Ms),(by rw[show(i+1).toNat=i.toNat+1 by omega];exact Ms)⟩,G,SA,λ_ h=>h⟩
   ·have Ms:=hK.miss G (by rw[<-IQ,<-IQ];exact λe=>ka e.symm);refine aJ<|aM<|wm Z<|wm Z<|wm Z<|wy (aH aa sz3 Z Z (rdr 0 Z))<|bX (bG 0 Z sz3 Z Z) ?_;rintro _ _ rfl;refine iW (R1:=[(ri 3 (GG al) u.length u.length (upd L i m))]) Z<|aA<|aM<|wm Z<|wA Z Z<|wn Z ?_;exact⟨i+1,m,upd L i m,⟨G,G,(by rw[aV];exact d7),(NZ ia G d7 hM Ms),(by rw[show(i+1).toNat=i.toNat+1 by omega];exact Ms)⟩,G,SA,λ_ h=>h⟩
 ·refine aZ<|wq<|wm Z<|wn Z<|bR (R1:=[(ri 3 (GG al) u.length u.length L)]) (λ_ h=>h.sel [0] cC Z) ?_;refine⟨_,Z,?_⟩;exact⟨_,_,L,by rw[d7],d7,λj h0 h1 _=>hM j h0 G h1,by rw[d7]⟩
theorem aHu (am:Rd w ao ap an 1 (ints .u8 u)) (hN:u.length<=1000000):
  Ct Tryz.prog 189 #[sl ao ap an] w.heap.size w [] (λv R'=>v=I (lp u)):=by
 obtain rfl:=am.lenI;refine fn1 Tryz.func189 Z Z Z ?_;have pd:=am.max;refine wq<|wn Z<|aG<|wq<|wm Z<|wy (aQ ai Z)<|wy (bC Z Z)<|aA<|bJ Z (λaq=> ?_) (λaq=> ?_)
 ·refine wq<|wn Z<|dF ?_;refine⟨_,Z,?_⟩;exact bz (Value.int .i64) (by rw[ed (show u.length=0 by omega)];rfl)
 ·refine aJ<|wq<|wm Z<|wy (aQ ai Z)<|wm Z<|wa (aF bEd Z (Ct.fresh (λw hw=>aBo ((am.c _) w hw) cE))) ?_;rintro _ _ ⟨_,rfl,bx,br,L_3,rfl,d7,Wl,rfl⟩;refine wm Z<|wy (aQ ai Z)<|wS Z Z<|wy (aH aa sz3 Z Z (rdr 0 Z))<|wy (aX ak Z Z (rdr 0 Z))<|wy (jE Z Z (by have hq:=(Wl (u.length-1) G G G).bd;omega)) ?_;refine wn Z<|aT [] 99 cC Z ?_;refine⟨_,Z,?_⟩;exact bz (Value.int .i64) (MB.least G (by have:=Wl (u.length-1) G G G;rw[show((u.length:Int)-1+1).toNat=u.length by omega] at this;exact this))
theorem aMg (am:Rd w ao ap an 1 (ints .u8 u)) (hN:u.length<=1000000):
  Ct Tryz.prog 115 #[sl ao ap an] w.heap.size w [] (λv R'=> ∃(A:Option Addr) (c:Nat),v= .tuple #[sl A (kH u).length c,I (iA u)]/\R'=[(ru 5 A ((kH u).length) c (kH u))]):=by
 obtain rfl:=am.lenI;refine fn2 Tryz.func115 Z Z Z ?_;have pd:=am.max;refine wq<|dH (R1:=[(ru 5 none 0 0 ([]))]) (Sub.refl _) (λ_ h=>h.nil 5 1)<|wg Z<|wn Z<|aG<|wq<|wm Z<|wy (aQ ai Z)<|wy (bC Z Z)<|aA<|bJ Z (λaq=> ?_) (λaq=> ?_)
 ·refine wq<|wg Z<|wn Z<|aT [0] 99 cC Z ?_;refine⟨_,_,Z,Z,?_⟩;obtain rfl:=ed (show u.length=0 by omega);exact⟨_,_,Z,Z⟩
 ·have Ix:=aOl (u:=u) G;refine aJ<|wq<|wm Z<|wa (aF bEq Z (Ct.quiet (λw hw=>aHu ((am.c _) w hw) cE))) ?_;rintro _ _ ⟨rfl,rfl⟩;refine wn Z<|aG<|wq<|wm Z<|wy (aQ ai Z)<|wm Z<|wy (CE Z Z)<|wy (iZ Z Z)<|aA<|bJ Z (λcr=> ?_) (λcr=> ?_)
  ·refine aM<|wm Z<|wy (aQ ai Z)<|wn Z<|aG<|bT mixed<|wD 0 Z (aN Z)<|wD 1 Z (aN Z)<|wD 2 Z (gD ai sz5 Z Z (am.c _))<|wD 4 Z (aN Z)<|wD 5 Z (aQ ai Z)<|wD 6 Z (aN Z)<|wD 7 Z (OM Z Z G G G)<|wC 3 Z (aF VK Z (Ct.fresh (λw hw=>lG ((RdC.toI (am.c _) G) w hw) (by rw[ax];omega)))) ?_;rintro _ _ ⟨_,rfl,bx,br,rfl,rfl⟩;refine⟨.inr λ_ h=>h.right (R':=[_]),?_⟩;refine wD 8 Z (bP Z)<|wD 9 Z (bP Z)<|wN<|aT [0] 99 cC Z ?_;refine⟨_,_,Z,Z,?_⟩;have e:rl u=u.length:=by unfold rl;rw[cu cF]
   unfold kH iA;rw[e];exact⟨_,_,Z,Z⟩
  ·refine aJ<|aG<|bT mixed<|wD 0 Z (aN Z)<|wD 1 Z (aN Z)<|wD 2 Z (gD ai sz5 Z Z (am.c _))<|wD 4 Z (aN Z)<|wD 5 Z (aQ ai Z)<|wD 6 Z (aN Z)<|wD 7 Z (OM Z Z G G G)<|wC 3 Z (aF VK Z (Ct.fresh (λw hw=>lG ((RdC.toI (am.c _) G) w hw) (by rw[ax];omega)))) ?_;rintro _ _ ⟨_,rfl,kd,km,rfl,rfl⟩;refine⟨.inr λ_ h=>h.right (R':=[_]),?_⟩;refine wD 8 Z (bP Z)<|wD 9 Z (bP Z)<|wN<|aT [0] 99 cC Z ?_;refine⟨_,_,Z,Z,?_⟩;have e:rl u=lp u:=by unfold rl;rw[bu cF]
   unfold kH iA;rw[e];exact⟨_,_,Z,Z⟩
variable {w w0:World} {ao:Option Addr} {ap an B g:Nat} {u:List Int} {R:List Row} {V:Int}
theorem QD (am:Rd w ao ap an 1 (ints .u8 u)) (hN:u.length<=1000000):
  Ct Tryz.prog 50 #[sl ao ap an] w.heap.size w [] (λv R'=> ∃g A c,v=PG g/\R'=[(rc 146 1 g [sl A u.length c]),(ru 5 A u.length c u)]):=by
 obtain rfl:=am.lenI;refine fn1 Tryz.func50 Z Z Z ?_;have pd:=am.max;refine wq<|wn Z<|wq<|wm Z<|wa (aF VK Z (Ct.fresh (λw hw=>lG ((am.c _) w hw) hN))) ?_;rintro _ _ ⟨_,rfl,bx,br,rfl,rfl⟩;refine wy (dU (v:= .agg #[sl bx u.length br]) Z (λw=>cA))<|wa (bY (sz:=1) rfl rfl) ?_;rintro _ _ ⟨dq,rfl,rfl⟩;refine wn Z<|bR (R1:=[(rc 146 1 dq [sl bx u.length br]),(ru 5 bx u.length br u)]) (λ_ h=>h) ?_;refine⟨_,Z,?_⟩;exact⟨_,_,_,Z,Z⟩
theorem wM {k:Int} (am:RdC B w0 R ao ap an 1 (ints .u8 u)) (bl:ap=u.length) (hN:u.length<=1000000) (hk:0<=k/\k<=u.length):
  Ct Tryz.prog 156 #[PG g,I k] B w0 ((rc 146 1 g [sl ao ap an])::R) (λv R'=> ∃A1 c1,v= .tuple #[sl A1 k.toNat c1,bt]/\R'=(ru 5 A1 k.toNat c1 (u.take k.toNat))::(rc 146 1 g [sl ((iY ao k.toNat an 1)) (ap-k.toNat) (an-k.toNat)])::R):=by
 subst bl;refine fn2 Tryz.func156 Z Z Z ?_;refine wq<|wg Z<|wn Z<|aG<|wq<|wm Z<|wy (dA ze Z Z)<|wm Z<|aC Z Z<|wm Z<|aC Z Z<|wy (Yl.f (eO Z Z)) ?_;refine wy (aR Z Z)<|wm Z<|aC Z Z<|wm Z<|aC Z Z<|wm Z<|aC Z Z<|wy (aD Z)<|aC Z Z<|wy (aB (off:=0) (m:=0) zf Z dO Z Z Z)<|aC Z Z<|wy (aK (rdr 0 Z) ai Z Z Z)<|aC Z Z<|wy (aQ ai Z)<|aC Z Z ?_;refine wy (Yl.f (dV Z Z))<|wy (aR Z Z)<|aA<|aL Z<|aJ<|wq<|wm Z<|wy (aD Z)<|wy (aB (off:=0) (m:=0) zf Z dO Z Z Z)<|wy (aK (rdr 0 Z) ai Z Z Z)<|wm Z<|wy (gD ai sz5 Z Z (RdC.right am [_]))<|wa (aF VK Z (Ct.fresh (λw hw=>lG ((RdC.toI (RdC.right am [_]) G) w hw) (by rw[ax];omega)))) ?_;rintro _ _ ⟨_,rfl,bx,br,rfl,rfl⟩;refine wn Z<|wq<|wm Z<|wm Z<|wy (aD Z)<|wy (aB (off:=0) (m:=0) zf Z dO Z Z Z)<|wy (aK (rdr 1 Z) ai Z Z Z)<|wm Z<|wy (iP ai sz5 Z Z)<|wy (aD Z)<|wy (aB (off:=0) (m:=0) zf Z dO Z Z Z)<|bX (bA 1 Z Z Z dO Z Z Z Z (au Z)) ?_;rintro _ _ rfl;refine aA<|wq<|wm Z<|wg Z<|wn Z<|bR (R1:=((ru 5 bx (((u).take (k).toNat).length) br ((u).take (k).toNat))::(rc 146 1 g [sl (iY ao (k).toNat an 1) (u.length-(k).toNat) (an-(k).toNat)])::R)) (λ_ h=>h) ?_;refine⟨_,_,Z,Z,?_⟩;have e:(u.take k.toNat).length=k.toNat:=by rw[ax];omega
 rw[e];exact⟨_,_,Z,Z⟩
theorem aIg {ke:Option Addr} {qt kh:Nat} {b:List Int} {k:Nat} (go:Rd w ke qt kh 1 (ints .u8 b)) (ce:aO b) (hN:b.length<=1000000) (h:sS b V k):Ct Tryz.prog 227 #[sl ke qt kh] w.heap.size w [] (λv R'=>v= .tuple #[.int .u64 V,I (k:Int),bt]):=
 (aVm go ce hN).mono λv R' hv=>by
  rcases hv with⟨V',k',g,rfl⟩|⟨g,rfl⟩
  ·obtain ⟨rfl,rfl⟩:=g.one h;rfl
  ·exact(g ⟨V,k,h⟩).elim
theorem OS {cy:Int} {m:Nat} (am:RdC B w0 R ao ap an 1 (ints .u8 u)) (bl:ap=u.length) (hN:u.length<=1000000) (ac:aO u) (hG:sS u V m) (hm:V<=cy) (hb:cy<=9223372036854775807):
  Ct Tryz.prog 157 #[PG g,I cy] B w0 ((rc 146 1 g [sl ao ap an])::R) (λv R'=>v= .tuple #[I V,bt]/\R'=(rc 146 1 g [sl (iY ao m an 1) (ap-m) (an-m)])::R):=by
 subst bl;have Ty:=hG.1;have hgm:m<=u.length:=by obtain⟨_,h2,t,h3⟩:=hG;have h4:=bz List.length h3;rw[ah] at h4;omega
 refine fn2 Tryz.func157 Z Z Z ?_;refine wq<|wg Z<|wn Z<|aG<|wq<|wm Z<|wy (dA ze Z Z)<|wm Z<|aC Z Z<|wm Z<|aC Z Z<|wy (Yl.f (eO Z Z)) ?_;refine wy (aR Z Z)<|aA<|aL Z<|aJ<|wq<|wm Z<|wy (aD Z)<|wy (aB (off:=0) (m:=0) zf Z dO Z Z Z)<|wy (aK (rdr 0 Z) ai Z Z Z)<|wa (aF bEj Z (Ct.quiet (λw hw=>aIg ((RdC.right am [_]) w hw) ac hN hG))) ?_;rintro _ _ ⟨rfl,rfl⟩;refine wm Z<|wX Z Z<|wX Z Z<|wX Z Z<|wg Z<|wg Z<|wn Z<|aG<|wq<|wm Z<|wy (dI Z)<|wm Z<|aC Z Z ?_;refine wm Z<|aC Z Z<|wm Z<|aC Z Z<|wy (iU ak fo Z)<|aC Z Z<|wy (Yl.f (dV Z Z))<|wy (aR Z Z)<|aA<|aL Z<|aJ<|wq<|wm Z<|wm Z ?_;refine wy (aD Z)<|wy (aB (off:=0) (m:=0) zf Z dO Z Z Z)<|wy (aK (rdr 0 Z) ai Z Z Z)<|wm Z<|wy (iP ai sz5 Z Z)<|wy (aD Z)<|wy (aB (off:=0) (m:=0) zf Z dO Z Z Z)<|bX (bA 0 Z Z Z dO Z Z Z Z (au Z)) ?_;rintro _ _ rfl;refine aA<|wq<|wm Z<|wy (iV fo ak Z)<|wg Z<|wn Z<|bR (R1:=((rc 146 1 g [sl (iY ao ((m:Int)).toNat an 1) (u.length-((m:Int)).toNat) (an-((m:Int)).toNat)])::R)) (λ_ h=>h) ?_;refine⟨_,_,Z,Z,?_⟩;exact⟨Z,Z⟩
variable {w:World} {k:Int}
theorem nI {i4:Option Addr} {Qp j4:Nat} {ks:List Int} (Bx:Rd w i4 Qp j4 1 (ints .i64 ks)) (cx:(0<=k/\k<=1048576)/\ ∀x∈ks,0<=x/\x<k):
  Ct Tryz.prog 264 #[sl i4 Qp j4,I k] w.heap.size w [] (λv R'=> ∃A c,v= .tuple #[sl A k.toNat c,bt]/\R'=[(ri 3 A k.toNat c (dR ks k))]):=by
 obtain rfl:=Bx.lenI;refine fn2 Tryz.func264 Z Z Z ?_;have m_ks:=Bx.max;have hk:=cx.1;refine wq<|wg Z<|wn Z<|aG<|wq<|wm Z<|wL Z Z<|wm Z<|dQ 3 [(0,sl i4 ks.length j4),(1,I k),(14, .bool (decide ((k<0)\/(1048576<k))))] [] ?_ ?_
 ·refine cK 11 Z (λaq=> ?_) (λaq=> ?_)
  ·refine aP Z Z Z Z<|aP Z Z Z Z<|wy (aY Z Z)<|aA ?_;exact⟨SA,λ_ h=>h⟩
  ·refine aC Z Z<|wm Z<|aC Z Z<|wy (dV Z Z)<|wy (aR Z Z)<|aA ?_;exact⟨SA,λ_ h=>h⟩
 refine vB 14 Z G<|aA<|aL Z<|aJ<|wq<|wm Z<|wa (dE aa zb3 Z Z) ?_;rintro _ _ ⟨al,rfl,rfl⟩;refine bN (v:=sl (GG al) ((k).toNat) ((k).toNat)) Z<|wn Z<|aG<|wq<|wm Z<|wy (aQ aa Z)<|wm Z<|aA<|aI ?_;refine dS (λ(m:Int) (V:List Int)=>[(1,I k),(6,sl (GG al) ((k).toNat) ((k).toNat)),(17,sl i4 ks.length j4),(18,I ((ks.length:Nat):Int)),(19,I m)]) (λm V=>[(ri 3 (GG al) ((k).toNat) ((k).toNat) V)]) (λm V=>(0<=m)/\(m<=ks.length)/\(V=dR (ks.take m.toNat) k)) (λm V=>(ks.length-m).toNat) ?_ ?_
 ·exact⟨0,List.replicate ((k).toNat) (0:Int),⟨G,G,((WO k).symm)⟩,SA,λ_ h=>h⟩
 intro m V ⟨qq,ln,hV⟩;refine wq<|wL Z Z<|aA<|aG<|bJ Z (λcr=> ?_) (λcr=> ?_)
 ·have hx:=cx.2 _ (bH (L:=ks) qq G)
  have hb:0<=rd V (rd ks m)/\rd V (rd ks m)<=m:=by
   have a:=JH (ks:=ks.take m.toNat) (k:=k) (x:=rd ks m);rw[<-hV,ax] at a;omega
  refine aJ<|aG<|aI<|wq<|wy (aH aa sz3 Z Z (Bx.c _))<|wy (aX ak Z Z (Bx.c _))<|wn Z<|aG<|wq<|wm Z<|wL Z Z<|wm Z ?_;refine dQ 4 [(1,I k),(6,sl (GG al) ((k).toNat) ((k).toNat)),(8,I (rd ks m)),(17,sl i4 ks.length j4),(18,I ((ks.length:Nat):Int)),(19,I m),(29, .bool (decide (((rd ks m)<0)\/(k<=(rd ks m)))))] [(ri 3 (GG al) ((k).toNat) ((k).toNat) V)] ?_ ?_
  ·refine cK 25 Z (λfd=> ?_) (λfd=> ?_)
   ·refine aP Z Z Z Z<|aP Z Z Z Z<|aP Z Z Z Z<|wy (aY Z Z)<|aA ?_;exact⟨SA,λ_ h=>h⟩
   ·refine aC Z Z<|wm Z<|aC Z Z<|wm Z<|aC Z Z<|wy (jF Z Z)<|wy (aR Z Z)<|aA ?_;exact⟨SA,λ_ h=>h⟩
  refine vB 29 Z G<|aA<|aL Z<|aJ<|aM<|wm Z<|wm Z<|wy (aH aa sz3 Z Z (rdr 0 Z))<|wy (aX ak Z Z (rdr 0 Z))<|wA Z Z<|wy (aH aa sz3 Z Z (rdr 0 Z))<|bX (bG 0 Z sz3 Z Z) ?_;rintro _ _ rfl;refine aA<|aM<|wA Z Z<|wm Z<|aA ?_;exact⟨m+1,upd V (rd ks m) ((rd V (rd ks m))+1),⟨G,G,(by rw[dD qq G,<-NU hx.1 hx.2,<-hV])⟩,G,SA,λ_ h=>h⟩
 ·refine aZ<|wq<|wm Z<|wg Z<|wn Z<|aT [0] 99 cC Z ?_;refine⟨_,_,Z,Z,?_⟩;have e:ks.take m.toNat=ks:=bn G;rw[e] at hV;subst hV;exact⟨_,_,Z,Z⟩
theorem vF {Jv:Option Addr} {Qo Jz:Nat} {cs:List Int} (Bm:Rd w Jv Qo Jz 1 (ints .i64 cs)) (hcs: ∀x∈cs,0<=x) (o6:cs.sum<=1000000000) (kc:cs.length<=1048576):
  Ct Tryz.prog 280 #[sl Jv Qo Jz] w.heap.size w [] (λv R'=> ∃A c,v=sl A (bZ cs).length c/\R'=[(ri 3 A ((bZ cs).length) c (bZ cs))]):=by
 obtain rfl:=Bm.lenI;refine fn1 Tryz.func280 Z Z Z ?_;have m_cs:=Bm.max;refine wq<|wn Z<|wq<|wm Z<|wy (aQ aa Z)<|wa (dE aa zb3 Z Z) ?_;rintro _ _ ⟨al,rfl,rfl⟩;refine bN (v:=sl (GG al) cs.length cs.length) Z<|wn Z<|wq<|wn Z<|aG<|wq<|wm Z<|wy (aQ aa Z)<|wm Z<|aA<|aI ?_;refine fU (λ(i:Int) (n:Int) (V:List Int)=>[(3,sl (GG al) cs.length cs.length),(4,I n),(10,sl Jv cs.length Jz),(11,I ((cs.length:Nat):Int)),(12,I i)]) (λi n V=>[(ri 3 (GG al) cs.length cs.length V)]) (λi n V=>(0<=i)/\(i<=cs.length)/\(n=ps cs i)/\(V.length=cs.length)/\(∀j:Int,0<=j->j<i->rd V j=ps cs j)) (λi n V=>(cs.length-i).toNat) ?_ ?_
 ·exact⟨0,0,List.replicate cs.length (0:Int),⟨G,G,(Z),(by rw[bq]),(λj h1 h2=>G)⟩,SA,λ_ h=>h⟩
 intro i n V ⟨ar,ia,hn,hl,hV⟩;refine wq<|wL Z Z<|aA<|aG<|bJ Z (λaq=> ?_) (λaq=> ?_)
 ·have sk:=uB hcs i;have wc:=uB hcs (i+1);rw[lQ ar G] at wc;refine aJ<|aG<|aI<|wq<|wm Z<|wy (aH aa sz3 Z Z (Bm.c _))<|wy (aX ak Z Z (Bm.c _))<|wg Z<|wn Z<|wq<|wm Z<|wm Z ?_;refine wm Z<|wy (aH aa sz3 Z Z (rdr 0 Z))<|bX (bG 0 Z sz3 Z Z) ?_;rintro _ _ rfl;refine aA<|aM<|wm Z<|wm Z<|wA Z Z<|wn Z<|aM<|wA Z Z<|wm Z<|aA ?_;exact⟨i+1,n+(rd cs i),upd V i n,⟨G,G,(by rw[lQ ar G,hn]),(by rw[aV];exact hl),(eG ar G hV hn)⟩,G,SA,λ_ h=>h⟩
 ·refine aZ<|wq<|wm Z<|wn Z<|aT [0] 99 cC Z ?_;refine⟨_,Z,?_⟩;obtain rfl:V=bZ cs:=bI (hl.trans (eB cs).symm) λj h1 h2=>by rw[mJ h1 G];exact hV j h1 G
  rw[eB];exact⟨_,_,Z,Z⟩
set_option maxHeartbeats 800000 in
theorem rZ {kl:Option Addr} {yv kp:Nat} {order:List Int} {qu:Option Addr} {r7 qv:Nat} {keys:List Int} (mz:Rd w kl yv kp 1 (ints .i64 order)) (kt:Rd w qu r7 qv 1 (ints .i64 keys)) (hk:0<=k/\k<=1048576) (It: ∀x∈keys,0<=x/\x<k) (ho: ∀i∈order,0<=i/\i<keys.length) (hlen:order.length<=1000000):
  Ct Tryz.prog 239 #[sl kl yv kp,sl qu r7 qv,I k] w.heap.size w [] (λv R'=> ∃A c,v= .tuple #[sl A order.length c,bt]/\R'=[(ri 3 A order.length c (bW order keys k.toNat))]):=by
 obtain rfl:=mz.lenI;obtain rfl:=kt.lenI;refine fn2 Tryz.func239 Z Z Z ?_;have Sf:=mz.max;have Vv:=kt.max;have Mq: ∀i∈order,0<=rd keys i/\rd keys i<k:=λi hi=>It _ (bH (ho i hi).1 (ho i hi).2);refine wq<|wg Z<|wn Z<|aG<|wq<|wm Z<|wm Z<|wa (aF VP Z (Ct.fresh (λw hw=>nI ((kt.c _) w hw) ⟨hk,It⟩))) ?_;rintro _ _ ⟨_,rfl,bx,br,rfl,rfl⟩;refine wm Z<|wX Z Z<|wX Z Z<|wg Z<|wn Z<|wq<|wm Z<|wy (dI Z)<|aA<|aL Z<|aJ<|wq ?_;refine wm Z<|wa (dE aa zb3 Z Z) ?_;rintro _ _ ⟨dy,rfl,rfl⟩;refine bN (v:=sl (GG dy) ((k).toNat) ((k).toNat)) Z<|wn Z<|aG<|wq<|wm Z<|wy (aQ aa Z)<|wm Z<|aA<|aI ?_;refine dS (λ(m:Int) (V:List Int)=>[(0,sl kl order.length kp),(1,sl qu keys.length qv),(10,sl (GG dy) ((k).toNat) ((k).toNat)),(27,sl kl order.length kp),(28,I ((order.length:Nat):Int)),(29,I m)]) (λm V=>[(ri 3 (GG dy) ((k).toNat) ((k).toNat) V),(ri 3 bx ((k).toNat) br (dR keys k))]) (λm V=>(0<=m)/\(m<=order.length)/\(V=dR ((order.take m.toNat).map (rd keys)) k)) (λm V=>(order.length-m).toNat) ?_ ?_
 ·exact⟨0,List.replicate ((k).toNat) (0:Int),⟨G,G,((WO k).symm)⟩,SA,λ_ h=>h⟩
 intro m V ⟨qq,ln,hV⟩;refine wq<|wL Z Z<|aA<|aG<|bJ Z (λaq=> ?_) (λaq=> ?_)
 ·have hi:=ho _ (bH (L:=order) qq G);have hx:=Mq _ (bH (L:=order) qq G)
  have hb:0<=rd V (rd keys (rd order m))/\rd V (rd keys (rd order m))<=m:=by
   have a:=JH (ks:=(order.take m.toNat).map (rd keys)) (k:=k) (x:=rd keys (rd order m));rw[<-hV,bi,ax] at a;omega
  have iu:V.length=k.toNat:=by rw[hV,dL]
  refine aJ<|aG<|aI<|wq<|wy (aH aa sz3 Z Z (mz.c _))<|wy (aX ak Z Z (mz.c _))<|wn Z<|aG<|wq<|wm Z<|wL Z Z<|wm Z ?_;refine dQ 5 [(0,sl kl order.length kp),(1,sl qu keys.length qv),(10,sl (GG dy) ((k).toNat) ((k).toNat)),(12,I (rd order m)),(27,sl kl order.length kp),(28,I ((order.length:Nat):Int)),(29,I m),(40, .bool (decide (((rd order m)<0)\/(((keys.length:Nat):Int)<=(rd order m)))))] [(ri 3 (GG dy) ((k).toNat) ((k).toNat) V),(ri 3 bx ((k).toNat) br (dR keys k))] ?_ ?_
  ·refine cK 35 Z (λcr=> ?_) (λcr=> ?_)
   ·refine aP Z Z Z Z<|aP Z Z Z Z<|aP Z Z Z Z<|aP Z Z Z Z<|wy (aY Z Z)<|aA ?_;exact⟨SA,λ_ h=>h⟩
   ·refine aC Z Z<|wm Z<|aC Z Z<|wm Z<|aC Z Z<|wy (aQ aa Z)<|aC Z Z<|wy (jF Z Z)<|wy (aR Z Z)<|aA ?_;exact⟨SA,λ_ h=>h⟩
  refine vB 40 Z G<|aA<|aL Z<|aJ<|aM<|wm Z<|wm Z<|wm Z<|wy (aH aa sz3 Z Z (kt.c _))<|wy (aX ak Z Z (kt.c _))<|wy (aH aa sz3 Z Z (rdr 0 Z))<|wy (aX ak Z Z (rdr 0 Z))<|wA Z Z<|wy (aH aa sz3 Z Z (rdr 0 Z))<|bX (bG 0 Z sz3 Z Z) ?_;rintro _ _ rfl;refine aA<|aM<|wA Z Z<|wm Z<|aA ?_;exact⟨m+1,upd V (rd keys (rd order m)) ((rd V (rd keys (rd order m)))+1),⟨G,G,(by rw[dD qq G,jh,List.map_singleton,<-NU hx.1 hx.2,<-hV])⟩,G,SA,λ_ h=>h⟩
 ·have k7:V=(dR (order.map (rd keys)) k):=by rw[hV,bn G]
  have Ax:(bZ V).length=k.toNat:=by rw[eB,hV,dL]
  refine aZ<|wq<|wm Z<|wa (aF aEs Z (Ct.fresh (λw hw=>vF ((rdr 0 Z) w hw) (by rw[k7];exact lD _ _) (by rw[k7,JG G Mq];omega) (by rw[k7,dL];omega)))) ?_;rintro _ _ ⟨_,rfl,fh,nf,rfl,rfl⟩;refine wn Z<|wq<|wm Z<|wy (aQ aa Z)<|wa (dE aa zb3 Z Z) ?_;rintro _ _ ⟨ft,rfl,rfl⟩;refine bN (v:=sl (GG ft) order.length order.length) Z<|wn Z<|aG<|wq<|wm Z<|wy (aQ aa Z)<|wm Z<|aA<|aI ?_;refine fU (λ(q:Int) (S:List Int) (Lr:List Int)=>[(1,sl qu keys.length qv),(13,sl fh ((bZ V).length) nf),(14,sl (GG ft) order.length order.length),(56,sl kl order.length kp),(57,I ((order.length:Nat):Int)),(58,I q)]) (λq S Lr=>[(ri 3 (GG ft) order.length order.length Lr),(ri 3 fh ((bZ V).length) nf S),(ri 3 (GG dy) ((k).toNat) ((k).toNat) V),(ri 3 bx ((k).toNat) br (dR keys k))]) (λq S Lr=>(0<=q)/\(q<=order.length)/\(AA order keys S Lr k q)) (λq S Lr=>(order.length-q).toNat) ?_ ?_
  ·exact⟨0,bZ V,List.replicate order.length (0:Int),⟨G,G,(by rw[k7];exact ZG)⟩,SA,λ_ h=>h⟩
  intro q S Lr ⟨gv,f9,hP⟩;refine wq<|wL Z Z<|aA<|aG<|bJ Z (λfd=> ?_) (λfd=> ?_)
  ·have hi:=ho _ (bH (L:=order) gv G);have hx:=Mq _ (bH (L:=order) gv G);have aw:=hP.lt Mq gv G;have vj:=hP.len;have po:=hP.alen;refine aJ<|aG<|aI<|wq<|wy (aH aa sz3 Z Z (mz.c _))<|wy (aX ak Z Z (mz.c _))<|wn Z<|wq<|wm Z<|wm Z<|wm Z<|wm Z ?_;refine wy (aH aa sz3 Z Z (kt.c _))<|wy (aX ak Z Z (kt.c _))<|wy (aH aa sz3 Z Z (rdr 1 Z))<|wy (aX ak Z Z (rdr 1 Z))<|wm Z<|wy (aH aa sz3 Z Z (rdr 0 Z))<|bX (bG 0 Z sz3 Z Z) ?_;rintro _ _ rfl;refine aA<|aM<|wm Z<|wm Z<|wm Z<|wy (aH aa sz3 Z Z (kt.c _))<|wy (aX ak Z Z (kt.c _))<|wy (aH aa sz3 Z Z (rdr 1 Z))<|wy (aX ak Z Z (rdr 1 Z))<|wA Z Z<|wy (aH aa sz3 Z Z (rdr 1 Z))<|bX (bG 1 Z sz3 Z Z) ?_;rintro _ _ rfl;refine aA<|aM<|wA Z Z<|wm Z<|aA ?_;exact⟨q+1,upd S (rd keys (rd order q)) ((rd S (rd keys (rd order q)))+1),upd Lr (rd S (rd keys (rd order q))) (rd order q),⟨G,G,(hP.step Mq gv G)⟩,G,SA,λ_ h=>h⟩
  ·refine aZ<|wq<|wm Z<|wg Z<|wn Z<|aT [0] 99 cC Z ?_;refine⟨_,_,Z,Z,?_⟩;have e:=hP.done Mq G;subst e;exact⟨_,_,Z,Z⟩
variable {w:World} {n i j k:Int} {bp:Option Addr} {eh bo:Nat} {s:List Int}
theorem kX {r:Int} (hr:0<=r/\r<=2) (hn:0<=n/\n<=1000000):
  Ct Tryz.prog 293 #[I n,I r] w.heap.size w [] (λv R'=> ∃A c,v=sl A (plc n.toNat r.toNat).length c/\R'=[(ri 3 A ((plc n.toNat r.toNat).length) c (plc n.toNat r.toNat))]):=by
 refine fn1 Tryz.func293 Z Z Z ?_;refine wq<|wn Z<|wq<|dH (R1:=[(ri 3 none 0 0 ([]))]) (Sub.refl _) (λ_ h=>h.nil 3 1)<|wn Z<|aG<|wq<|wm Z<|wn Z ?_;refine aI ?_;refine nU (λ(A1:Option Addr) (n1:Nat) (c1:Nat) (a1:List Int) (i:Int) (k:Nat)=>[(0,I n),(5,sl A1 n1 c1),(6,I i)]) (λA1 n1 c1 a1 i k=>[(ri 3 A1 n1 c1 a1)]) (λA1 n1 c1 a1 i k=>(n1=a1.length)/\(i=r+3*k)/\(a1=KR r.toNat k)/\(r+3*(k:Int)<n+3)) (λA1 n1 c1 a1 i k=>(n-i).toNat) ?_ ?_
 ·exact⟨none,0,0,[],r,0,⟨(Z),G,(Z),G⟩,SA,λ_ h=>h⟩
 intro A1 n1 c1 a1 i k ⟨dd,hi,bb,hk⟩;have wb:=bz List.length bb;rw[TL] at wb;refine aG<|wq<|wm Z<|wm Z<|wL Z Z<|aA<|bJ Z (λaq=> ?_) (λaq=> ?_)
 ·refine aJ<|aG<|aI<|aM<|wm Z<|wm Z<|wa (bS .i64 [i] aa zs3 Z Z Z) ?_;rintro _ _ ⟨cv,rfl,rfl⟩;refine wa (bE 1 Z aa zb3 Z Z Z (rdr 0 Z)) ?_;rintro _ _ ⟨ij,io,rfl,rfl⟩;refine bN (v:=sl ij (n1+1) io) Z<|wn Z<|aM<|wm Z<|wA Z Z<|wn Z ?_;exact⟨ij,n1+1,io,a1++([i]),i+3,(k+1),⟨(by simp only[ah,dd];try rfl),G,(by rw[aHc,<-bb,show((r.toNat:Nat):Int)+3*(k:Int)=i by omega]),G⟩,G,SA,λ_ h=>h.sel [1] cC Z⟩
 ·refine aZ<|wq<|wm Z<|wn Z<|aT [0] 99 cC Z ?_;refine⟨_,Z,?_⟩;obtain rfl:k=(n.toNat+2-r.toNat)/3:=G
  subst bb;obtain rfl:=dd;exact⟨_,_,Z,Z⟩
theorem SY (hn:0<=n/\n<=100000):
  Ct Tryz.prog 322 #[I n] w.heap.size w [] (λv R'=> ∃A c,v=sl A (smp n.toNat).length c/\R'=[(ri 3 A ((smp n.toNat).length) c (smp n.toNat))]):=by
 refine fn1 Tryz.func322 Z Z Z ?_;refine wq<|wn Z<|aG<|wq<|wm Z<|wL Z Z<|wm Z<|dQ 3 [(0,I n),(8, .bool (decide ((n<0)\/(100000<n))))] [] ?_ ?_
 ·refine cK 5 Z (λaq=> ?_) (λaq=> ?_)
  ·refine aP Z Z Z Z<|aP Z Z Z Z<|wy (aY Z Z)<|aA ?_;exact⟨SA,λ_ h=>h⟩
  ·refine aC Z Z<|wm Z<|aC Z Z<|wy (dV Z Z)<|wy (aR Z Z)<|aA ?_;exact⟨SA,λ_ h=>h⟩
 refine vB 8 Z G<|aA<|aL Z<|aJ<|wq<|wm Z<|wa (aF NQ Z (Ct.fresh (λw hw=>kX cE G))) ?_;rintro _ _ ⟨_,rfl,bx,br,rfl,rfl⟩;refine iW (R1:=[(ri 3 bx ((plc n.toNat 1).length) br (plc n.toNat 1))]) Z<|bN (v:=sl bx ((plc n.toNat 1).length) br) Z<|wm Z<|wa (aF NQ Z (Ct.fresh (λw hw=>kX cE G))) ?_;rintro _ _ ⟨_,rfl,kd,km,rfl,rfl⟩;refine iW (R1:=[(ri 3 kd ((plc n.toNat 2).length) km (plc n.toNat 2)),(ri 3 bx ((plc n.toNat 1).length) br (plc n.toNat 1))]) Z<|bN (v:=sl kd ((plc n.toNat 2).length) km) Z<|wa (bE 1 Z aa zb3 Z Z Z (rdr 0 Z) (by have:=iX n.toNat 1;have:=iX n.toNat 2;omega)) ?_;rintro _ _ ⟨es,dt,rfl,rfl⟩;refine iW (R1:=[(ri 3 kd ((plc n.toNat 2).length) km (plc n.toNat 2)),(ri 3 es (((plc n.toNat 1).length)+((plc n.toNat 2).length)) dt ((plc n.toNat 1)++(plc n.toNat 2)))]) Z<|bN (v:=sl es (((plc n.toNat 1).length)+((plc n.toNat 2).length)) dt) Z<|wn Z<|aT [1] 99 cC Z ?_;refine⟨_,Z,?_⟩;have e:(plc n.toNat 1).length+(plc n.toNat 2).length=(smp n.toNat).length:=(ah ..).symm;rw[e];exact⟨_,_,Z,Z⟩
theorem uJ {s:List Int} (ba:Rd w bp eh bo 1 (ints .i64 s)) (hi:0<=i) (hs: ∀x∈s,0<=x/\x<=1000000):
  Ct Tryz.prog 324 #[sl bp eh bo,I i] w.heap.size w [] (λv R'=>v=I (gP s i)):=by
 obtain rfl:=ba.lenI;refine fn1 Tryz.func324 Z Z Z ?_;have ub:=ba.max;refine wq<|wn Z<|aG<|wq<|wm Z<|wm Z<|wy (aQ aa Z)<|wy (jF Z Z)<|aA<|bJ Z (λaq=> ?_) (λaq=> ?_)
 ·refine wq<|wn Z<|dF ?_;refine⟨_,Z,?_⟩;exact bz (Value.int .i64) (by unfold gP;rw[cu G])
 ·have hm:=hs _ (bH (L:=s) hi G);refine aJ<|wq<|wm Z<|wm Z<|wy (aH aa sz3 Z Z (ba.c _))<|wy (aX ak Z Z (ba.c _))<|wA Z Z<|wn Z<|dF ?_;refine⟨_,Z,?_⟩;exact bz (Value.int .i64) (by unfold gP;rw[bu G])
theorem NE {s:List Int} {b:Int} (ba:Rd w bp eh bo 1 (ints .i64 s)) (hb:0<=b/\b<=2) (hs: ∀x∈s,0<=x/\x<=1000000) (hN:s.length<=1000000):
  Ct Tryz.prog 295 #[sl bp eh bo,I b] w.heap.size w [] (λv R'=> ∃A c,v=sl A (s.length) c/\R'=[(ri 3 A s.length c (fA s b))]):=by
 obtain rfl:=ba.lenI;refine fn1 Tryz.func295 Z Z Z ?_;have ub:=ba.max;refine wq<|wn Z<|wq<|wm Z<|wy (aQ aa Z)<|wa (dE aa zb3 Z Z) ?_;rintro _ _ ⟨al,rfl,rfl⟩;refine bN (v:=sl (GG al) s.length s.length) Z<|wn Z<|aG<|wq<|wm Z<|wy (aQ aa Z)<|wm Z<|aA<|aI ?_;refine dS (λ(i:Int) (V:List Int)=>[(0,sl bp s.length bo),(1,I b),(5,sl (GG al) s.length s.length),(11,I ((s.length:Nat):Int)),(12,I i)]) (λi V=>[(ri 3 (GG al) s.length s.length V)]) (λi V=>(0<=i)/\(i<=s.length)/\(V.length=s.length)/\(∀j:Int,0<=j->j<i->rd V j=gP s (j+b))) (λi V=>(s.length-i).toNat) ?_ ?_
 ·exact⟨0,List.replicate s.length (0:Int),⟨G,G,(by rw[bq]),(λj h1 h2=>G)⟩,SA,λ_ h=>h⟩
 intro i V ⟨ar,ia,iu,hV⟩;refine wq<|wL Z Z<|aA<|aG<|bJ Z (λaq=> ?_) (λaq=> ?_)
 ·refine aJ<|aG<|aI<|wq<|wm Z<|wn Z<|aM<|wm Z<|wm Z<|wm Z<|wm Z<|wm Z<|wA Z Z ?_;refine wa (aF VM Z (Ct.quiet (λw hw=>uJ ((ba.c _) w hw) G cE))) ?_;rintro _ _ ⟨rfl,rfl⟩;refine wy (aH aa sz3 Z Z (rdr 0 Z))<|bX (bG 0 Z sz3 Z Z) ?_;rintro _ _ rfl;refine aA<|aM<|wA Z Z<|wm Z<|aA ?_;exact⟨i+1,upd V i (gP s (i+b)),⟨G,G,(by rw[aV];exact iu),(eG (f:=λj=>gP s (j+b)) ar G hV Z)⟩,G,SA,λ_ h=>h⟩
 ·refine aZ<|wq<|wm Z<|wn Z<|aT [0] 99 cC Z ?_;refine⟨_,Z,?_⟩;obtain rfl:V=fA s b:=aOx iu (λj h1 h2=>hV j h1 G);exact⟨_,_,Z,Z⟩
theorem aBw {s:List Int} (ba:Rd w bp eh bo 1 (ints .i64 s)) (hi:0<=i/\i<=1000000) (hj:0<=j/\j<=1000000) (hs: ∀x∈s,0<=x/\x<=1000000):
  Ct Tryz.prog 323 #[sl bp eh bo,I i,I j] w.heap.size w [] (λv R'=>v= .bool (decide (LB s i j))):=by
 obtain rfl:=ba.lenI;refine fn1 Tryz.func323 Z Z Z ?_;have ub:=ba.max;refine wq<|wn Z<|aG<|wq<|wm Z<|aA<|aI ?_;refine pX (λ(b:Int)=>[(0,sl bp s.length bo),(1,I i),(2,I j),(8,I b)]) (λb=>[]) (λb=>(0<=b)/\(b<=3)/\(∀c:Int,0<=c->c<b->gP s (i+c)=gP s (j+c))) (λb=>(3-b).toNat) ?_ ?_
 ·exact⟨0,⟨G,G,(λc h1 h2=>G)⟩,SA,λ_ h=>h⟩
 intro b ⟨a7,Cl,hk⟩;refine wq<|wL Z Z<|aA<|aG<|bJ Z (λaq=> ?_) (λaq=> ?_)
 ·refine aJ<|aG<|aI<|wq<|wm Z<|wn Z<|wq<|wm Z<|wm Z<|wm Z<|wA Z Z<|wa (aF VM Z (Ct.quiet (λw hw=>uJ ((ba.c _) w hw) G cE))) ?_;rintro _ _ ⟨rfl,rfl⟩;refine wm Z<|wm Z<|wm Z<|wA Z Z<|wa (aF VM Z (Ct.quiet (λw hw=>uJ ((ba.c _) w hw) G cE))) ?_;rintro _ _ ⟨rfl,rfl⟩;refine wy (iZ Z Z)<|aA<|bJ Z (λcr=> ?_) (λcr=> ?_)
  ·refine wq<|wn Z<|dF ?_;refine⟨_,Z,?_⟩;exact bz Value.bool (ol (aSb a7 G cr)).symm
  ·refine aJ<|aM<|wA Z Z<|wm Z<|aA ?_;exact⟨b+1,⟨G,G,(λc h1 h2=>(ay c b).elim (hk c h1) λg=>by rw[show c=b by omega];exact yt.1 cr)⟩,G,SA,λ_ h=>h⟩
 ·refine aZ<|wq<|wn Z<|dF ?_;refine⟨_,Z,?_⟩;exact bz Value.bool (lh (aWs λc h1 h2=>hk c h1 G)).symm
theorem aHt {s:List Int} {w8:Option Addr} {Qr z8:Nat} {rk:List Int} {o:List Int} (ba:Rd w bp eh bo 1 (ints .i64 s)) (a6:Rd w w8 Qr z8 1 (ints .i64 rk)) (hR:RkO s o rk) (hi:(0<=i/\i<s.length)/\i%3≠0) (hj:(0<=j/\j<s.length)/\j%3=0) (hs: ∀x∈s,0<=x/\x<=1000000) (hN:s.length<=1000000):
  Ct Tryz.prog 296 #[sl bp eh bo,sl w8 Qr z8,I i,I j] w.heap.size w [] (λv R'=>v= .bool (decide (cmpL (s.drop i.toNat) (s.drop j.toNat)<0))):=by
 obtain rfl:=ba.lenI;obtain rfl:=a6.lenI;refine fn1 Tryz.func296 Z Z Z ?_;have ub:=ba.max;have m_rk:=a6.max;have nn:Nn s:=λx hx=>(hs x hx).1;refine wq<|wn Z<|aI ?_;refine fU (λ(p:Int) (q:Int) (c:Nat)=>[(0,sl bp s.length bo),(1,sl w8 rk.length z8),(2,I p),(3,I q)]) (λp q c=>[]) (λp q c=>(p=i+c)/\(q=j+c)/\(EqH c (eu s i.toNat) (eu s j.toNat))/\(c=0\/c=1/\i%3=2)) (λp q c=>2-c) ?_ ?_
 ·exact⟨i,j,0,⟨G,G,(λd hd=>G),(.inl rfl)⟩,SA,λ_ h=>h⟩
 intro p q c ⟨hp,hq,he,hc⟩;have hcc:c<=1:=G
 have iu:=hR.len;refine aI<|aG<|wq<|wm Z<|wm Z<|wa (aF VM Z (Ct.quiet (λw hw=>uJ ((ba.c _) w hw) G cE))) ?_;rintro _ _ ⟨rfl,rfl⟩;refine wm Z<|wm Z<|wa (aF VM Z (Ct.quiet (λw hw=>uJ ((ba.c _) w hw) G cE))) ?_;rintro _ _ ⟨rfl,rfl⟩;refine wg Z<|wn Z<|wq<|wm Z<|wm Z<|wy (iZ Z Z)<|aA<|bJ Z (λaq=> ?_) (λaq=> ?_)
 ·refine wq<|wm Z<|wm Z<|wL Z Z<|wn Z<|dF ?_;refine⟨_,Z,?_⟩;exact bz Value.bool (zl.2 (by subst hp hq;rw[gX];exact aOp nn hi.1.1 hj.1.1 he aq))
 ·have e9:=aVh nn hi.1.1 hj.1.1 he (by rw[<-hp,<-hq];exact yt.1 aq);refine aJ<|wq<|wm Z<|wA Z Z<|wm Z<|wA Z Z<|wg Z<|wn Z<|wq<|wm Z<|wy (CE Z Z)<|wy (iZ Z Z) ?_;refine wm Z<|dQ 4 [(0,sl bp s.length bo),(1,sl w8 rk.length z8),(2,I (p+1)),(3,I (q+1)),(34, .bool (decide ((((p+1)%3)≠0)/\(((q+1)%3)≠0))))] [] ?_ ?_
  ·refine cK 30 Z (λcr=> ?_) (λcr=> ?_)
   ·refine aC Z Z<|wm Z<|aC Z Z<|wy (CE Z Z)<|aC Z Z<|wy (iZ Z Z)<|wy (aY Z Z)<|aA ?_;exact⟨SA,λ_ h=>h⟩
   ·refine aP Z Z Z Z<|aP Z Z Z Z<|aP Z Z Z Z<|wy (aR Z Z)<|aA ?_;exact⟨SA,λ_ h=>h⟩
  refine aA<|bJ Z (λfd=> ?_) (λfd=> ?_)
  ·have Pj:=aHs hR hi.1 hj.1 G e9 G G;rw[show i+((c+1:Nat):Int)=p+1 by omega,show j+((c+1:Nat):Int)=q+1 by omega] at Pj;refine aG<|bT mixed<|wD 0 Z (aN Z)<|wD 1 Z (aN Z)<|wD 2 Z (aN Z)<|wD 3 Z (aQ aa Z)<|wD 4 Z (vV Z Z)<|wD 5 Z (aH aa sz3 Z Z (a6.c _))<|wD 6 Z (aX ak Z Z (a6.c _))<|wD 7 Z (aN Z)<|wD 8 Z (aN Z)<|wD 9 Z (aN Z)<|wD 10 Z (aQ aa Z)<|wD 11 Z (vV Z Z)<|wD 12 Z (aH aa sz3 Z Z (a6.c _)) ?_;refine wD 13 Z (aX ak Z Z (a6.c _))<|wD 14 Z (eO Z Z)<|wD 15 Z (bP Z)<|wN<|dF ?_;refine⟨_,Z,?_⟩;exact bz Value.bool (zl.2 (by rw[gX,Int.min_eq_left Pj.1.1,Int.min_eq_left Pj.1.2];exact Pj.2))
  ·refine aJ ?_;exact⟨p+1,q+1,(c+1),⟨G,G,(e9),G⟩,G,SA,λ_ h=>h⟩
set_option maxHeartbeats 4000000 in
theorem KQ {w:World} {s:List Int} (ba:Rd w bp eh bo 1 (ints .i64 s)) (IH: ∀ {w:World} {rg:Option Addr} {rn rh:Nat} {t:List Int} {j:Int},Rd w rg rn rh 1 (ints .i64 t)->t.length<s.length->((0<=j/\j<=1000000)/\ ∀x∈t,0<=x/\x<j)->t.length<=100000->Ct Tryz.prog 266 #[sl rg rn rh,I j] w.heap.size w [] (λv R'=> ∃(b:List Int) (A:Option Addr) (c:Nat),v=sl A t.length c/\b.Perm (iota t.length)/\b.Pairwise (bU t)/\R'=[(ri 3 A t.length c b)])) (cx:(0<=k/\k<=1000000)/\ ∀x∈s,0<=x/\x<k) (hN:s.length<=100000) (h2:2<=s.length):
  Ct Tryz.prog 294 #[sl bp eh bo,I k] w.heap.size w [] (λv R'=> ∃(o V:List Int) (A A':Option Addr) (c c' m:Nat),v= .tuple #[sl A o.length c,sl A' m c']/\m=V.length/\RkO s o V/\(∀(B:Nat) (w0 w:World),Hp B w0 w R'->Rd w A o.length c 1 (ints .i64 o))/\ ∀(B:Nat) (w0 w:World),Hp B w0 w R'->Rd w A' V.length c' 1 (ints .i64 V)):=by
 obtain rfl:=ba.lenI;refine fn2 Tryz.func294 Z Z Z ?_;have ub:=ba.max;have nn:Nn s:=λx hx=>(cx.2 x hx).1;have un: ∀x∈s,0<=x/\x<=1000000:=λx hx=>by have:=cx.2 x hx;omega
 have lp1:=iX s.length 1;have lp2:=iX s.length 2;have lsm:=yA s.length;refine wq<|dH (R1:=((ri 3 none 0 0 ([]))::[])) (Sub.refl _) (λ_ h=>h.nil 3 1)<|wg Z<|wn Z<|wq<|wm Z<|wy (aQ aa Z)<|wa (aF bDi Z (Ct.fresh (λw hw=>SY G))) ?_;rintro _ _ ⟨_,rfl,bx,br,rfl,rfl⟩;refine bN (v:=sl bx ((smp s.length).length) br) Z<|wn Z<|wq<|wm Z<|wn Z<|aG<|wq<|wn Z<|aI ?_;refine aKz (λ(b:Int) (A1:Option Addr) (n1:Nat) (c1:Nat) (O:List Int) (A6:Option Addr) (n6:Nat) (c6:Nat) (j:Nat) (Rs:List Row)=>[(0,sl bp s.length bo),(1,I k),(4,sl A1 n1 c1),(6,sl A6 n6 c6),(7,I b)]) (λb A1 n1 c1 O A6 n6 c6 j Rs=>((ri 3 none 0 0 ([]))::Rs)) (λb A1 n1 c1 O A6 n6 c6 j Rs=>(b=2-j)/\(j<=3)/\(O=aZc s k j)/\(n1=O.length)/\(n6=(smp s.length).length)/\(∀(B:Nat) (w0 w:World),Hp B w0 w Rs->Rd w A1 n1 c1 1 (ints .i64 O))/\(∀(B:Nat) (w0 w:World),Hp B w0 w Rs->Rd w A6 n6 c6 1 (ints .i64 (smp s.length)))) (λb A1 n1 c1 O A6 n6 c6 j Rs=>(b+1).toNat) ?_ ?_
 ·exact⟨2,bx,(smp s.length).length,br,(smp s.length),bx,(smp s.length).length,br,0,((ri 3 bx ((smp s.length).length) br (smp s.length))::[]),⟨G,G,(Z),(Z),(Z),(λB w0 w h=>rdr 0 Z w h),(λB w0 w h=>rdr 0 Z w h)⟩,SA,λ_ h=>h.selR (F:=[_,_]) (F':=[_,_]) [1,0] cC Z⟩
 intro b A1 n1 c1 O A6 n6 c6 j Rs ⟨hj,hj3,hO,dd,hn6,h4,h6⟩;have d8:=AC cx.2 cx.1.1 j hj3;rw[<-hO] at d8;have Rb:=d8.length_eq;rw[yA] at Rb;refine aG<|wq<|wm Z<|wy (jF Z Z)<|aA<|bJ Z (λaq=> ?_) (λaq=> ?_)
 ·have wc:0<=b/\b<=2:=G
  have qs:O.length=(bW O (fA s b) (k+1).toNat).length:=((oD cx.2 cx.1.1 wc.1 (λx hx=>mI (d8.subset hx))).length_eq).symm;refine aJ<|aG<|aI<|aM<|wm Z<|wm Z<|wm Z<|wa (aF aXu Z (Ct.fresh (λw hw=>NE ((ba.c _) w hw) G un G))) ?_;rintro _ _ ⟨_,rfl,ij,io,rfl,rfl⟩;refine wm Z<|wA Z Z<|wa (aF JC Z (Ct.fresh (λw hw=>rZ ((λ_ h=>h4 _ _ _ (h.right (R':=[_,_]))) w hw) ((rdr 0 Z) w hw) G (UO cx.2 cx.1.1 G) (λx hx=>by have:=mI (d8.subset hx);rw[BL];omega) G))) ?_;rintro _ _ ⟨_,rfl,fh,nf,rfl,rfl⟩;refine wm Z<|wX Z Z<|wX Z Z<|wn Z<|aM<|wm Z<|wS Z Z<|wn Z ?_;exact⟨b-1,fh,(O).length,nf,(bW O (fA s b) (k+1).toNat),A6,n6,c6,(j+1),((ri 3 fh ((O).length) nf (bW O (fA s b) ((k+1)).toNat))::Rs),⟨G,G,(by rw[hO,hj];rfl),(qs),(hn6),(λB w0 w h=>rdr 0 Z w h),(λB w0 w h=>h6 B w0 w h.tail)⟩,G,SA,λ_ h=>h.selR (F:=[_,_,_]) (F':=[_,_]) [2,0] cC Z⟩
 ·have hO3:O=aZd s k:=by rw[hO,show j=3 by omega];rfl
  have Wo:=YC cx.2 cx.1.1;rw[<-hO3] at Wo;refine aZ<|wq<|wm Z<|wy (aQ aa Z)<|wA Z Z<|wa (dE aa zb3 Z Z) ?_;rintro _ _ ⟨md,rfl,rfl⟩;refine bN (v:=sl (GG md) ((((s.length:Nat):Int)+3).toNat) ((((s.length:Nat):Int)+3).toNat)) Z<|wn Z<|wq<|wn Z<|aG<|wq<|wm Z<|wy (aQ aa Z)<|wm Z<|aA<|aI ?_;refine fU (λ(q:Int) (n:Int) (V:List Int)=>[(0,sl bp s.length bo),(4,sl A1 n1 c1),(5,sl (GG md) ((((s.length:Nat):Int)+3).toNat) ((((s.length:Nat):Int)+3).toNat)),(6,sl A6 n6 c6),(8,I n),(43,sl A1 n1 c1),(44,I ((n1:Nat):Int)),(45,I q)]) (λq n V=>((ri 3 (GG md) ((((s.length:Nat):Int)+3).toNat) ((((s.length:Nat):Int)+3).toNat) V)::(ri 3 none 0 0 ([]))::Rs)) (λq n V=>(0<=q)/\(q<=O.length)/\(RkI s O V q n)) (λq n V=>(O.length-q).toNat) ?_ ?_
  ·exact⟨0,0,List.replicate ((((s.length:Nat):Int)+3).toNat) (0:Int),⟨G,G,(by rw[show(((s.length:Nat):Int)+3).toNat=s.length+3 by omega];exact aMl)⟩,SA,λ_ h=>h⟩
  intro q n V ⟨gv,f9,hI⟩;have iu:=hI.len;have Xt:=hI.nq;have Xo:=hI.n0;refine wq<|wL Z Z<|aA<|aG<|bJ Z (λcr=> ?_) (λcr=> ?_)
  ·have s5:0<=q-> ∀p:Int,0<=p->p<O.length->0<=rd O p/\rd O p<s.length:=λ_ p a b=>mI (d8.subset (bH a b));refine aJ<|aG<|aI<|wq<|wm Z<|wy (aH aa sz3 Z Z (λ_ h=>h4 _ _ _ (h.right (R':=[_,_]))))<|wy (aX ak Z Z (λ_ h=>h4 _ _ _ (h.right (R':=[_,_]))))<|wg Z<|wn Z<|aG<|wq<|wm Z ?_;refine wy (bC Z Z)<|wm Z<|dQ 10 [(0,sl bp s.length bo),(4,sl A1 n1 c1),(5,sl (GG md) ((((s.length:Nat):Int)+3).toNat) ((((s.length:Nat):Int)+3).toNat)),(6,sl A6 n6 c6),(8,I n),(10,I (rd O q)),(43,sl A1 n1 c1),(44,I ((n1:Nat):Int)),(45,I q),(62, .bool (decide ((q=0)\/(¬(LB s (rd O (q-1)) (rd O q))))))] ((ri 3 (GG md) ((((s.length:Nat):Int)+3).toNat) ((((s.length:Nat):Int)+3).toNat) V)::(ri 3 none 0 0 ([]))::Rs) ?_ ?_
   ·refine cK 52 Z (λfd=> ?_) (λfd=> ?_)
    ·refine aP Z Z Z Z<|aP Z Z Z Z<|aP Z Z Z Z<|aP Z Z Z Z<|aP Z Z Z Z<|aP Z Z Z Z<|aP Z Z Z Z<|aP Z Z Z Z<|aP Z Z Z Z<|wy (aY Z Z)<|aA ?_;exact⟨SA,λ_ h=>h⟩
    ·refine aC Z Z<|wm Z<|aC Z Z<|wm Z<|aC Z Z<|wm Z<|aC Z Z<|wS Z Z<|aC Z Z<|wy (aH aa sz3 Z Z (λ_ h=>h4 _ _ _ (h.right (R':=[_,_]))))<|aC Z Z<|wy (aX ak Z Z (λ_ h=>h4 _ _ _ (h.right (R':=[_,_]))))<|aC Z Z<|wm Z<|aC Z Z ?_;refine wa (aF bDh Z (Ct.quiet (λw hw=>aBw ((ba.c _) w hw) (by have:=s5 gv (q-1) G G;omega) (by have:=s5 gv q G G;omega) un))) ?_;rintro _ _ ⟨rfl,rfl⟩;refine aC Z Z<|wy (ET Z)<|wy (aR Z Z)<|aA ?_;exact⟨SA,λ_ h=>h⟩
   refine aA<|bJ Z (λka=> ?_) (λka=> ?_)
   ·refine aM<|wm Z<|wA Z Z<|wn Z<|aM<|wm Z<|wm Z<|wm Z<|wy (aH aa sz3 Z Z (rdr 0 Z) (by have:=s5 gv q G G;omega) (by have:=s5 gv q G G;omega)) ?_;refine bX (bG 0 Z sz3 Z Z (by have:=s5 gv q G G;omega) (by have:=s5 gv q G G;omega)) ?_;rintro _ _ rfl;refine aA<|aM<|wA Z Z<|wm Z<|aA ?_;exact⟨q+1,n+1,upd V (rd O q) (n+1),⟨G,G,(hI.step d8 gv G (.inl ⟨Z,bAd nn d8 Wo gv G ka⟩))⟩,G,SA,λ_ h=>h⟩
   ·refine aJ<|aM<|wm Z<|wm Z<|wm Z<|wy (aH aa sz3 Z Z (rdr 0 Z) (by have:=s5 gv q G G;omega) (by have:=s5 gv q G G;omega)) ?_;refine bX (bG 0 Z sz3 Z Z (by have:=s5 gv q G G;omega) (by have:=s5 gv q G G;omega)) ?_;rintro _ _ rfl;refine aA<|aM<|wA Z Z<|wm Z<|aA ?_;exact⟨q+1,n,upd V (rd O q) n,⟨G,G,(hI.step d8 gv G (.inr ⟨Z,bAb nn d8 gv G ka⟩))⟩,G,SA,λ_ h=>h⟩
  ·have Qy:RkI s O V O.length n:=by have e:q=O.length:=G;rw[<-e];exact hI
   refine aZ<|aG<|wq<|wm Z<|wm Z<|wy (aQ aa Z)<|wy (bC Z Z)<|aA<|bJ Z (λkj=> ?_) (λkj=> ?_)
   ·refine wq<|wm Z<|wm Z<|wg Z<|wn Z<|aT [0] 2 cC Z ?_;refine⟨_,_,Z,Z,?_⟩;obtain rfl:=dd;have Ob:(((s.length:Nat):Int)+3).toNat=V.length:=by have:=Qy.len;omega
    exact⟨O,V,_,_,_,_,_,Z,Ob,Qy.all d8 G,λB w0 w h=>h4 B w0 w h.tail,λB w0 w h=>by rw[<-Ob];exact rdr 0 rfl w h⟩
   ·have hF:=Qy.done d8;have h4l:4<=s.length:=Hr.1 λg=>kj (by have:=Qy.short d8 h2 G;omega);refine aJ<|wq<|wm Z<|wy (aQ aa Z)<|wa (aF NQ Z (Ct.fresh (λw hw=>kX cE G))) ?_;rintro _ _ ⟨_,rfl,bc,bh,rfl,rfl⟩;refine bN (v:=sl bc ((plc s.length 1).length) bh) Z<|wn Z<|wq<|dH (R1:=((ri 3 none 0 0 ([]))::(ri 3 bc ((plc s.length 1).length) bh (plc s.length 1))::(ri 3 (GG md) ((((s.length:Nat):Int)+3).toNat) ((((s.length:Nat):Int)+3).toNat) V)::(ri 3 none 0 0 ([]))::Rs)) (Sub.refl _) (λ_ h=>h.nil 3 1)<|wn Z<|aG<|wq<|wm Z<|wy (aQ aa Z)<|wm Z<|aA ?_;refine aI ?_;refine jN (λ(A2:Option Addr) (n2:Nat) (c2:Nat) (a2:List Int) (i:Int)=>[(0,sl bp s.length bo),(5,sl (GG md) ((((s.length:Nat):Int)+3).toNat) ((((s.length:Nat):Int)+3).toNat)),(6,sl A6 n6 c6),(8,I n),(11,sl bc ((plc s.length 1).length) bh),(12,sl A2 n2 c2),(79,sl bc ((plc s.length 1).length) bh),(80,I (((plc s.length 1).length:Nat):Int)),(81,I i)]) (λA2 n2 c2 a2 i=>((ri 3 A2 n2 c2 a2)::(ri 3 bc ((plc s.length 1).length) bh (plc s.length 1))::(ri 3 (GG md) ((((s.length:Nat):Int)+3).toNat) ((((s.length:Nat):Int)+3).toNat) V)::(ri 3 none 0 0 ([]))::Rs)) (λA2 n2 c2 a2 i=>(n2=a2.length)/\(0<=i)/\(i<=(plc s.length 1).length)/\(a2=((plc s.length 1).take i.toNat).map (rd V))) (λA2 n2 c2 a2 i=>((plc s.length 1).length-i).toNat) ?_ ?_
    ·exact⟨none,0,0,[],0,⟨(Z),G,G,(Z)⟩,SA,λ_ h=>h⟩
    intro A2 n2 c2 a2 i ⟨ox,ar,ia,Kk⟩;have Km:=bz List.length Kk;rw[bi,ax] at Km;refine wq<|wL Z Z<|aA<|aG<|bJ Z (λxi=> ?_) (λxi=> ?_)
    ·have Mu:=(jC (n:=s.length) (r:=1) G).1 (bH (L:=plc s.length 1) ar G);refine aJ<|aG<|aI<|wq<|wy (aH aa sz3 Z Z (rdr 1 Z))<|wy (aX ak Z Z (rdr 1 Z))<|wn Z<|aM<|wm Z<|wm Z<|wm Z<|wy (aH aa sz3 Z Z (rdr 2 Z))<|wy (aX ak Z Z (rdr 2 Z)) ?_;refine wa (bS .i64 [rd V (rd (plc s.length 1) i)] aa zs3 Z Z Z) ?_;rintro _ _ ⟨An,rfl,rfl⟩;refine wa (bE 1 Z aa zb3 Z Z Z (rdr 0 Z)) ?_;rintro _ _ ⟨ff,fg,rfl,rfl⟩;refine bN (v:=sl ff (n2+1) fg) Z<|wn Z<|aM<|wA Z Z<|wm Z<|aA ?_;exact⟨ff,n2+1,fg,a2++([rd V (rd (plc s.length 1) i)]),i+1,⟨(by simp only[ah,ox];try rfl),G,G,(by rw[dD ar G,jh,Kk];rfl)⟩,G,SA,λ_ h=>h.selR (F:=[_,_,_,_,_]) (F':=[_,_,_,_]) [1,2,3,4] cC Z⟩
    ·refine aZ<|wq<|wm Z<|wa (bS .i64 [0] aa zs3 Z Z Z) ?_;rintro _ _ ⟨j9,rfl,rfl⟩;refine wa (bE 1 Z aa zb3 Z Z Z (rdr 0 Z)) ?_;rintro _ _ ⟨wk,wx,rfl,rfl⟩;refine bN (v:=sl wk (n2+1) wx) Z<|wn Z<|aG<|wq<|wm Z<|wy (aQ aa Z)<|wa (aF NQ Z (Ct.fresh (λw hw=>kX cE G))) ?_;rintro _ _ ⟨_,rfl,rp,rx,rfl,rfl⟩;refine bN (v:=sl rp ((plc s.length 2).length) rx) Z<|wy (aQ aa Z)<|wm Z<|aA<|aI ?_;refine jN (λ(A3:Option Addr) (n3:Nat) (c3:Nat) (a3:List Int) (u:Int)=>[(5,sl (GG md) ((((s.length:Nat):Int)+3).toNat) ((((s.length:Nat):Int)+3).toNat)),(6,sl A6 n6 c6),(8,I n),(11,sl bc ((plc s.length 1).length) bh),(12,sl A3 n3 c3),(98,sl rp ((plc s.length 2).length) rx),(99,I (((plc s.length 2).length:Nat):Int)),(100,I u)]) (λA3 n3 c3 a3 u=>((ri 3 rp ((plc s.length 2).length) rx (plc s.length 2))::(ri 3 (GG j9) 1 1 ([0]))::(ri 3 A3 n3 c3 a3)::(ri 3 bc ((plc s.length 1).length) bh (plc s.length 1))::(ri 3 (GG md) ((((s.length:Nat):Int)+3).toNat) ((((s.length:Nat):Int)+3).toNat) V)::(ri 3 none 0 0 ([]))::Rs)) (λA3 n3 c3 a3 u=>(n3=a3.length)/\(0<=u)/\(u<=(plc s.length 2).length)/\(a3=((plc s.length 1).map (rd V)++[0])++((plc s.length 2).take u.toNat).map (rd V))) (λA3 n3 c3 a3 u=>((plc s.length 2).length-u).toNat) ?_ ?_
     ·exact⟨wk,n2+1,wx,a2++([0]),0,⟨(by simp only[ah,ox];try rfl),G,G,(by rw[Kk,bn G];simp)⟩,SA,λ_ h=>h⟩
     intro A3 n3 c3 a3 u ⟨Pm,nb,xj,Kl⟩;have Tk:=bz List.length Kl;rw[ah,ah,bi,bi,ax,ic] at Tk;refine wq<|wL Z Z<|aA<|aG<|bJ Z (λDd=> ?_) (λDd=> ?_)
     ·have Mu:=(jC (n:=s.length) (r:=2) G).1 (bH (L:=plc s.length 2) nb G);refine aJ<|aG<|aI<|wq<|wy (aH aa sz3 Z Z (rdr 0 Z))<|wy (aX ak Z Z (rdr 0 Z))<|wn Z<|aM<|wm Z<|wm Z<|wm Z<|wy (aH aa sz3 Z Z (rdr 4 Z))<|wy (aX ak Z Z (rdr 4 Z)) ?_;refine wa (bS .i64 [rd V (rd (plc s.length 2) u)] aa zs3 Z Z Z) ?_;rintro _ _ ⟨Nt,rfl,rfl⟩;refine wa (bE 3 Z aa zb3 Z Z Z (rdr 0 Z)) ?_;rintro _ _ ⟨pe,pf,rfl,rfl⟩;refine bN (v:=sl pe (n3+1) pf) Z<|wn Z<|aM<|wA Z Z<|wm Z<|aA ?_;exact⟨pe,n3+1,pf,a3++([rd V (rd (plc s.length 2) u)]),u+1,⟨(by simp only[ah,Pm];try rfl),G,G,(by rw[dD nb G,jh,Kl,ig];rfl)⟩,G,SA,λ_ h=>h.selR (F:=[_,_,_,_,_,_,_]) (F':=[_,_,_,_,_,_]) [1,2,3,4,5,6] cC Z⟩
     ·have xt:a3=blw s V:=by rw[Kl,bn G];rfl
      refine aZ<|wq<|wn Z<|aG<|wq<|wm Z<|wm Z<|wA Z Z<|wa (aF aXx Z (Ct.fresh (λw hw=>IH ((rdr 2 Z) w hw) (by rw[xt,sM];omega) ⟨G,by rw[xt];exact aRs hF hI.n0⟩ (by rw[xt,sM];omega)))) ?_;rintro _ _ ⟨_,rfl,b1,ot,ov,rfl,de,fi,rfl⟩;refine wy (aQ aa Z)<|wm Z<|aA<|aI ?_;refine jN (λ(A4:Option Addr) (n4:Nat) (c4:Nat) (a4:List Int) (m:Int)=>[(4,sl A4 n4 c4),(5,sl (GG md) ((((s.length:Nat):Int)+3).toNat) ((((s.length:Nat):Int)+3).toNat)),(6,sl A6 n6 c6),(11,sl bc ((plc s.length 1).length) bh),(115,sl ot a3.length ov),(116,I ((a3.length:Nat):Int)),(117,I m)]) (λA4 n4 c4 a4 m=>((ri 3 ot a3.length ov b1)::(ri 3 rp ((plc s.length 2).length) rx (plc s.length 2))::(ri 3 (GG j9) 1 1 ([0]))::(ri 3 A3 n3 c3 a3)::(ri 3 bc ((plc s.length 1).length) bh (plc s.length 1))::(ri 3 (GG md) ((((s.length:Nat):Int)+3).toNat) ((((s.length:Nat):Int)+3).toNat) V)::(ri 3 A4 n4 c4 a4)::Rs)) (λA4 n4 c4 a4 m=>(n4=a4.length)/\(0<=m)/\(m<=b1.length)/\(a4=ofB s (b1.take m.toNat))) (λA4 n4 c4 a4 m=>(b1.length-m).toNat) ?_ ?_
      ·exact⟨none,0,0,[],0,⟨(Z),G,G,(Z)⟩,SA,λ_ h=>h⟩
      intro A4 n4 c4 a4 m ⟨Rr,qq,ln,k8⟩;have hbl1:b1.length=a3.length:=by rw[de.length_eq,bF]
      have hal4:=bz List.length k8;have Tl:=aUn (s:=s) (b1.take m.toNat);rw[ax] at Tl;refine wq<|wL Z Z<|aA<|aG<|bJ Z (λKq=> ?_) (λKq=> ?_)
      ·have Tp:=aW.1 (de.subset (bH (L:=b1) qq G));rw[xt,sM] at Tp;refine aJ<|aG<|aI<|wq<|wy (aH aa sz3 Z Z (rdr 0 Z))<|wy (aX ak Z Z (rdr 0 Z))<|wn Z<|aI<|wq<|wm Z<|wm Z<|wy (aQ aa Z) ?_;refine wL Z Z<|wn Z<|bJ Z (λOn=> ?_) (λOn=> ?_)
       ·refine aM<|wm Z<|wm Z<|wm Z<|wy (aH aa sz3 Z Z (rdr 4 Z))<|wy (aX ak Z Z (rdr 4 Z))<|wa (bS .i64 [rd (plc s.length 1) (rd b1 m)] aa zs3 Z Z Z) ?_;rintro _ _ ⟨Zl,rfl,rfl⟩;refine wa (bE 7 Z aa zb3 Z Z Z (rdr 0 Z)) ?_;rintro _ _ ⟨Ni,Nr,rfl,rfl⟩;refine bN (v:=sl Ni (n4+1) Nr) Z<|wn Z<|aM<|wA Z Z<|wm Z<|aA ?_;exact⟨Ni,n4+1,Nr,a4++([rd (plc s.length 1) (rd b1 m)]),m+1,⟨(by simp only[ah,Rr];try rfl),G,G,(by rw[dD qq G,UC G,k8,bBg Tp.1 G])⟩,G,SA,λ_ h=>h.selR (F:=[_,_,_,_,_,_,_,_]) (F':=[_,_,_,_,_,_,_]) [1,2,3,4,5,6,7] cC Z⟩
       ·refine wq<|wm Z<|wm Z<|wy (aQ aa Z)<|wy (dV Z Z)<|wn Z<|bJ Z (λKo=> ?_) (λKo=> ?_)
        ·refine aM<|wm Z<|wm Z<|wm Z<|wS Z Z<|wy (aH aa sz3 Z Z (λ_ h=>h6 _ _ _ (h.right (R':=[_,_,_,_,_,_,_]))))<|wy (aX ak Z Z (λ_ h=>h6 _ _ _ (h.right (R':=[_,_,_,_,_,_,_]))))<|wa (bS .i64 [rd (smp s.length) ((rd b1 m)-1)] aa zs3 Z Z Z) ?_;rintro _ _ ⟨Zm,rfl,rfl⟩;refine wa (bE 7 Z aa zb3 Z Z Z (rdr 0 Z)) ?_;rintro _ _ ⟨Nj,Ns,rfl,rfl⟩;refine bN (v:=sl Nj (n4+1) Ns) Z<|wn Z<|aM<|wA Z Z<|wm Z<|aA ?_;exact⟨Nj,n4+1,Ns,a4++([rd (smp s.length) ((rd b1 m)-1)]),m+1,⟨(by simp only[ah,Rr];try rfl),G,G,(by rw[dD qq G,UC G,k8,bBf G G])⟩,G,SA,λ_ h=>h.selR (F:=[_,_,_,_,_,_,_,_]) (F':=[_,_,_,_,_,_,_]) [1,2,3,4,5,6,7] cC Z⟩
        ·refine aJ<|aM<|wA Z Z<|wm Z<|aA ?_;exact⟨A4,n4,c4,a4,m+1,⟨(by simp only[ah,Rr];try rfl),G,G,(by rw[dD qq G,UB G,k8])⟩,G,SA,λ_ h=>h⟩
      ·rw [xt] at de fi;have Xu:a4=ofB s b1:=by rw[k8,bn G]
       have Lg:a4.Perm (smp s.length):=by rw[Xu];exact aOa de
       have Uv:a4.Pairwise (bU s):=by rw[Xu];exact ZL hF hI.n0 de fi
       refine aZ<|aG<|wq<|wm Z<|wy (aQ aa Z)<|wm Z<|aA<|aI ?_;refine dS (λ(z:Int) (V5:List Int)=>[(4,sl A4 n4 c4),(5,sl (GG md) ((((s.length:Nat):Int)+3).toNat) ((((s.length:Nat):Int)+3).toNat)),(147,sl A4 n4 c4),(148,I ((n4:Nat):Int)),(149,I z)]) (λz V5=>((ri 3 ot a3.length ov b1)::(ri 3 rp ((plc s.length 2).length) rx (plc s.length 2))::(ri 3 (GG j9) 1 1 ([0]))::(ri 3 A3 n3 c3 a3)::(ri 3 bc ((plc s.length 1).length) bh (plc s.length 1))::(ri 3 (GG md) ((((s.length:Nat):Int)+3).toNat) ((((s.length:Nat):Int)+3).toNat) V5)::(ri 3 A4 n4 c4 a4)::Rs)) (λz V5=>(0<=z)/\(z<=a4.length)/\(RkN s a4 V5 z)) (λz V5=>(a4.length-z).toNat) ?_ ?_
       ·exact⟨0,V,⟨G,G,(hF.zero _)⟩,SA,λ_ h=>h⟩
       intro z V5 ⟨sf,tz,Ra⟩;have hV5:=Ra.len;refine wq<|wL Z Z<|aA<|aG<|bJ Z (λKp=> ?_) (λKp=> ?_)
       ·have hzi:=mI (Lg.subset (bH (L:=a4) sf G));refine aJ<|aG<|aI<|wq<|wm Z<|wy (aH aa sz3 Z Z (rdr 6 Z))<|wy (aX ak Z Z (rdr 6 Z))<|wg Z<|wn Z<|aM<|wm Z<|wm Z<|wm Z ?_;refine wA Z Z<|wy (aH aa sz3 Z Z (rdr 5 Z))<|bX (bG 5 Z sz3 Z Z) ?_;rintro _ _ rfl;refine aA<|aM<|wA Z Z<|wm Z<|aA ?_;exact⟨z+1,upd V5 (rd a4 z) (z+1),⟨G,G,(Ra.step Lg sf G)⟩,G,SA,λ_ h=>h⟩
       ·refine aZ<|wq<|wm Z<|wm Z<|wg Z<|wn Z<|bR (R1:=[(ri 3 A4 n4 c4 a4),(ri 3 (GG md) ((((s.length:Nat):Int)+3).toNat) ((((s.length:Nat):Int)+3).toNat) V5)]) (λ_ h=>(h.selR (F:=[_,_,_,_,_,_,_]) (F':=[_,_]) [6,5] cC Z).left (X:=[_,_])) ?_;refine⟨_,_,Z,Z,?_⟩;obtain rfl:=Rr;have Ob:(((s.length:Nat):Int)+3).toNat=V5.length:=by have:=Ra.len;omega
        have Zz:RkN s a4 V5 a4.length:=by have e:z=a4.length:=G;rw[<-e];exact Ra
        exact⟨a4,V5,_,_,_,_,_,Z,Ob,Zz.done Lg Uv,λB w0 w h=>rdr 0 Z w h,λB w0 w h=>by rw[<-Ob];exact rdr 1 rfl w h⟩
theorem aNd {l:List Int} {a:Int} (h0:0<=a):rd (l.drop a.toNat) 0=rd l a:=by
 unfold rd;rw[af,af,qc];rfl
set_option maxHeartbeats 4000000 in
theorem DJ {w:World} {s:List Int} (ba:Rd w bp eh bo 1 (ints .i64 s)) (IH: ∀ {w:World} {rg:Option Addr} {rn rh:Nat} {t:List Int} {j:Int},Rd w rg rn rh 1 (ints .i64 t)->t.length<s.length->((0<=j/\j<=1000000)/\ ∀x∈t,0<=x/\x<j)->t.length<=100000->Ct Tryz.prog 266 #[sl rg rn rh,I j] w.heap.size w [] (λv R'=> ∃(b:List Int) (A:Option Addr) (c:Nat),v=sl A t.length c/\b.Perm (iota t.length)/\b.Pairwise (bU t)/\R'=[(ri 3 A t.length c b)])) (cx:(0<=k/\k<=1000000)/\ ∀x∈s,0<=x/\x<k) (hN:s.length<=100000):
  Ct Tryz.prog 266 #[sl bp eh bo,I k] w.heap.size w [] (λv R'=> ∃(b:List Int) (A:Option Addr) (c:Nat),v=sl A s.length c/\b.Perm (iota s.length)/\b.Pairwise (bU s)/\R'=[(ri 3 A s.length c b)]):=by
 obtain rfl:=ba.lenI;refine fn1 Tryz.func266 Z Z Z ?_;have ub:=ba.max;have un: ∀x∈s,0<=x/\x<=1000000:=λx hx=>by have:=cx.2 x hx;omega
 have lp0:=iX s.length 0;have lsm:=yA s.length;refine wq<|wn Z<|aG<|wq<|wm Z<|wy (aQ aa Z)<|wL Z Z<|aA<|bJ Z (λaq=> ?_) (λaq=> ?_)
 ·refine wq<|wm Z<|wy (aQ aa Z)<|wa (aF NQ Z (Ct.fresh (λw hw=>kX cE G))) ?_;rintro _ _ ⟨_,rfl,bx,br,rfl,rfl⟩;refine bN (v:=sl bx ((plc s.length 0).length) br) Z<|wm Z<|wy (aQ aa Z)<|wy (gD aa sz3 Z Z (rdr 0 Z))<|wn Z<|bR (R1:=[(ri 3 bx ((plc s.length 0).length) br (plc s.length 0))]) (λ_ h=>(h.selR (F:=[_]) (F':=[_]) [0] cC Z).left (X:=[_])) ?_;refine⟨_,Z,?_⟩;rw[aHb (show s.length<2 by omega),bF];exact⟨_,_,_,Z, .refl _,aZp G,Z⟩
 ·refine aJ<|wq<|wm Z<|wm Z<|wa (aF bDq Z (Ct.fresh (λw hw=>KQ ((ba.c _) w hw) IH cx hN G))) ?_;rintro _ _ ⟨Rn,rfl,o1,V1,ij,fh,io,nf,_,rfl,rfl,d9,Lo,wj⟩;refine dH (R1:=(Rn)) (Sub.refl _) (λ_ h=>Hp.toTail0 (X:=[]) (Y:=[]) h)<|wm Z<|wX Z Z<|wX Z Z<|wg Z<|wn Z<|wq<|wm Z<|wy (aQ aa Z)<|wa (aF NQ Z (Ct.fresh (λw hw=>kX cE G))) ?_;rintro _ _ ⟨_,rfl,es,dt,rfl,rfl⟩;refine bN (v:=sl es ((plc s.length 0).length) dt) Z<|wn Z<|wq<|wm Z<|wy (aQ aa Z)<|wa (dE aa zb3 Z Z) ?_;rintro _ _ ⟨md,rfl,rfl⟩;refine bN (v:=sl (GG md) s.length s.length) Z<|wn Z<|aG<|wq<|wm Z<|wy (aQ aa Z)<|wm Z<|aA<|aI ?_;refine dS (λ(i:Int) (V:List Int)=>[(0,sl bp s.length bo),(1,I k),(5,sl ij o1.length io),(6,sl fh V1.length nf),(7,sl es ((plc s.length 0).length) dt),(8,sl (GG md) s.length s.length),(35,I ((s.length:Nat):Int)),(36,I i)]) (λi V=>((ri 3 (GG md) s.length s.length V)::(ri 3 es ((plc s.length 0).length) dt (plc s.length 0))::Rn)) (λi V=>(0<=i)/\(i<=s.length)/\(V.length=s.length)/\(∀j:Int,0<=j->j<i->rd V j=rd V1 (j+1))) (λi V=>(s.length-i).toNat) ?_ ?_
  ·exact⟨0,List.replicate s.length (0:Int),⟨G,G,(by rw[bq]),(λj h1 h2=>G)⟩,SA,λ_ h=>h⟩
  intro i V ⟨ar,ia,iu,hV⟩;refine wq<|wL Z Z<|aA<|aG<|bJ Z (λcr=> ?_) (λcr=> ?_)
  ·have hV1:=d9.len;refine aJ<|aG<|aI<|wq<|wm Z<|wn Z<|aM<|wm Z<|wm Z<|wm Z<|wm Z<|wA Z Z<|wy (aH aa sz3 Z Z (λ_ h=>wj _ _ _ (h.right (R':=[_,_])))) ?_;refine wy (aX ak Z Z (λ_ h=>wj _ _ _ (h.right (R':=[_,_]))))<|wy (aH aa sz3 Z Z (rdr 0 Z))<|bX (bG 0 Z sz3 Z Z) ?_;rintro _ _ rfl;refine aA<|aM<|wA Z Z<|wm Z<|aA ?_;exact⟨i+1,upd V i (rd V1 (i+1)),⟨G,G,(by rw[aV];exact iu),(eG (f:=λj=>rd V1 (j+1)) ar G hV Z)⟩,G,SA,λ_ h=>h⟩
  ·have hB:V=bhd s V1:=bBj iu (λj h1 h2=>hV j h1 G);have Sp:=aNo d9;have Qw:=HY d9 cx.2 cx.1.1;have Li:=ZH d9 cx.2 cx.1.1;have hol:=d9.perm.length_eq;refine aZ<|wq<|wm Z<|wm Z<|wm Z<|wy (aQ aa Z)<|wA Z Z<|wa (aF JC Z (Ct.fresh (λw hw=>rZ ((rdr 1 Z) w hw) ((rdr 0 Z) w hw) G (by rw[hB];exact aRt d9) (λx hx=>by rw[jC G] at hx;omega) G))) ?_;rintro _ _ ⟨_,rfl,bc,bh,rfl,rfl⟩;generalize tg:bW (plc s.length 0) V ((((s.length:Nat):Int)+1)).toNat=ot1;refine wm Z<|wX Z Z<|wX Z Z<|wn Z<|wq<|wm Z<|wm Z<|wa (aF aXu Z (Ct.fresh (λw hw=>NE ((ba.c _) w hw) G un G))) ?_;rintro _ _ ⟨_,rfl,pr,cj,rfl,rfl⟩;refine wm Z<|wA Z Z<|wa (aF JC Z (Ct.fresh (λw hw=>rZ ((rdr 1 Z) w hw) ((rdr 0 Z) w hw) G (UO cx.2 cx.1.1 G) (λx hx=>by rw[<-tg,hB] at hx;have:=Sp.subset hx;rw[jC G] at this;rw[BL];omega) (by rw[<-tg,hB,Sp.length_eq];omega)))) ?_;rintro _ _ ⟨_,rfl,ff,fg,rfl,rfl⟩;generalize Kz:bW ot1 (fA s 0) ((k+1)).toNat=ot2;have Lj:oth s V1 k=ot2:=by unfold oth;rw[<-hB,tg,Kz]
   rw[Lj] at Qw Li;have po:=Qw.length_eq;have vj:ot1.length=ot2.length:=by rw[po,<-tg,hB,Sp.length_eq]
   refine wm Z<|wX Z Z<|wX Z Z<|wn Z<|wq<|dH (R1:=((ri 3 none 0 0 ([]))::(ri 3 ff ((ot1).length) fg ot2)::(ri 3 pr ((s).length) cj (fA s 0))::(ri 3 bc (((plc s.length 0)).length) bh ot1)::(ri 3 (GG md) s.length s.length V)::(ri 3 es ((plc s.length 0).length) dt (plc s.length 0))::Rn)) (Sub.refl _) (λ_ h=>h.nil 3 1)<|wn Z<|aG<|wq<|wm Z<|wy (aQ aa Z) ?_;refine wm Z<|aA<|aI ?_;refine OQ (λ(q:Int) (x:Int) (AL:Option Addr) (nL:Nat) (cL:Nat) (acc:List Int) (AO:Option Addr) (nO:Nat) (cO:Nat)=>[(0,sl bp s.length bo),(5,sl AO nO cO),(6,sl fh V1.length nf),(10,sl AL nL cL),(66,sl ff ((ot1).length) fg),(67,I (((ot1).length:Nat):Int)),(68,I q)]) (λq x AL nL cL acc AO nO cO=>((ri 3 AL nL cL acc)::(ri 3 ff ((ot1).length) fg ot2)::(ri 3 pr ((s).length) cj (fA s 0))::(ri 3 bc (((plc s.length 0)).length) bh ot1)::(ri 3 (GG md) s.length s.length V)::(ri 3 es ((plc s.length 0).length) dt (plc s.length 0))::Rn)) (λq x AL nL cL acc AO nO cO=>(0<=q)/\(q<=ot2.length)/\(0<=x)/\(x<=o1.length)/\(MgI s o1 ot2 acc x q)/\(nL=acc.length)/\(nO=(o1.drop x.toNat).length)/\(∀(B:Nat) (w0 w:World),Hp B w0 w Rn->Rd w AO nO cO 1 (ints .i64 (o1.drop x.toNat)))) (λq x AL nL cL acc AO nO cO=>(ot2.length-q).toNat) ?_ ?_
   ·exact⟨0,0,none,0,0,[],ij,o1.length,io,⟨G,G,G,G,(aOh),(Z),(Z),(Lo)⟩,SA,λ_ h=>h⟩
   intro q x AL nL cL acc AO nO cO ⟨gv,f9,Yf,hx1,hM,hnL,Xq,h5⟩;have wb:=hM.len Yf hx1 gv f9;refine wq<|wL Z Z<|aA<|aG<|bJ Z (λfd=> ?_) (λfd=> ?_)
   ·have Ya:q<ot2.length:=G
    have hqm:=(jC G).1 (Qw.subset (bH (L:=ot2) gv Ya));have Xz:(0<=rd ot2 q/\rd ot2 q<s.length)/\rd ot2 q%3=0:=G
    refine aJ<|aG<|aI<|wq<|wy (aH aa sz3 Z Z (rdr 1 Z))<|wy (aX ak Z Z (rdr 1 Z))<|wn Z<|aG<|aI ?_;refine DZ (λ(y:Int) (AM:Option Addr) (nM:Nat) (cM:Nat) (rv:List Int) (AP:Option Addr) (nP:Nat) (cP:Nat)=>[(0,sl bp s.length bo),(5,sl AP nP cP),(6,sl fh V1.length nf),(10,sl AM nM cM),(12,I (rd ot2 q)),(66,sl ff ((ot1).length) fg),(67,I (((ot1).length:Nat):Int)),(68,I q)]) (λy AM nM cM rv AP nP cP=>((ri 3 AM nM cM rv)::(ri 3 ff ((ot1).length) fg ot2)::(ri 3 pr ((s).length) cj (fA s 0))::(ri 3 bc (((plc s.length 0)).length) bh ot1)::(ri 3 (GG md) s.length s.length V)::(ri 3 es ((plc s.length 0).length) dt (plc s.length 0))::Rn)) (λy AM nM cM rv AP nP cP=>(0<=y)/\(y<=o1.length)/\(MgI s o1 ot2 rv y q)/\(nM=rv.length)/\(nP=(o1.drop y.toNat).length)/\(∀(B:Nat) (w0 w:World),Hp B w0 w Rn->Rd w AP nP cP 1 (ints .i64 (o1.drop y.toNat)))) (λy AM nM cM rv AP nP cP=>(o1.length-y).toNat) ?_ ?_
    ·exact⟨x,AL,nL,cL,acc,AO,nO,cO,⟨G,G,(hM),(hnL),(Xq),(h5)⟩,SA,λ_ h=>h⟩
    intro y AM nM cM rv AP nP cP ⟨Ql,Vs,Oa,Xp,Um,h6⟩;have Km:=Oa.len Ql Vs gv G;have Un:=Um;rw[bg] at Un;have e0:=aNd (l:=o1) Ql
    have Xv:y<o1.length->(0<=rd (o1.drop y.toNat) 0/\rd (o1.drop y.toNat) 0<s.length)/\rd (o1.drop y.toNat) 0%3≠0:=λh=>by
     have:=kM.1 (d9.perm.subset (bH Ql h));rw[e0];omega
    refine aG<|wq<|wm Z<|wy (aQ aa Z)<|wy (dV Z Z)<|wm Z<|dQ 8 [(0,sl bp s.length bo),(5,sl AP nP cP),(6,sl fh V1.length nf),(10,sl AM nM cM),(12,I (rd ot2 q)),(66,sl ff ((ot1).length) fg),(67,I (((ot1).length:Nat):Int)),(68,I q),(83, .bool (decide ((0<((nP:Nat):Int))/\(cmpL ((s).drop ((rd (o1.drop y.toNat) 0)).toNat) ((s).drop ((rd ot2 q)).toNat)<0))))] ((ri 3 AM nM cM rv)::(ri 3 ff ((ot1).length) fg ot2)::(ri 3 pr ((s).length) cj (fA s 0))::(ri 3 bc (((plc s.length 0)).length) bh ot1)::(ri 3 (GG md) s.length s.length V)::(ri 3 es ((plc s.length 0).length) dt (plc s.length 0))::Rn) ?_ ?_
    ·refine cK 75 Z (λka=> ?_) (λka=> ?_)
     ·refine aC Z Z<|wm Z<|aC Z Z<|wm Z<|aC Z Z<|wm Z<|aC Z Z<|wy (aH aa sz3 Z Z (λ_ h=>h6 _ _ _ (h.right (R':=[_,_,_,_,_,_]))))<|aC Z Z<|wy (aX ak Z Z (λ_ h=>h6 _ _ _ (h.right (R':=[_,_,_,_,_,_]))))<|aC Z Z<|wm Z<|aC Z Z<|wa (aF bDp Z (Ct.quiet (λw hw=>aHt ((ba.c _) w hw) ((λ_ h=>wj _ _ _ (h.right (R':=[_,_,_,_,_,_]))) w hw) d9 (Xv G) Xz un G))) ?_;rintro _ _ ⟨rfl,rfl⟩;refine wy (aY Z Z)<|aA ?_;exact⟨SA,λ_ h=>h⟩
     ·refine aP Z Z Z Z<|aP Z Z Z Z<|aP Z Z Z Z<|aP Z Z Z Z<|aP Z Z Z Z<|aP Z Z Z Z<|aP Z Z Z Z<|wy (aR Z Z)<|aA ?_;exact⟨SA,λ_ h=>h⟩
    refine aA<|bJ Z (λkj=> ?_) (λkj=> ?_)
    ·have Sc:y<o1.length:=G
     have f8:=gX.1 kj.2;rw[e0] at f8;refine aJ<|aI<|bT mixed<|wD 0 Z (aN Z)<|wD 1 Z (aN Z)<|wD 2 Z (aH aa sz3 Z Z (λ_ h=>h6 _ _ _ (h.right (R':=[_,_,_,_,_,_]))))<|wD 3 Z (aX ak Z Z (λ_ h=>h6 _ _ _ (h.right (R':=[_,_,_,_,_,_]))))<|wD 6 Z (aN Z)<|wD 7 Z (iP aa sz3 Z Z)<|wC 4 Z (bS .i64 [rd (o1.drop y.toNat) 0] aa zs3 Z Z Z) ?_;rintro _ _ ⟨j9,rfl,rfl⟩;refine⟨.inr λ_ h=>h.right (R':=[_]),?_⟩;refine wC 5 Z (bE 1 Z aa zb3 Z Z Z (rdr 0 Z)) ?_;rintro _ _ ⟨wk,wx,rfl,rfl⟩;refine⟨.inl cA,?_⟩;refine CK (v:=sl wk (nM+1) wx) Z<|wD 8 Z (bP Z)<|wD 9 Z (bP Z)<|wN ?_
     exact⟨(y+1),wk,nM+1,wx,rv++([rd (o1.drop y.toNat) 0]),iY AP (1:Int).toNat cP 1,nP-(1:Int).toNat,cP-(1:Int).toNat,⟨G,G,(by rw[e0];exact Oa.left d9.sorted Li Ql G gv Ya f8),(by rw[ah,Xp];rfl),(by rw[bg] at Um ⊢;omega),(λB w0 w h=>by
        have g:=RdC.fromI (l:=(1:Int).toNat) (h6 B w0) G w h;rw[List.drop_drop,show y.toNat+(1:Int).toNat=(y+1).toNat by omega] at g
        exact g)⟩,G,SA,λ_ h=>h.selR (F:=[_,_,_,_,_,_,_]) (F':=[_,_,_,_,_,_]) [1,2,3,4,5,6] cC Z⟩
    ·have b9:y<o1.length->bU s (rd ot2 q) (rd o1 y):=λh=>by
      have h1:=Xv h;rw[e0] at h1 kj;rcases IA h1.1 Xz.1 G with g|g
      ·exact absurd ⟨G,gX.2 g⟩ kj
      ·exact g
     refine aZ<|aM<|wm Z<|wm Z<|wa (bS .i64 [rd ot2 q] aa zs3 Z Z Z) ?_;rintro _ _ ⟨jn,rfl,rfl⟩;refine wa (bE 1 Z aa zb3 Z Z Z (rdr 0 Z)) ?_;rintro _ _ ⟨en,ew,rfl,rfl⟩;refine bN (v:=sl en (nM+1) ew) Z<|wn Z<|aM<|wA Z Z<|wm Z<|aA ?_;exact⟨q+1,y,en,nM+1,ew,rv++([rd ot2 q]),AP,nP,cP,⟨G,G,G,G,(Oa.right d9.sorted Li Ql gv G b9),(by rw[ah,Xp];rfl),(Um),(h6)⟩,G,SA,λ_ h=>h.selR (F:=[_,_,_,_,_,_,_]) (F':=[_,_,_,_,_,_]) [1,2,3,4,5,6] cC Z⟩
   ·refine aZ<|wq<|wm Z<|wm Z<|wa (bE 0 Z aa zb3 Z Z Z (λ_ h=>h5 _ _ _ (h.right (R':=[_,_,_,_,_,_]))) (by have:=Xq;rw[bg] at this;omega)) ?_;rintro _ _ ⟨pe,pf,rfl,rfl⟩;refine bN (v:=sl pe (nL+nO) pf) Z<|wn Z<|bR (R1:=[(ri 3 pe (nL+nO) pf (acc++(o1.drop x.toNat)))]) (λ_ h=>(h.selR (F:=[_,_,_,_,_,_]) (F':=[_]) [0] cC Z).left (X:=[_])) ?_;refine⟨_,Z,?_⟩;have hd:=hM.done d9.sorted G d9.perm Qw;have e:nL+nO=s.length:=by have:=hd.1.length_eq;rw[bF,ah] at this;omega
    rw[e];exact⟨_,_,_,Z,hd.1,hd.2,Z⟩
theorem SN (m:Nat): ∀ {w:World} {bp:Option Addr} {eh bo:Nat} {s:List Int} {k:Int},Rd w bp eh bo 1 (ints .i64 s)->s.length<m->((0<=k/\k<=1000000)/\ ∀x∈s,0<=x/\x<k)->s.length<=100000->
  Ct Tryz.prog 266 #[sl bp eh bo,I k] w.heap.size w [] (λv R'=> ∃(b:List Int) (A:Option Addr) (c:Nat),v=sl A s.length c/\b.Perm (iota s.length)/\b.Pairwise (bU s)/\R'=[(ri 3 A s.length c b)]):=by
 induction m with
 |zero=>intro w A n c s k _ h;omega
 |succ m ih=>
  intro w A n c s k ba hm cx hN;exact DJ ba (λh1 h2 h3 h4=>ih h1 G h3 h4) cx hN
theorem KM {s:List Int} (ba:Rd w bp eh bo 1 (ints .i64 s)) (cx:(0<=k/\k<=1000000)/\ ∀x∈s,0<=x/\x<k) (hN:s.length<=100000):
  Ct Tryz.prog 266 #[sl bp eh bo,I k] w.heap.size w [] (λv R'=> ∃(b:List Int) (A:Option Addr) (c:Nat),v=sl A s.length c/\b.Perm (iota s.length)/\b.Pairwise (bU s)/\R'=[(ri 3 A s.length c b)]):=SN (s.length+1) ba G cx hN
set_option maxHeartbeats 600000 in
theorem KH {s:List Int} (ba:Rd w bp eh bo 1 (ints .i64 s)) (hs: ∀x∈s,0<=x/\x<1048576) (hN:s.length<=100000):
  Ct Tryz.prog 267 #[sl bp eh bo] w.heap.size w [] (λv R'=> ∃(m:Int) (A:Option Addr) (c:Nat),v=sl A s.length c/\(∀x∈s,0<=x/\x<=m)/\R'=[(ri 3 A s.length c (sqz s m))]):=by
 obtain rfl:=ba.lenI;refine fn1 Tryz.func267 Z Z Z ?_;have ub:=ba.max;refine wq<|wn Z<|wq<|wn Z<|aG<|wq<|wm Z<|wy (aQ aa Z)<|wm Z<|aA ?_;refine aI ?_;refine dS (λ(i:Int) (m:Int)=>[(0,sl bp s.length bo),(3,I m),(13,sl bp s.length bo),(14,I ((s.length:Nat):Int)),(15,I i)]) (λi m=>[]) (λi m=>(0<=i)/\(i<=s.length)/\(0<=m)/\(m<=1048575)/\(∀x∈s.take i.toNat,x<=m)) (λi m=>(s.length-i).toNat) ?_ ?_
 ·exact⟨0,0,⟨G,G,G,G,(λx hx=>by cases hx)⟩,SA,λ_ h=>h⟩
 intro i m ⟨ar,ia,qq,hmk,Pk⟩;refine wq<|wL Z Z<|aA<|aG<|bJ Z (λaq=> ?_) (λaq=> ?_)
 ·have hsi:=hs _ (bH (L:=s) ar G);refine aJ<|aG<|aI<|wq<|wy (aH aa sz3 Z Z (ba.c _))<|wy (aX ak Z Z (ba.c _))<|wn Z<|aM<|wm Z<|wm Z<|wy (aKs Z Z)<|wn Z ?_;refine aM<|wA Z Z<|wm Z<|aA ?_
  exact⟨i+1,max m (rd s i),⟨G,G,G,G,(λx hx=>by
    rw[dD ar G] at hx;rcases fw.1 hx with hx|hx
    ·have:=Pk x hx;omega
    ·rw[jc.1 hx];omega)⟩,G,SA,λ_ h=>h⟩
 ·rw [bn G] at Pk;refine aZ<|wq<|wm Z<|wA Z Z<|wa (dE aa zb3 Z Z) ?_;rintro _ _ ⟨al,rfl,rfl⟩;refine bN (v:=sl (GG al) ((m+1).toNat) ((m+1).toNat)) Z<|wn Z<|aG<|wq<|wm Z<|wy (aQ aa Z)<|wm Z<|aA<|aI ?_;refine dS (λ(j:Int) (V:List Int)=>[(0,sl bp s.length bo),(6,sl (GG al) ((m+1).toNat) ((m+1).toNat)),(26,sl bp s.length bo),(27,I ((s.length:Nat):Int)),(28,I j)]) (λj V=>[(ri 3 (GG al) ((m+1).toNat) ((m+1).toNat) V)]) (λj V=>(0<=j)/\(j<=s.length)/\(V=thr (s.take j.toNat) m)) (λj V=>(s.length-j).toNat) ?_ ?_
  ·exact⟨0,List.replicate ((m+1).toNat) (0:Int),⟨G,G,((aSu m).symm)⟩,SA,λ_ h=>h⟩
  intro j V ⟨yd,Mn,hV⟩;refine wq<|wL Z Z<|aA<|aG<|bJ Z (λcr=> ?_) (λcr=> ?_)
  ·have Yd:0<=rd s j/\rd s j<=m:=⟨(hs _ (bH (L:=s) yd G)).1,Pk _ (bH (L:=s) yd G)⟩;have iu:V.length=(m+1).toNat:=by rw[hV,jB]
   refine aJ<|aG<|aI<|wq<|wy (aH aa sz3 Z Z (ba.c _))<|wy (aX ak Z Z (ba.c _))<|wn Z<|aM<|wm Z<|wm Z<|wy (aH aa sz3 Z Z (rdr 0 Z))<|bX (bG 0 Z sz3 Z Z) ?_;rintro _ _ rfl;refine aA<|aM<|wA Z Z<|wm Z<|aA ?_;exact⟨j+1,upd V (rd s j) 1,⟨G,G,(by rw[dD yd G,<-aLh Yd.1 Yd.2,<-hV])⟩,G,SA,λ_ h=>h⟩
  ·have Oc:V=thr s m:=by rw[hV,bn G]
   have Ax:(bZ V).length=(m+1).toNat:=by rw[eB,Oc,jB]
   refine aZ<|wq<|wm Z<|wa (aF aEs Z (Ct.fresh (λw hw=>vF ((rdr 0 Z) w hw) (by rw[Oc];exact aLi s m) (by rw[Oc];have:=aSt s m;omega) (by rw[Oc,jB];omega)))) ?_;rintro _ _ ⟨_,rfl,dj,dp,rfl,rfl⟩;refine wn Z<|wq<|wm Z<|wy (aQ aa Z)<|wa (dE aa zb3 Z Z) ?_;rintro _ _ ⟨gh,rfl,rfl⟩;refine bN (v:=sl (GG gh) s.length s.length) Z<|wn Z<|aG<|wq<|wm Z<|wy (aQ aa Z)<|wm Z<|aA<|aI ?_;refine dS (λ(z:Int) (U:List Int)=>[(9,sl dj ((bZ V).length) dp),(10,sl (GG gh) s.length s.length),(41,sl bp s.length bo),(42,I ((s.length:Nat):Int)),(43,I z)]) (λz U=>[(ri 3 (GG gh) s.length s.length U),(ri 3 dj ((bZ V).length) dp (bZ V)),(ri 3 (GG al) ((m+1).toNat) ((m+1).toNat) V)]) (λz U=>(0<=z)/\(z<=s.length)/\(U.length=s.length)/\(∀j:Int,0<=j->j<z->rd U j=rd (bZ (thr s m)) (rd s j))) (λz U=>(s.length-z).toNat) ?_ ?_
   ·exact⟨0,List.replicate s.length (0:Int),⟨G,G,(by rw[bq]),(λj h1 h2=>G)⟩,SA,λ_ h=>h⟩
   intro z U ⟨sf,tz,Bk,hU⟩;refine wq<|wL Z Z<|aA<|aG<|bJ Z (λfd=> ?_) (λfd=> ?_)
   ·have hsz:0<=rd s z/\rd s z<=m:=⟨(hs _ (bH (L:=s) sf G)).1,Pk _ (bH (L:=s) sf G)⟩;refine aJ<|aG<|aI<|wq<|wm Z<|wy (aH aa sz3 Z Z (ba.c _))<|wy (aX ak Z Z (ba.c _))<|wg Z<|wn Z<|aM<|wm Z<|wm Z<|wm Z ?_;refine wm Z<|wy (aH aa sz3 Z Z (rdr 1 Z))<|wy (aX ak Z Z (rdr 1 Z))<|wy (aH aa sz3 Z Z (rdr 0 Z))<|bX (bG 0 Z sz3 Z Z) ?_;rintro _ _ rfl;refine aA<|aM<|wA Z Z<|wm Z<|aA ?_;exact⟨z+1,upd U z (rd (bZ V) (rd s z)),⟨G,G,(by rw[aV];exact Bk),(eG (f:=λj=>rd (bZ (thr s m)) (rd s j)) sf G hU (by rw[Oc]))⟩,G,SA,λ_ h=>h⟩
   ·refine aZ<|wq<|wm Z<|wn Z<|aT [0] 99 cC Z ?_;refine⟨_,Z,?_⟩;have iz: ∀x∈s,0<=x/\x<=m:=λx hx=>⟨(hs x hx).1,Pk x hx⟩;obtain rfl:U=sqz s m:=aZe iz Bk (λj h1 h2=>hU j h1 G);exact⟨m,_,_,Z,iz,Z⟩
theorem aOw {s:List Int} (ba:Rd w bp eh bo 1 (ints .i64 s)) (cx:(0<=k/\k<=1048576)/\ ∀x∈s,0<=x/\x<k) (hN:s.length<=100000):
  Ct Tryz.prog 220 #[sl bp eh bo,I k] w.heap.size w [] (λv R'=> ∃(b:List Int) (A:Option Addr) (c:Nat),v= .tuple #[sl A s.length c,I 0]/\b.Perm (iota s.length)/\b.Pairwise (bU s)/\R'=[(ri 3 A s.length c b)]):=by
 obtain rfl:=ba.lenI;refine fn2 Tryz.func220 Z Z Z ?_;have ub:=ba.max;refine wq<|wg Z<|wn Z<|aG<|wq<|wm Z<|wy (aQ aa Z)<|wy (Yl.f (dV Z Z))<|aA<|aL Z<|aJ<|aG ?_;refine wq<|wm Z<|wm Z<|wa (aF VP Z (Ct.fresh (λw hw=>nI ((ba.c _) w hw) cE))) ?_;rintro _ _ ⟨_,rfl,bx,br,rfl,rfl⟩;refine wm Z<|wX Z Z<|wX Z Z<|wg Z<|wn Z<|wq<|wm Z<|wy (dI Z)<|aA<|aL Z<|aJ<|wq ?_;refine wm Z<|wa (aF bEc Z (Ct.fresh (λw hw=>KH ((ba.c _) w hw) (λx hx=>by have:=cx.2 x hx;omega) hN))) ?_;rintro _ _ ⟨_,rfl,mq,kd,km,rfl,Ul,rfl⟩;refine wm Z<|wy (aQ aa Z)<|wA Z Z<|wa (aF aXx Z (Ct.fresh (λw hw=>KM ((rdr 0 Z) w hw) ⟨G,λx hx=>by have:=aZf Ul x hx;omega⟩ (by rw[EG];exact hN)))) ?_;rintro _ _ ⟨_,rfl,b1,es,dt,rfl,de,fi,rfl⟩;refine wg Z<|wn Z<|aT [0] 99 cC Z ?_;refine⟨_,_,Z,Z,?_⟩;have ho:=aGb Ul de fi;rw[EG];exact⟨b1,_,_,Z,ho.1,ho.2,Z⟩
theorem aHx {ao:Option Addr} {ap an:Nat} {u:List Int} (am:Rd w ao ap an 1 (ints .u8 u)) (ac:aO u) (hN:u.length<=100000):
  Ct Tryz.prog 147 #[sl ao ap an] w.heap.size w [] (λv R'=> ∃(b:List Int) (A:Option Addr) (c:Nat),v= .tuple #[sl A u.length c,I 0]/\b.Perm (iota u.length)/\b.Pairwise (bU u)/\R'=[(ri 3 A u.length c b)]):=by
 obtain rfl:=am.lenI;refine fn2 Tryz.func147 Z Z Z ?_;have pd:=am.max;refine wq<|wg Z<|wn Z<|aG<|wq<|wm Z<|wy (aQ ai Z)<|wy (Yl.f (dV Z Z))<|aA<|aL Z<|aJ<|aG ?_;refine aM<|wm Z<|wy (aQ ai Z)<|wa (dE aa zb3 Z Z) ?_;rintro _ _ ⟨al,rfl,rfl⟩;refine bN (v:=sl (GG al) u.length u.length) Z<|wn Z<|aG<|wq<|wm Z<|wy (aQ ai Z)<|wm Z<|aA<|aI ?_;refine dS (λ(i:Int) (V:List Int)=>[(4,sl (GG al) u.length u.length),(13,sl ao u.length an),(14,I ((u.length:Nat):Int)),(15,I i)]) (λi V=>[(ri 3 (GG al) u.length u.length V)]) (λi V=>(0<=i)/\(i<=u.length)/\(V.length=u.length)/\(∀j:Int,0<=j->j<i->rd V j=rd u j)) (λi V=>(u.length-i).toNat) ?_ ?_
 ·exact⟨0,List.replicate u.length (0:Int),⟨G,G,(by rw[bq]),(λj h1 h2=>G)⟩,SA,λ_ h=>h⟩
 intro i V ⟨ar,ia,iu,hV⟩;refine wq<|wL Z Z<|aA<|aG<|bJ Z (λaq=> ?_) (λaq=> ?_)
 ·have rj:=ac.rd i;refine aJ<|aG<|aI<|wq<|wm Z<|wy (aH ai sz5 Z Z (am.c _))<|wy (aX cz Z Z (am.c _))<|wg Z<|wn Z<|aM<|wm Z<|wm Z<|wm Z ?_;refine wy (iV cz ak Z)<|wy (aH aa sz3 Z Z (rdr 0 Z))<|bX (bG 0 Z sz3 Z Z) ?_;rintro _ _ rfl;refine aA<|aM<|wA Z Z<|wm Z<|aA ?_;exact⟨i+1,upd V i (rd u i),⟨G,G,(by rw[aV];exact iu),(eG (f:=λj=>rd u j) ar G hV Z)⟩,G,SA,λ_ h=>h⟩
 ·have Od:V=u:=bI iu (λj h1 h2=>hV j h1 G);refine aZ<|wq<|wm Z<|wa (aF bEl Z (Ct.fresh (λw hw=>aOw ((rdr 0 Z) w hw) ⟨G,λx hx=>by rw[Od] at hx;have:=ac x hx;omega⟩ G))) ?_;rintro _ _ ⟨_,rfl,b1,dj,dp,rfl,de,fi,rfl⟩;refine wX Z Z<|wX Z Z<|wg Z<|wn Z<|aT [0] 99 cC Z ?_;refine⟨_,_,Z,Z,?_⟩;subst Od;exact⟨b1,_,_,Z,de,fi,Z⟩
end Go.Proofs.YtdbebmmhdefgdaaGreat
namespace Go.Proofs.YtdbebmmhdefgdaaGreat
open Go Go.Eng Go.RowKit Go.Shelf Go.Proofs
variable {c j g:Nat} {xs:List Value} {zs:List Int} {A:Option Addr}
attribute [local go_sem] Oper.semAt_some
theorem gU {W:World} {a:Addr} {n:Nat} (h:Rd W (some a) n c 1 xs) (hj:j<xs.length):W.cell? (a.add j)=some (xs[j]'hj):=by
 obtain⟨b,h1,h2⟩:=h.at_ j _ (av hj);obtain rfl:=iw h1;exact h2
theorem _root_.Go.Eng.Iter.congr {P:Program} {gf:Nat} {lb:Array Value} {ns:World->Prop} {N:Nat} {f f':Nat->List Value} (it:Iter P gf lb ns N f) (h: ∀k,k<N->f k=f' k):Iter P gf lb ns N f':=
 λl J W hR hD hY h0=>it l J W hR hD (λk W hk hJ=>by rw[h k hk];exact hY k W hk hJ) h0
theorem NI {k:IntKind} (h:j<zs.length):(ints k zs)[j]?.getD undef= .int k (rd zs (j:Int)):=by
 have:=Go.Eng.ints_at (k:=k) (l:=zs) (i:=(j:Int)) G G;rw[az] at this;rw[this,mh]
set_option maxRecDepth 100000 in
set_option maxHeartbeats 2000000 in
theorem aRv (px:xs.length<=1000000):Iter Tryz.prog 240 #[.pointer (some ⟨g,0,none⟩)] (λw=>Rd w (some ⟨g,0,none⟩) 1 1 1 [.slice A xs.length c]/\Rd w A xs.length c 1 xs) xs.length
  (λk=>[.int .i64 (((xs.length-1-k:Nat):Int)),xs[xs.length-1-k]?.getD undef]):=by
 intro l J W hR _ hY h0;rcases dx xs.length with hz|db
 ·have hc:W.cell? ⟨g,0,none⟩=some (.slice A xs.length c):=gU (hR _ _ h0).1 (j:=0) cD;rw[hz] at hc;refine Ae Tryz.func240 rfl trivial ?_ rfl;simp only[Tryz.ntmps240,pz,dm,jy,Nat.reduceAdd,Nat.reduceSub,uy,uz,xq,ry,jb,jd]
  gi_wp2
  gi_loopw [3] (λi wr=>i= .int .i64 (-1)/\J 0 wr) (λ_ _=>0)
  case atStart=>exact⟨rfl,h0⟩
  case round=>
   obtain⟨rfl,ph⟩:=hrel
   gi_wp2
   go_end0
   exact⟨⟨_,rfl⟩,by rw[hz];exact ph⟩
 ·obtain ⟨a,rfl⟩: ∃a,A=some a:=by
   obtain⟨a,h1,_⟩:=(hR _ _ h0).2.at_ 0 _ (av db);exact⟨a,h1⟩
  have hc:W.cell? ⟨g,0,none⟩=some (.slice (some a) xs.length c):=gU (hR _ _ h0).1 (j:=0) cD;refine Ae Tryz.func240 rfl trivial ?_ rfl;simp only[Tryz.ntmps240,pz,dm,jy,Nat.reduceAdd,Nat.reduceSub,uy,uz,xq,ry,jb,jd]
  gi_wp2
  gi_loopw [3] (λi wr=>(∃k j:Nat,k+j+1=xs.length/\i= .int .i64 (j:Int)/\J k wr)\/(i= .int .i64 (-1)/\J xs.length wr)) (λi _=>(intOf i+1).toNat)
  case atStart=>exact .inl ⟨0,xs.length-1,G,by rw[show((xs.length:Int)-1)=((xs.length-1:Nat):Int) by omega],h0⟩
  case round=>
   rcases hrel with⟨k,j,Mo,rfl,ph⟩|⟨rfl,ph⟩
   ·obtain ⟨fn,tmps,assign,body,hy,Kg⟩:=hY k wr G ph;rw[show xs.length-1-k=j by omega] at hy;have b8:j<xs.length:=G
    rw[av b8] at hy;simp only[mh] at hy;have aq:wr.cell? ⟨g,0,none⟩=some (.slice (some a) xs.length c):=gU (hR _ _ ph).1 (j:=0) cD;have cr:=gU (hR _ _ ph).2 b8
    gi_wp2
    refine⟨rfl,Kg.mono ?_⟩;rintro e W3 ⟨rfl,r8⟩
    gi_wp2
    go_roundw
    case rel=>
     rcases dx j with rfl|hj
     ·exact .inr ⟨cD,by rw[<-Mo];exact r8⟩
     ·exact .inl ⟨k+1,j-1,G,by rw[show((j:Int)-1)=((j-1:Nat):Int) by omega],r8⟩
    case measure=>simp[intOf]
   ·gi_wp2
    go_end0
    exact⟨⟨_,rfl⟩,ph⟩
set_option maxRecDepth 100000 in
set_option maxHeartbeats 2000000 in
theorem aRw (px:xs.length<=1000000):Iter Tryz.prog 241 #[.pointer (some ⟨g,0,none⟩)] (λw=>Rd w (some ⟨g,0,none⟩) 1 1 1 [.slice A xs.length c]/\Rd w A xs.length c 1 xs) xs.length
  (λk=>[.int .i64 (((xs.length-1-k:Nat):Int)),xs[xs.length-1-k]?.getD undef]):=by
 intro l J W hR _ hY h0;rcases dx xs.length with hz|db
 ·have hc:W.cell? ⟨g,0,none⟩=some (.slice A xs.length c):=gU (hR _ _ h0).1 (j:=0) cD;rw[hz] at hc;refine Ae Tryz.func241 rfl trivial ?_ rfl;simp only[Tryz.ntmps241,pz,dm,jy,Nat.reduceAdd,Nat.reduceSub,uy,uz,xq,ry,jb,jd]
  gi_wp2
  gi_loopw [3] (λi wr=>i= .int .i64 (-1)/\J 0 wr) (λ_ _=>0)
  case atStart=>exact⟨rfl,h0⟩
  case round=>
   obtain⟨rfl,ph⟩:=hrel
   gi_wp2
   go_end0
   exact⟨⟨_,rfl⟩,by rw[hz];exact ph⟩
 ·obtain ⟨a,rfl⟩: ∃a,A=some a:=by
   obtain⟨a,h1,_⟩:=(hR _ _ h0).2.at_ 0 _ (av db);exact⟨a,h1⟩
  have hc:W.cell? ⟨g,0,none⟩=some (.slice (some a) xs.length c):=gU (hR _ _ h0).1 (j:=0) cD;refine Ae Tryz.func241 rfl trivial ?_ rfl;simp only[Tryz.ntmps241,pz,dm,jy,Nat.reduceAdd,Nat.reduceSub,uy,uz,xq,ry,jb,jd]
  gi_wp2
  gi_loopw [3] (λi wr=>(∃k j:Nat,k+j+1=xs.length/\i= .int .i64 (j:Int)/\J k wr)\/(i= .int .i64 (-1)/\J xs.length wr)) (λi _=>(intOf i+1).toNat)
  case atStart=>exact .inl ⟨0,xs.length-1,G,by rw[show((xs.length:Int)-1)=((xs.length-1:Nat):Int) by omega],h0⟩
  case round=>
   rcases hrel with⟨k,j,Mo,rfl,ph⟩|⟨rfl,ph⟩
   ·obtain ⟨fn,tmps,assign,body,hy,Kg⟩:=hY k wr G ph;rw[show xs.length-1-k=j by omega] at hy;have b8:j<xs.length:=G
    rw[av b8] at hy;simp only[mh] at hy;have aq:wr.cell? ⟨g,0,none⟩=some (.slice (some a) xs.length c):=gU (hR _ _ ph).1 (j:=0) cD;have cr:=gU (hR _ _ ph).2 b8
    gi_wp2
    refine⟨rfl,Kg.mono ?_⟩;rintro e W3 ⟨rfl,r8⟩
    gi_wp2
    go_roundw
    case rel=>
     rcases dx j with rfl|hj
     ·exact .inr ⟨cD,by rw[<-Mo];exact r8⟩
     ·exact .inl ⟨k+1,j-1,G,by rw[show((j:Int)-1)=((j-1:Nat):Int) by omega],r8⟩
    case measure=>simp[intOf]
   ·gi_wp2
    go_end0
    exact⟨⟨_,rfl⟩,ph⟩
theorem JU (px:zs.length<=1000000):Iter Tryz.prog 241 #[.pointer (some ⟨g,0,none⟩)] (λw=>Rd w (some ⟨g,0,none⟩) 1 1 1 [.slice A zs.length c]/\Rd w A zs.length c 1 (ints .i64 zs)) zs.length
  (λk=>[.int .i64 (((zs.length-1-k:Nat):Int)), .int .i64 (rd zs ((zs.length-1-k:Nat):Int))]):=by
 have h:=aRw (g:=g) (A:=A) (c:=c) (xs:=ints .i64 zs) (by rw[bV];exact px);rw[bV] at h;exact h.congr λk hk=>by rw[NI G]
set_option maxRecDepth 100000 in
set_option maxHeartbeats 2000000 in
theorem aLa:Iter Tryz.prog 346 #[.pointer (some ⟨g,0,none⟩)] (λw=>Rd w (some ⟨g,0,none⟩) 1 1 1 [.slice A xs.length c]/\Rd w A xs.length c 1 xs) xs.length
  (λk=>[xs[k]?.getD undef]):=by
 intro l J W hR _ hY h0;have px:=(hR _ _ h0).2.max;rcases dx xs.length with hz|db
 ·have hc:W.cell? ⟨g,0,none⟩=some (.slice A xs.length c):=gU (hR _ _ h0).1 (j:=0) cD;rw[hz] at hc;refine Ae Tryz.func346 rfl trivial ?_ rfl;simp only[Tryz.ntmps346,pz,dm,jy,Nat.reduceAdd,Nat.reduceSub,uy,uz,xq,ry,jb,jd]
  gi_wp2
  gi_loopw [7] (λi wr=>i= .int .i64 0/\J 0 wr) (λ_ _=>0)
  case atStart=>exact⟨rfl,h0⟩
  case round=>
   obtain⟨rfl,ph⟩:=hrel
   gi_wp2
   go_end0
   exact⟨⟨_,rfl⟩,by rw[hz];exact ph⟩
 ·obtain ⟨a,rfl⟩: ∃a,A=some a:=by
   obtain⟨a,h1,_⟩:=(hR _ _ h0).2.at_ 0 _ (av db);exact⟨a,h1⟩
  have hc:W.cell? ⟨g,0,none⟩=some (.slice (some a) xs.length c):=gU (hR _ _ h0).1 (j:=0) cD;refine Ae Tryz.func346 rfl trivial ?_ rfl;simp only[Tryz.ntmps346,pz,dm,jy,Nat.reduceAdd,Nat.reduceSub,uy,uz,xq,ry,jb,jd]
  gi_wp2
  gi_loopw [7] (λi wr=> ∃k:Nat,k<=xs.length/\i= .int .i64 k/\J k wr) (λi _=>xs.length-(intOf i).toNat)
  case atStart=>exact⟨0,uh _,rfl,h0⟩
  case round=>
   obtain⟨k,hk,rfl,ph⟩:=hrel;by_cases aw:k<xs.length
   ·obtain ⟨fn,tmps,assign,body,hy,Kg⟩:=hY k wr aw ph;rw[av aw] at hy;simp only[mh] at hy;have aq:wr.cell? ⟨g,0,none⟩=some (.slice (some a) xs.length c):=gU (hR _ _ ph).1 (j:=0) cD;have cr:=gU (hR _ _ ph).2 aw
    gi_wp2
    refine⟨rfl,Kg.mono ?_⟩;rintro e W3 ⟨rfl,r8⟩
    gi_wp2
    go_roundw
    case rel=>exact⟨k+1,G,cD,r8⟩
    case measure=>simp[intOf];omega
   ·obtain rfl:k=xs.length:=G
    gi_wp2
    go_end0
    exact⟨⟨_,rfl⟩,ph⟩
theorem XX:Iter Tryz.prog 346 #[.pointer (some ⟨g,0,none⟩)] (λw=>Rd w (some ⟨g,0,none⟩) 1 1 1 [.slice A zs.length c]/\Rd w A zs.length c 1 (ints .i64 zs)) zs.length
  (λk=>[.int .i64 (rd zs (k:Int))]):=by
 have h:=aLa (g:=g) (A:=A) (c:=c) (xs:=ints .i64 zs);rw[bV] at h;exact h.congr λk hk=>by rw[NI hk]
end Go.Proofs.YtdbebmmhdefgdaaGreat
namespace Go.Proofs
open Go.Shelf
def Tryz.lays189_ren:Go.Shelf.Ren:=⟨λ|189=>345|125=>192|257=>362|128=>251|129=>252|294=>367|295=>368|296=>369|297=>370|298=>371|299=>372|216=>348|300=>373|301=>374|328=>376|329=>282|330=>283|331=>377|332=>378|215=>194|343=>379|n=>n,λ|28=>52|3=>3|46=>167|0=>0|51=>123|53=>112|4=>4|183=>289|182=>288|131=>97|5=>5|9=>9|218=>316|222=>320|228=>337|229=>338|n=>n,λ|n=>n⟩
theorem Tryz.lays189:Go.Proofs.Lays.n189 Tryz.prog Tryz.lays189_ren:= {
 mixed:=cA
 f125:=Tryz.func192.trans (bz some cA)
 f128:=Tryz.func251.trans (bz some cA)
 f129:=Tryz.func252.trans (bz some cA)
 f189:=Tryz.func345.trans (bz some cA)
 f215:=Ib.trans (bz some cA)
 f216:=Tryz.func348.trans (bz some cA)
 f257:=Tryz.func362.trans (bz some cA)
 f294:=Tryz.func367.trans (bz some cA)
 f295:=Tryz.func368.trans (bz some cA)
 f296:=Tryz.func369.trans (bz some cA)
 f297:=Tryz.func370.trans (bz some cA)
 f298:=Tryz.func371.trans (bz some cA)
 f299:=Tryz.func372.trans (bz some cA)
 f300:=Tryz.func373.trans (bz some cA)
 f301:=Tryz.func374.trans (bz some cA)
 f328:=Tryz.func376.trans (bz some cA)
 f329:=Tryz.func282.trans (bz some cA)
 f330:=Tryz.func283.trans (bz some cA)
 f331:=Tryz.func377.trans (bz some cA)
 f332:=Tryz.func378.trans (bz some cA)
 f343:=Tryz.func379.trans (bz some cA)
 t0:=Dc
 a0:=Jd
 z0:=Ic
 v0:=Ec
 t3:=Be
 a3:=Gc
 z3:=Ep
 v3:=Bt
 t4:=De
 a4:=Je
 z4:=Ie
 v4:=Ed
 t5:=Dg
 a5:=Jf
 z5:=Ig
 v5:=Ee
 t9:=Dh
 a9:=Jg
 z9:=Ih
 v9:=Ef
 t28:=Tryz.underlying52
 a28:=Tryz.isAgg52
 z28:=Tryz.sizeOf52
 v28:=Tryz.zeroValue52
 t46:=zu
 a46:=Dj
 z46:=Cq
 v46:=Aj
 t51:=Cb
 a51:=Gu
 z51:=Ez
 v51:=Cs
 t53:=Ca
 a53:=Gt
 z53:=Ey
 v53:=Cr
 t131:=Gf
 a131:=Tryz.isAgg97
 z131:=Tryz.sizeOf97
 v131:=Hf
 t182:=Fa
 a182:=Tryz.isAgg288
 z182:=Tryz.sizeOf288
 v182:=Gg
 t183:=Fb
 a183:=Tryz.isAgg289
 z183:=Tryz.sizeOf289
 v183:=Gh
 t218:=Fe
 a218:=Tryz.isAgg316
 z218:=Tryz.sizeOf316
 v218:=Gi
 t222:=Ff
 a222:=Tryz.isAgg320
 z222:=Tryz.sizeOf320
 v222:=Gj
 t228:=Fg
 a228:=Tryz.isAgg337
 z228:=Tryz.sizeOf337
 v228:=Gl
 t229:=Fh
 a229:=Tryz.isAgg338
 z229:=Tryz.sizeOf338
 v229:=Gm}
open Go.Sort Go.RowKit in
theorem Tryz.slices_Sort_int (dr off cap:Nat) (zs:List Int) (w:World) (hH:Holds (Value.int .i64) w dr off zs.toArray) (hblk:dr<w.heap.size) (hsz:zs.length<4611686018427387904):
  Calls Tryz.prog 345 #[.slice (some ⟨dr,off,none⟩) zs.length cap] w λe w'=>
   e= .returned (.tuple #[])/\ ∃n os,w'=grow (putRow (Value.int .i64) (Sort.ahead w n) dr off (zs.mergeSort λx y=>decide (x<=y)).toArray) os:=Any.slices_Sort_int Tryz.lays189 dr off cap zs w hH hblk hsz
def Tryz.laysNm225_ren:Go.Shelf.Ren:=⟨λ|25=>325|31=>348|32=>349|37=>194|n=>n,λ|22=>52|3=>3|4=>4|40=>167|0=>0|n=>n,λ|n=>n⟩
theorem Tryz.laysNm225:Go.Proofs.Lays2.n25 Tryz.prog Tryz.laysNm225_ren:= {
 mixed:=cA
 f25:=Tryz.func325.trans (bz some cA)
 f31:=Tryz.func348.trans (bz some cA)
 f32:=Tryz.func349.trans (bz some cA)
 f37:=Ib.trans (bz some cA)
 t0:=Dc
 a0:=Jd
 z0:=Ic
 v0:=Ec
 t3:=Be
 a3:=Gc
 z3:=Ep
 v3:=Bt
 t4:=De
 a4:=Je
 z4:=Ie
 v4:=Ed
 t22:=Tryz.underlying52
 a22:=Tryz.isAgg52
 z22:=Tryz.sizeOf52
 v22:=Tryz.zeroValue52
 t40:=zu
 a40:=Dj
 z40:=Cq
 v40:=Aj}
open Go.RowKit Go.Lib in
theorem Tryz.slices_BinarySearch_int (b off n c:Nat) (zs:List Int) (x:Int) (w:World) (hz:n<=zs.length) (Cp:n<4611686018427387904) (hc: ∀j,j<zs.length->w.cell? ⟨b,off+j,none⟩=some (.int .i64 (zs.getD j 0))) (hs:(zs.take n).Pairwise (· <= ·)):
  Calls Tryz.prog 325 #[.slice (some ⟨b,off,none⟩) n c, .int .i64 x] w λe w'=>e= .returned (.tuple #[.int .i64 ((zs.take n).countP (· <x):Nat), .bool ((zs.take n).contains x)])/\ ∃q,w'=w.drewN q:=Any.slices_BinarySearch_int Tryz.laysNm225 b off n c zs x w hz Cp hc hs
open Go.RowKit Go.Sort in
theorem Tryz.slices_Sort_int_none (p:Option Addr) (cap:Nat) (w:World):
  Calls Tryz.prog 345 #[.slice p 0 cap] w λe w'=>e= .returned (.tuple #[])/\w'=w:=Any.slices_Sort_int_none Tryz.lays189 p cap w
open Go.RowKit Go.Lib in
theorem Tryz.slices_BinarySearch_int_empty (a:Option Addr) (c:Nat) (x:Int) (w:World):
  Calls Tryz.prog 325 #[.slice a 0 c, .int .i64 x] w λe w'=>e= .returned (.tuple #[.int .i64 0, .bool false])/\w'=w:=Any.slices_BinarySearch_int_empty Tryz.laysNm225 a c x w
end Go.Proofs
namespace Go.Eng
open Go Go.RowKit Go.Proofs Go.Sort
section
variable {P:Program} {B:Nat} {w0:World} {R:List Row}
def bBp (P:Program) (f:Nat):Prop:= ∀(dr off cap:Nat) (zs:List Int) (w:World) (_:Holds (Value.int .i64) w dr off zs.toArray) (_:dr<w.heap.size) (_:zs.length<4611686018427387904),
 Calls P f #[.slice (some ⟨dr,off,none⟩) zs.length cap] w λe w'=>e= .returned (.tuple #[])/\ ∃n os,w'=grow (putRow (Value.int .i64) (Sort.ahead w n) dr off (zs.mergeSort λx y=>decide (x<=y)).toArray) os
def aWv (P:Program) (f:Nat):Prop:= ∀(p:Option Addr) (cap:Nat) (w:World),Calls P f #[.slice p 0 cap] w λe w'=>e= .returned (.tuple #[])/\w'=w
def bBr (P:Program) (f:Nat):Prop:= ∀(b off n c:Nat) (zs:List Int) (x:Int) (w:World) (_:n<=zs.length) (_:n<4611686018427387904) (_: ∀j,j<zs.length->w.cell? ⟨b,off+j,none⟩=some (.int .i64 (zs.getD j 0))) (_:(zs.take n).Pairwise (· <= ·)),
 Calls P f #[.slice (some ⟨b,off,none⟩) n c, .int .i64 x] w λe w'=>e= .returned (.tuple #[.int .i64 ((zs.take n).countP (· <x):Nat), .bool ((zs.take n).contains x)])/\ ∃q,w'=w.drewN q
def aWx (P:Program) (f:Nat):Prop:= ∀(a:Option Addr) (c:Nat) (x:Int) (w:World),Calls P f #[.slice a 0 c, .int .i64 x] w λe w'=>e= .returned (.tuple #[.int .i64 0, .bool false])/\w'=w
def jY (l:List Int):List Int:=l.mergeSort λx y=>decide (x<=y)
theorem kR (l:List Int):(jY l).Perm l:=List.mergeSort_perm _ _
theorem xZ (l:List Int):(jY l).Pairwise (· <= ·):=by
 have:=List.pairwise_mergeSort (le:=λx y:Int=>decide (x<=y)) (λa b c h1 h2=>by simp at*;omega) (λa b=>cG) l;exact this.imp λh=>by simpa using h
theorem aGd {f:Nat} (hS:bBp P f) (Te:aWv P f) {T m c:Nat} {A:Option Addr} {l:List Int} (i:Nat) (hi:R[i]? =some ⟨T,1,A,m,c,ints .i64 l,false⟩) (hsz:l.length<4611686018427387904):
  Ct P f #[.slice A m c] B w0 R (λv R'=>v= .tuple #[]/\R'=R.set i ⟨T,1,A,m,c,ints .i64 (jY l),false⟩):=by
 intro w hw;have du:=Row.lies_w (hw.own _ (ek hi)) rfl;have ie:=Row.rd (hw.own _ (ek hi));obtain rfl:m=l.length:=ie.lenI;rcases du.2 with⟨hv,hn⟩|⟨dr,cap,cur,hv,hb,hg,hnc,pj,hcs,ht⟩
 ·simp only at hn;have hl:l=[]:=ed hn;subst hl;refine(Te A c w).mono ?_;rintro e w' ⟨rfl,rfl⟩;refine⟨_,_,rfl,?_,rfl,rfl⟩;have e:jY []=[]:=by simp[jY]
  rw[e]
  have:R.set i ⟨T,1,A,([]:List Int).length,c,ints .i64 [],false⟩=R:=by
   apply su;intro k;rw[vw];split
   ·rename_i h;subst h;split
    ·exact hi.symm
    ·rename_i h2;rw[ll G]
   ·rfl
  rw[this];exact hw
 ·simp only[jq,zm] at hv;obtain⟨rfl,rfl⟩:=hv;simp only at ht hcs hg hnc;have aw:dr<w.heap.size:=(dz.1 hg).1
  have hH:Holds (Value.int .i64) w dr 0 l.toArray:=by
   intro j hj;have sn:j<l.length:=by simpa using hj
   have e:(ints .i64 l)[j]? =some (.int .i64 (l.toArray[j]!)):=by
    rw[tq l.toArray j hj];simp[ints,sn]
   refine⟨?_,?_⟩
   ·rw [ni];exact hw.cellAt i hi rfl e
   ·exact hw.openAt i (0+j) hi rfl rfl
  refine(hS dr 0 c l w hH aw hsz).mono ?_;rintro e w' ⟨rfl,n,os,rfl⟩;refine⟨_,_,rfl,?_,rfl,rfl⟩;have Po:=ownsRow_sorted_i (w:=w) (base:=B) (g:=dr) (cap:=c) (n:=n) (e:=T) (os:=os) (cur:=cur) (ss:=l) (ts:=jY l) (kR l).length_eq hb hg hnc pj hcs;have hgb:=grownBy_sorted_i (w:=w) (g:=dr) (n:=n) (os:=os) (jY l).toArray;refine hw.upd hi (row:=some dr) hgb ?_ (λk hk=> ?_) ?_ (λa' ki=> .inl ⟨a',ki,rfl⟩)
  ·show w.drawn<=w.drawn+n;omega
  ·obtain rfl:=iw hk;exact⟨_,rfl,rfl⟩
  ·exact Po
theorem aIm {f:Nat} (hF:bBr P f) (Zu:aWx P f) {T m c:Nat} {A:Option Addr} {l:List Int} {x:Int} (i:Nat) (hi:R[i]? =some ⟨T,1,A,m,c,ints .i64 l,false⟩) (hsz:l.length<4611686018427387904) (hs:l.Pairwise (· <= ·)):
  Ct P f #[.slice A m c, .int .i64 x] B w0 R (λv R'=>v= .tuple #[.int .i64 (l.countP (· <x):Nat), .bool (l.contains x)]/\R'=R):=by
 intro w hw;have du:=Row.lies_w (hw.own _ (ek hi)) rfl;have ie:=Row.rd (hw.own _ (ek hi));obtain rfl:m=l.length:=ie.lenI;rcases du.2 with⟨hv,hn⟩|⟨dr,cap,cur,hv,hb,hg,hnc,pj,hcs,ht⟩
 ·simp only at hn;have hl:l=[]:=ed hn;subst hl;refine(Zu A c x w).mono ?_;rintro e w' ⟨rfl,rfl⟩;exact⟨_,_,rfl,hw,rfl,rfl⟩
 ·simp only[jq,zm] at hv;obtain⟨rfl,rfl⟩:=hv;have ob:l.take l.length=l:=ul
  have:=hF dr 0 l.length c l x w (dh _) hsz (λj hj=>by
   rw[ni]
   exact hw.cellAt i hi rfl (by simp[ints,af,hj])) (by rw[ob];exact hs)
  rw[ob] at this;refine this.mono ?_;rintro e w' ⟨rfl,q,rfl⟩;exact⟨_,_,rfl,hw.drawn _ (Bb _ _),rfl,rfl⟩
end
end Go.Eng
namespace Go.Proofs.YtdbebmmhdefgdaaGreat
open Go Go.Eng Go.Pure
open Tryz
set_option maxRecDepth 100000
variable {w:World} {im:Option Addr} {lj ir:Nat} {l:List Int} {h:Int}
theorem aUl {l:List Int} {i:Int} (gr:Rd w im lj ir 1 (ints .i64 l)) (hb:(0<=i/\i<=1000000)/\(0<=h/\h<=1000000)) (hl: ∀x∈l,0<=x/\x<=1000000):
  Ct Tryz.prog 326 #[sl im lj ir,I i,I h] w.heap.size w [] (λv R'=>v=I (onF l i h)):=by
 obtain rfl:=gr.lenI;refine fn1 Tryz.func326 Z Z Z ?_;have Qm:=gr.max;refine wq<|wn Z<|aG<|wq<|wm Z<|wm Z<|wA Z Z<|wm Z<|wy (aQ aa Z)<|wy (jF Z Z)<|aA<|bJ Z (λaq=> ?_) (λaq=> ?_)
 ·refine wq<|wn Z<|dF ?_;refine⟨_,Z,?_⟩;exact bz (Value.int .i64) (by unfold onF;rw[cu G])
 ·have hm:=hl _ (bH (L:=l) (k:=i+h) G G);refine aJ<|wq<|wm Z<|wm Z<|wm Z<|wA Z Z<|wy (aH aa sz3 Z Z (gr.c _))<|wy (aX ak Z Z (gr.c _))<|wA Z Z<|wn Z<|dF ?_;refine⟨_,Z,?_⟩;exact bz (Value.int .i64) (by unfold onF;rw[bu G])
set_option maxHeartbeats 1200000 in
theorem aHy {s:List Int} {n b:Nat} (gr:Rd w im lj ir 1 (ints .i64 l)) (hl:l=rkL s n) (hh:h=b) (hn:0<n) (hb:b<=n) (hN:s.length<=100000/\n<=100000):
  Ct Tryz.prog 298 #[sl im lj ir,I h] w.heap.size w [] (λv R'=> ∃A c A' c',v= .tuple #[sl A s.length c,sl A' s.length c']/\R'=[(ri 3 A s.length c (rkL s (n+b))),(ri 3 A' s.length c' (cB s n b))]):=by
 obtain rfl:=gr.lenI;refine fn2 Tryz.func298 Z Z Z ?_;have Qm:=gr.max;have qn:l.length=s.length:=by rw[hl,yG]
 refine wq<|wg Z<|wn Z<|wq<|wm Z<|wy (aQ aa Z)<|wa (dE aa zb3 Z Z) ?_;rintro _ _ ⟨al,rfl,rfl⟩;refine bN (v:=sl (GG al) l.length l.length) Z<|wn Z<|wq<|wm Z<|wy (aQ aa Z)<|wa (dE aa zb3 Z Z) ?_;rintro _ _ ⟨cv,rfl,rfl⟩;refine bN (v:=sl (GG cv) l.length l.length) Z<|wn Z<|aG<|wq<|wm Z<|wy (aQ aa Z)<|wm Z<|aA<|aI ?_;refine fU (λ(i:Int) (O:List Int) (K:List Int)=>[(0,sl im l.length ir),(1,I h),(6,sl (GG al) l.length l.length),(7,sl (GG cv) l.length l.length),(19,I ((l.length:Nat):Int)),(20,I i)]) (λi O K=>[(ri 3 (GG cv) l.length l.length K),(ri 3 (GG al) l.length l.length O)]) (λi O K=>(0<=i)/\(i<=s.length)/\(O.length=s.length)/\(∀j:Int,0<=j->j<i->rd O j=j)/\(K.length=s.length)/\(∀j:Int,0<=j->j<i->rd K j=qR s n (j.toNat+b))) (λi O K=>(s.length-i).toNat) ?_ ?_
 ·exact⟨0,List.replicate l.length (0:Int),List.replicate l.length (0:Int),⟨G,G,(by rw[bq,qn]),(λj h1 h2=>G),(by rw[bq,qn]),(λj h1 h2=>G)⟩,SA,λ_ h=>h⟩
 intro i O K ⟨ar,ia,Rb,hO,Mg,hK⟩;refine wq<|wL Z Z<|aA<|aG<|bJ Z (λaq=> ?_) (λaq=> ?_)
 ·refine aJ<|aG<|aI<|wq<|wm Z<|wn Z<|aM<|wm Z<|wm Z<|wm Z<|wm Z<|wm Z<|wm Z ?_;refine wm Z<|wm Z<|wa (aF bDf Z (Ct.quiet (λw hw=>aUl ((gr.c _) w hw) ⟨G,G⟩ (λx hx=>by rw[hl] at hx;have:=aMk x hx;omega)))) ?_;rintro _ _ ⟨rfl,rfl⟩;refine wy (aH aa sz3 Z Z (rdr 1 Z))<|bX (bG 1 Z sz3 Z Z) ?_;rintro _ _ rfl;refine wy (aH aa sz3 Z Z (rdr 0 Z))<|bX (bG 0 Z sz3 Z Z) ?_;rintro _ _ rfl;refine aA<|aM<|wA Z Z<|wm Z<|aA ?_;exact⟨i+1,upd O i i,upd K i (onF l i h),⟨G,G,(by rw[aV];exact Rb),(eG (f:=λj=>j) ar G hO Z),(by rw[aV];exact Mg),(eG (f:=λj=>(qR s n (j.toNat+b):Int)) ar G hK (by rw[hh,hl];exact aZy ar G))⟩,G,SA,λ_ h=>h⟩
 ·obtain rfl:O=iota s.length:=aEf Rb (λj h1 h2=>hO j h1 G);obtain rfl:K=onL s n b:=aZw Mg (λj h1 h2=>hK j h1 G);have Iv:(bW (iota s.length) (onL s n b) (((l.length:Nat):Int)+1).toNat).length=s.length:=by rw[show(((l.length:Nat):Int)+1).toNat=s.length+1 by omega,(sF s n b).length_eq,bF]
  refine aZ<|wq<|wm Z<|wm Z<|wm Z<|wy (aQ aa Z)<|wA Z Z<|wa (aF JC Z (Ct.fresh (λw hw=>rZ ((rdr 1 Z) w hw) ((rdr 0 Z) w hw) G (λx hx=>by have:=aZx x hx;omega) (λx hx=>by have:=aW.1 hx;rw[aDu];omega) (by rw[bF];omega)))) ?_;rintro _ _ ⟨_,rfl,ij,io,rfl,rfl⟩;refine wm Z<|wX Z Z<|wX Z Z<|wn Z<|wq<|wm Z<|wm Z<|wm Z<|wy (aQ aa Z)<|wa (aF JC Z (Ct.fresh (λw hw=>rZ ((rdr 0 Z) w hw) ((gr.c _) w hw) G (λx hx=>by rw[hl] at hx;have:=aMk x hx;omega) (λx hx=>by rw[show(((l.length:Nat):Int)+1).toNat=s.length+1 by omega] at hx;have:=aW.1 ((sF s n b).subset hx);omega) (by rw[Iv];omega)))) ?_;rintro _ _ ⟨_,rfl,es,dt,rfl,rfl⟩;refine wm Z<|wX Z Z<|wX Z Z<|wn Z<|wq<|wm Z<|wy (aQ aa Z)<|wa (dE aa zb3 Z Z) ?_;rintro _ _ ⟨kb,rfl,rfl⟩;refine bN (v:=sl (GG kb) l.length l.length) Z<|wn Z<|aG<|wq<|wm Z<|wy (aQ aa Z)<|wm Z<|aA<|aI ?_;refine fU (λ(p:Int) (D:List Int) (V:List Int)=>[(0,sl im l.length ir),(6,sl es (((bW (iota s.length) (onL s n b) ((((l.length:Nat):Int)+1)).toNat)).length) dt),(7,sl (GG cv) l.length l.length),(9,sl (GG kb) l.length l.length),(55,sl es (((bW (iota s.length) (onL s n b) ((((l.length:Nat):Int)+1)).toNat)).length) dt),(56,I ((((bW (iota s.length) (onL s n b) ((((l.length:Nat):Int)+1)).toNat)).length:Nat):Int)),(57,I p)]) (λp D V=>[(ri 3 (GG kb) l.length l.length V),(ri 3 es (((bW (iota s.length) (onL s n b) ((((l.length:Nat):Int)+1)).toNat)).length) dt D),(ri 3 ij (((iota s.length)).length) io (bW (iota s.length) (onL s n b) ((((l.length:Nat):Int)+1)).toNat)),(ri 3 (GG cv) l.length l.length (onL s n b)),(ri 3 (GG al) l.length l.length (iota s.length))]) (λp D V=>(0<=p)/\(p<=s.length)/\(D=cB s n b)/\(V.length=s.length)/\(∀q:Int,0<=q->q<p->rd V (rd D q)=rkS s (n+b) (rd D q).toNat)) (λp D V=>(s.length-p).toNat) ?_ ?_
  ·exact⟨0,bW (bW (iota s.length) (onL s n b) ((((l.length:Nat):Int)+1)).toNat) l (((l.length:Nat):Int)).toNat,List.replicate l.length (0:Int),⟨G,G,(by rw[hl,yG];unfold cB;rw[show((s.length:Int)+1).toNat=s.length+1 by omega,az]),(by rw[bq,qn]),(λq h1 h2=>G)⟩,SA,λ_ h=>h⟩
  intro p D V ⟨Lk,py,hD,iu,hV⟩;refine wq<|wL Z Z<|aA<|aG<|bJ Z (λcr=> ?_) (λcr=> ?_)
  ·have hm:=fE (s:=s) (n:=n) (b:=b) Lk G;rw[<-hD] at hm;refine aJ<|aG<|aI<|wq<|wm Z<|wy (aH aa sz3 Z Z (rdr 1 Z))<|wy (aX ak Z Z (rdr 1 Z))<|wg Z<|wn Z<|wq<|wm Z<|wm Z ?_;refine wm Z<|wy (aH aa sz3 Z Z (rdr 0 Z))<|bX (bG 0 Z sz3 Z Z) ?_;rintro _ _ rfl;refine aA ?_;refine vC [(0,sl im l.length ir),(6,sl es (((bW (iota s.length) (onL s n b) ((((l.length:Nat):Int)+1)).toNat)).length) dt),(7,sl (GG cv) l.length l.length),(9,sl (GG kb) l.length l.length),(10,I p),(11,I (rd D p)),(55,sl es (((bW (iota s.length) (onL s n b) ((((l.length:Nat):Int)+1)).toNat)).length) dt),(56,I ((((bW (iota s.length) (onL s n b) ((((l.length:Nat):Int)+1)).toNat)).length:Nat):Int)),(57,I p),(97, .bool (decide ((0<p)/\(((rd l (rd D (p-1)))=(rd l (rd D p)))/\((rd (onL s n b) (rd D (p-1)))=(rd (onL s n b) (rd D p)))))))] [(ri 3 (GG kb) l.length l.length (upd V (rd D p) p)),(ri 3 es (((bW (iota s.length) (onL s n b) ((((l.length:Nat):Int)+1)).toNat)).length) dt D),(ri 3 ij (((iota s.length)).length) io (bW (iota s.length) (onL s n b) ((((l.length:Nat):Int)+1)).toNat)),(ri 3 (GG cv) l.length l.length (onL s n b)),(ri 3 (GG al) l.length l.length (iota s.length))] ?_ ?_
   ·refine bT mixed<|wD 0 Z (aN Z)<|wD 1 Z (dV Z Z)<|wD 2 Z (aN Z)<|mZ 68 Z (λfd=> ?_) (λfd=> ?_)
    ·refine wG 3 Z Z Z (aN Z)<|wG 4 Z Z Z (aN Z)<|wG 5 Z Z Z (aN Z)<|wG 6 Z Z Z (jE Z Z)<|wG 7 Z Z Z (aH aa sz3 Z Z (rdr 1 Z))<|wG 8 Z Z Z (aX ak Z Z (rdr 1 Z))<|wG 9 Z Z Z (aH aa sz3 Z Z (gr.c _) (by first|omega|(have ln:=fE (s:=s) (n:=n) (b:=b) (p:=p-1) G G;rw[<-hD] at ln;omega)) (by first|omega|(have ln:=fE (s:=s) (n:=n) (b:=b) (p:=p-1) G G;rw[<-hD] at ln;omega))) ?_;refine wG 10 Z Z Z (aX ak Z Z (gr.c _) (by first|omega|(have ln:=fE (s:=s) (n:=n) (b:=b) (p:=p-1) G G;rw[<-hD] at ln;omega)) (by first|omega|(have ln:=fE (s:=s) (n:=n) (b:=b) (p:=p-1) G G;rw[<-hD] at ln;omega))) ?_;refine wG 11 Z Z Z (aN Z)<|wG 12 Z Z Z (aN Z)<|wG 13 Z Z Z (aH aa sz3 Z Z (gr.c _))<|wG 14 Z Z Z (aX ak Z Z (gr.c _))<|wG 15 Z Z Z (bC Z Z)<|wD 16 Z (aY Z Z)<|wD 17 Z (aN Z)<|mZ 83 Z (λka=> ?_) (λka=> ?_)
     ·refine wG 18 Z Z Z (aN Z)<|wG 19 Z Z Z (aN Z)<|wG 20 Z Z Z (aN Z)<|wG 21 Z Z Z (jE Z Z)<|wG 22 Z Z Z (aH aa sz3 Z Z (rdr 1 Z))<|wG 23 Z Z Z (aX ak Z Z (rdr 1 Z))<|wG 24 Z Z Z (aH aa sz3 Z Z (rdr 3 Z) (by first|omega|(have ln:=fE (s:=s) (n:=n) (b:=b) (p:=p-1) G G;rw[<-hD] at ln;omega)) (by first|omega|(have ln:=fE (s:=s) (n:=n) (b:=b) (p:=p-1) G G;rw[<-hD] at ln;omega))) ?_;refine wG 25 Z Z Z (aX ak Z Z (rdr 3 Z) (by first|omega|(have ln:=fE (s:=s) (n:=n) (b:=b) (p:=p-1) G G;rw[<-hD] at ln;omega)) (by first|omega|(have ln:=fE (s:=s) (n:=n) (b:=b) (p:=p-1) G G;rw[<-hD] at ln;omega))) ?_;refine wG 26 Z Z Z (aN Z)<|wG 27 Z Z Z (aN Z)<|wG 28 Z Z Z (aH aa sz3 Z Z (rdr 3 Z))<|wG 29 Z Z Z (aX ak Z Z (rdr 3 Z))<|wG 30 Z Z Z (bC Z Z)<|wD 31 Z (aY Z Z)<|wN ?_;exact⟨SA,λ_ h=>h⟩
     ·refine wO 18 Z Z Z<|wO 19 Z Z Z<|wO 20 Z Z Z<|wO 21 Z Z Z<|wO 22 Z Z Z<|wO 23 Z Z Z<|wO 24 Z Z Z<|wO 25 Z Z Z<|wO 26 Z Z Z<|wO 27 Z Z Z<|wO 28 Z Z Z<|wO 29 Z Z Z<|wO 30 Z Z Z<|wD 31 Z (aR Z Z)<|wN ?_;exact⟨SA,λ_ h=>h⟩
    ·refine wO 3 Z Z Z<|wO 4 Z Z Z<|wO 5 Z Z Z<|wO 6 Z Z Z<|wO 7 Z Z Z<|wO 8 Z Z Z<|wO 9 Z Z Z<|wO 10 Z Z Z<|wO 11 Z Z Z<|wO 12 Z Z Z<|wO 13 Z Z Z<|wO 14 Z Z Z<|wO 15 Z Z Z<|wD 16 Z (aR Z Z)<|wD 17 Z (aN Z) ?_;refine wO 18 Z Z Z<|wO 19 Z Z Z<|wO 20 Z Z Z<|wO 21 Z Z Z<|wO 22 Z Z Z<|wO 23 Z Z Z<|wO 24 Z Z Z<|wO 25 Z Z Z<|wO 26 Z Z Z<|wO 27 Z Z Z<|wO 28 Z Z Z<|wO 29 Z Z Z<|wO 30 Z Z Z<|wD 31 Z (aR Z Z)<|wN ?_;exact⟨SA,λ_ h=>h⟩
   refine bJ Z (λkj=> ?_) (λkj=> ?_)
   ·refine aM<|wm Z<|wm Z<|wm Z<|wm Z<|wm Z<|wS Z Z<|wy (aH aa sz3 Z Z (rdr 1 Z))<|wy (aX ak Z Z (rdr 1 Z))<|wy (aH aa sz3 Z Z (rdr 0 Z) (by first|omega|(have ln:=fE (s:=s) (n:=n) (b:=b) (p:=p-1) G G;rw[<-hD] at ln;omega)) (by first|omega|(have ln:=fE (s:=s) (n:=n) (b:=b) (p:=p-1) G G;rw[<-hD] at ln;omega))) ?_;refine wy (aX ak Z Z (rdr 0 Z) (by first|omega|(have ln:=fE (s:=s) (n:=n) (b:=b) (p:=p-1) G G;rw[<-hD] at ln;omega)) (by first|omega|(have ln:=fE (s:=s) (n:=n) (b:=b) (p:=p-1) G G;rw[<-hD] at ln;omega))) ?_;refine wy (aH aa sz3 Z Z (rdr 0 Z))<|bX (bG 0 Z sz3 Z Z) ?_;rintro _ _ rfl;refine aA<|aM<|wA Z Z<|wm Z<|aA ?_;exact⟨p+1,D,upd (upd V (rd D p) p) (rd D p) (rd (upd V (rd D p) p) (rd D (p-1))),⟨G,G,G,(by rw[aV,aV];exact iu),(by subst hD;exact aHz hn hb Lk G iu hV (by rw[<-hl,and_assoc];exact kj))⟩,G,SA,λ_ h=>h⟩
   ·refine aJ<|aM<|wA Z Z<|wm Z<|aA ?_;exact⟨p+1,D,upd V (rd D p) p,⟨G,G,G,(by rw[aV];exact iu),(by subst hD;exact ZY hn hb Lk G iu hV (by rw[<-hl,and_assoc];exact kj))⟩,G,SA,λ_ h=>h⟩
  ·refine aZ<|wq<|wm Z<|wm Z<|wg Z<|wn Z<|aT [0,1] 99 cC Z ?_;refine⟨_,_,Z,Z,?_⟩;have e2:V=rkL s (n+b):=aIa iu (λq h1 h2=>by have:=hV q h1 G;rw[hD] at this;exact this);subst e2;subst hD;rw[Iv,qn];exact⟨_,_,_,_,Z,Z⟩
variable {B eh bo Bs:Nat} {w0 w:World} {R:List Row} {bp:Option Addr} {s:List Int}
theorem LH:
  Ct Tryz.prog 315 #[sl bp eh bo] B w0 R (λv R'=> ∃g,v= .func (.func 346) #[] #[PG g]/\R'=(rc 52 1 g [sl bp eh bo])::R):=by
 refine fn1 Tryz.func315 Z Z Z ?_;refine wq<|wa (bY (sz:=1) Z Z) ?_;rintro _ _ ⟨g,rfl,rfl⟩;refine wn Z<|wq<|wy (kQ Z Z)<|wn Z<|dF ?_;exact⟨_,Z,g,Z,Z⟩
theorem XE:
  Ct Tryz.prog 186 #[sl bp eh bo] B w0 R (λv R'=> ∃g,v= .func (.func 241) #[] #[PG g]/\R'=(rc 52 1 g [sl bp eh bo])::R):=by
 refine fn1 Tryz.func186 Z Z Z ?_;refine wq<|wa (bY (sz:=1) Z Z) ?_;rintro _ _ ⟨g,rfl,rfl⟩;refine wn Z<|wq<|wy (kQ Z Z)<|wn Z<|dF ?_;exact⟨_,Z,g,Z,Z⟩
theorem aLp {l:List Int} {k:Nat} (h:k<l.length):l.take k++[rd l (k:Int)]=l.take (k+1):=by
 rw[qp,av h,rd,az,af,av h];rfl
theorem QM {Bs:Nat} (ba:Rd w bp eh bo 1 (ints .i64 s)) (go:Rd w (GG Bs) 1 1 1 [sl bp eh bo]) (hN:s.length<=1000000):
  Ct Tryz.prog 361 #[sl none 0 0, .func (.func 346) #[] #[PG Bs]] w.heap.size w [] (λv R'=> ∃A c,v=sl A (s).length c/\R'=[(ri 3 A ((s).length) c (s))]):=by
 refine fnV Tryz.func361 Z Z ?_;obtain rfl:=ba.lenI;refine fP ?_;refine aM<|wa (bY (sz:=1) Z Z) ?_;rintro _ _ ⟨al,rfl,rfl⟩;refine dH (R1:=[(ri 3 none 0 0 ([])),(rc 52 1 al [sl none 0 0])]) (Sub.refl _) (λ_ h=>h.nil 3 1)<|wn Z ?_;refine aCn ?_;refine fP ?_;refine aM<|wm Z<|aA ?_;refine EC ?_;refine RG Z bDc (XX (A:=bp) (c:=bo) (zs:=s)) Z (λ_=>Z) Gd.refl (λ(kr:Nat) (A1:Option Addr) (n1:Nat) (c1:Nat) (acc:List Int)=>[(ri 3 A1 n1 c1 acc),(rc 52 1 al [sl A1 n1 c1])]) (λkr A1 n1 c1 acc=>(n1=acc.length)/\(acc=s.take kr)) ?_ ?_ ?_ ?_
 ·exact⟨none,0,0,[],⟨(Z),(xk.symm)⟩,λ_ h=>h⟩
 ·intro kr A1 n1 c1 acc w ⟨dd,bb⟩ hw;exact⟨(go.c _) w hw,(ba.c _) w hw⟩
 ·intro lr kr A1 n1 c1 acc Wd Lc ⟨dd,bb⟩ Oj;have vj:acc.length<=s.length:=by rw[bb,ax];omega
  refine aM<|wn Z ?_;intro Nm xp;refine aI<|aM<|wy (aK (rdr 1 Z) aa Z Z Z)<|wm Z<|wa (bS .i64 [rd s (kr:Int)] aa zs3 Z Z Z) ?_;rintro _ _ ⟨dy,rfl,rfl⟩;refine wa (bE 1 Z aa zb3 Z Z Z (rdr 0 Z)) ?_;rintro _ _ ⟨fh,nf,rfl,rfl⟩;refine bN (v:=sl fh (n1+1) nf) Z<|bX (bA 2 Z Z Z gW Z Z Z Z (au Z)) ?_;rintro _ _ rfl;refine aA ?_;exact⟨fh,(n1+1),nf,acc++([rd s (kr:Int)]),⟨(by rw[ah,dd];try rfl),(by rw[bb];exact aLp Lc)⟩,λ_=>λ_ h=>h.sel [1,2] cC Z⟩
 intro No Wc A1 n1 c1 acc ⟨dd,bb⟩ Hs vb;refine aCp ?_;refine aSp ?_;refine v_w ?_;refine wq<|wy (aK (rdr 1 Z) aa Z Z Z)<|wn Z<|aT [0] 99 cC Z ?_;refine bGf Z vb ⟨_,Z,?_⟩;rw[ul] at bb;subst dd;subst bb;exact⟨_,_,Z,Z⟩
theorem aAu {Bs:Nat} (ba:Rd w bp eh bo 1 (ints .i64 s)) (go:Rd w (GG Bs) 1 1 1 [sl bp eh bo]) (hN:s.length<=1000000):
  Ct Tryz.prog 344 #[.func (.func 346) #[] #[PG Bs]] w.heap.size w [] (λv R'=> ∃A c,v=sl A (s).length c/\R'=[(ri 3 A ((s).length) c (s))]):=by
 refine fn1 Tryz.func344 Z Z Z ?_;refine wq<|wn Z<|wq<|wm Z<|wa (aF bDa Z (Ct.fresh (λw hw=>QM ((ba.c _) w hw) ((go.c _) w hw) G))) ?_;rintro _ _ ⟨_,rfl,bx,br,rfl,rfl⟩;refine wn Z<|aT [0] 99 cC Z ?_;refine⟨_,Z,?_⟩;exact⟨_,_,Z,Z⟩
theorem LZ {Bs:Nat} (ba:Rd w bp eh bo 1 (ints .i64 s)) (go:Rd w (GG Bs) 1 1 1 [sl bp eh bo]) (hN:s.length<=1000000):
  Ct Tryz.prog 314 #[.func (.func 346) #[] #[PG Bs]] w.heap.size w [] (λv R'=> ∃A c,v=sl A (jY s).length c/\R'=[(ri 3 A ((jY s).length) c (jY s))]):=by
 refine fn1 Tryz.func314 Z Z Z ?_;refine wq<|wn Z<|wq<|wm Z<|wa (aF bDe Z (Ct.fresh (λw hw=>aAu ((ba.c _) w hw) ((go.c _) w hw) G))) ?_;rintro _ _ ⟨_,rfl,bx,br,rfl,rfl⟩;refine wn Z<|wq<|wm Z<|wa (aF bDd Z (aGd Tryz.slices_Sort_int Tryz.slices_Sort_int_none 0 Z G)) ?_;rintro _ _ ⟨rfl,rfl⟩;refine aA<|wq<|wm Z<|wn Z<|aT [0] 99 cC Z ?_;refine⟨_,Z,?_⟩;have e:s.length=(jY s).length:=(kR s).length_eq.symm;rw[e];exact⟨_,_,Z,Z⟩
variable {s:List Int} {w:World} {bp:Option Addr} {eh bo:Nat}
theorem aZl {V:List Int} {h:Nat} (hl:V.length=s.length) (hV: ∀j:Int,0<=j->j<s.length->rd V j=rkS s h j.toNat):V=rkL s h:=
 bI (hl.trans (yG s h).symm) λj h1 h2=>by rw[pE h1 G];exact hV j h1 G
theorem aGy (ba:Rd w bp eh bo 1 (ints .i64 s)) (hN:s.length<=100000):
  Ct Tryz.prog 297 #[sl bp eh bo] w.heap.size w [] (λv R'=> ∃A c,v=sl A (s.length) c/\R'=[(ri 3 A s.length c (rkL s 1))]):=by
 obtain rfl:=ba.lenI;refine fn1 Tryz.func297 Z Z Z ?_;have ub:=ba.max;refine wq<|wn Z<|wq<|wm Z<|wa (aF aXr Z (LH)) ?_;rintro _ _ ⟨al,rfl,rfl⟩;refine wa (aF aXs Z (Ct.fresh (λw hw=>LZ ((ba.c _) w hw) ((rdr 0 Z) w hw) G))) ?_;rintro _ _ ⟨_,rfl,ij,io,rfl,rfl⟩;refine wn Z<|wq<|wm Z<|wy (aQ aa Z)<|wa (dE aa zb3 Z Z) ?_;rintro _ _ ⟨ft,rfl,rfl⟩;refine bN (v:=sl (GG ft) s.length s.length) Z<|wn Z<|aG<|wq<|wm Z<|wy (aQ aa Z)<|wm Z<|aA<|aI ?_;refine dS (λ(i:Int) (V:List Int)=>[(3,sl ij ((jY s).length) io),(4,sl (GG ft) s.length s.length),(13,sl bp s.length bo),(14,I ((s.length:Nat):Int)),(15,I i)]) (λi V=>[(ri 3 (GG ft) s.length s.length V),(ri 3 ij ((jY s).length) io (jY s)),(rc 52 1 al [sl bp s.length bo])]) (λi V=>(0<=i)/\(i<=s.length)/\(V.length=s.length)/\(∀j:Int,0<=j->j<i->rd V j=rkS s 1 j.toNat)) (λi V=>(s.length-i).toNat) ?_ ?_
 ·exact⟨0,List.replicate s.length (0:Int),⟨G,G,(by rw[bq]),(λj h1 h2=>G)⟩,SA,λ_ h=>h⟩
 intro i V ⟨ar,ia,iu,hV⟩;refine wq<|wL Z Z<|aA<|aG<|bJ Z (λaq=> ?_) (λaq=> ?_)
 ·refine aJ<|aG<|aI<|wq<|wm Z<|wy (aH aa sz3 Z Z (ba.c _))<|wy (aX ak Z Z (ba.c _))<|wg Z<|wn Z<|aM<|wm Z<|wm Z<|wm Z ?_;refine wm Z<|wa (aF bDg Z (aIm Tryz.slices_BinarySearch_int Tryz.slices_BinarySearch_int_empty 1 Z (by rw[(kR s).length_eq];omega) (xZ s))) ?_;rintro _ _ ⟨rfl,rfl⟩;refine wm Z<|wX Z Z<|wX Z Z<|wy (aH aa sz3 Z Z (rdr 0 Z))<|bX (bG 0 Z sz3 Z Z) ?_;rintro _ _ rfl;refine aA<|aM<|wA Z Z<|wm Z<|aA ?_;exact⟨i+1,upd V i (((jY s).countP λy=>decide (y<rd s i):Nat):Int),⟨G,G,(by rw[aV];exact iu),(eG (f:=λj=>(rkS s 1 j.toNat:Int)) ar G hV (by rw[aZi G,(kR s).countP_eq];rfl))⟩,G,SA,λ_ h=>h⟩
 ·refine aZ<|wq<|wm Z<|wn Z<|aT [0] 99 cC Z ?_;refine⟨_,Z,?_⟩;obtain rfl:V=rkL s 1:=aZl iu (λj h1 h2=>hV j h1 G);exact⟨_,_,Z,Z⟩
set_option maxHeartbeats 400000 in
theorem ZB {h:Int} (ba:Rd w bp eh bo 1 (ints .i64 s)) (h0:0<=h) (hN:s.length<=100000):
  Ct Tryz.prog 268 #[sl bp eh bo,I h] w.heap.size w [] (λv R'=> ∃A c,v=sl A (s.length) c/\R'=[(ri 3 A s.length c (rkL s h.toNat))]):=by
 obtain rfl:=ba.lenI;refine fn1 Tryz.func268 Z Z Z ?_;have ub:=ba.max;refine wq<|wn Z<|aG<|wq<|wm Z<|wL Z Z<|wm Z<|dQ 4 [(0,sl bp s.length bo),(1,I h),(14, .bool (decide ((h<0)\/(100000<((s.length:Nat):Int)))))] [] ?_ ?_
 ·refine cK 10 Z (λaq=> ?_) (λaq=> ?_)
  ·refine aP Z Z Z Z<|aP Z Z Z Z<|aP Z Z Z Z<|wy (aY Z Z)<|aA ?_;exact⟨SA,λ_ h=>h⟩
  ·refine aC Z Z<|wm Z<|aC Z Z<|wy (aQ aa Z)<|aC Z Z<|wy (dV Z Z)<|wy (aR Z Z)<|aA ?_;exact⟨SA,λ_ h=>h⟩
 refine vB 14 Z G<|aA<|aL Z<|aJ<|wq<|wm Z<|wy (aQ aa Z)<|wa (dE aa zb3 Z Z) ?_;rintro _ _ ⟨cv,rfl,rfl⟩;refine bN (v:=sl (GG cv) s.length s.length) Z<|wn Z<|aG<|wq<|wm Z<|wy (bC Z Z)<|aA<|bJ Z (λcr=> ?_) (λcr=> ?_)
 ·refine wq<|wm Z<|wn Z<|aT [0] 99 cC Z ?_;refine⟨_,Z,?_⟩;have e:h.toNat=0:=G
  rw[e,aMi];exact⟨_,_,Z,Z⟩
 ·refine aJ<|wq<|wm Z<|wa (aF bDo Z (Ct.fresh (λw hw=>aGy ((ba.c _) w hw) cE))) ?_;rintro _ _ ⟨_,rfl,kd,km,rfl,rfl⟩;refine wn Z<|wq<|wm Z<|wm Z<|wy (aQ aa Z)<|wy (vV Z Z)<|wn Z<|aG<|wq<|wn Z ?_;refine aI ?_;refine EB (λ(n:Int) (A1:Option Addr) (c1:Nat) (L:List Int)=>[(1,I (min h ((s.length:Nat):Int))),(5,sl A1 s.length c1),(6,I n)]) (λn A1 c1 L=>[(ri 3 A1 s.length c1 L),(ri 3 (GG cv) s.length s.length (List.replicate s.length (0:Int)))]) (λn A1 c1 L=>(1<=n)/\(n=1\/n<=min h (s.length:Int))/\(L=rkL s n.toNat)) (λn A1 c1 L=>(min h (s.length:Int)-n).toNat) ?_ ?_
  ·exact⟨1,kd,km,rkL s 1,⟨G,G,(Z)⟩,SA,λ_ h=>h⟩
  intro n A1 c1 L ⟨dd,ox,hL⟩;refine aG<|wq<|wm Z<|wm Z<|wL Z Z<|aA<|bJ Z (λfd=> ?_) (λfd=> ?_)
  ·refine aJ<|aI<|wq<|wm Z<|wm Z<|wm Z<|wS Z Z<|wy (vV Z Z)<|wn Z<|wq<|wm Z<|wm Z ?_;refine wa (aF bDn Z (Ct.fresh (λw hw=>aHy (s:=s) (n:=n.toNat) (b:=(min n (min h (s.length:Int)-n)).toNat) ((rdr 0 Z) w hw) hL G G G ⟨hN,G⟩))) ?_;rintro _ _ ⟨_,rfl,gw,kf,bc,bh,rfl,rfl⟩;refine wm Z<|wX Z Z<|wX Z Z<|wn Z<|aM<|wm Z<|wm Z<|wA Z Z<|wn Z ?_;exact⟨n+(min n ((min h ((s.length:Nat):Int))-n)),gw,kf,rkL s (n.toNat+(min n (min h (s.length:Int)-n)).toNat),⟨G,G,(by congr 1;omega)⟩,G,SA,λ_ h=>h.sel [0,3] cC Z⟩
  ·refine aZ<|wq<|wm Z<|wn Z<|aT [0] 99 cC Z ?_;refine⟨_,Z,?_⟩
   have e:rkL s n.toNat=rkL s h.toNat:=by
    rcases dx s.length with z|z
    ·exact aMj z _ _
    ·rcases ay h s.length with a|a
     ·rw[show n.toNat=h.toNat by omega]
     ·rw[aZk (h:=h.toNat) G,show n.toNat=s.length by omega]
   rw[hL,e];exact⟨_,_,Z,Z⟩
theorem aId {s:List Int} {k:Int} (ba:Rd w bp eh bo 1 (ints .i64 s)) (cx:(0<=k/\k<=1048576)/\ ∀x∈s,0<=x/\x<k) (hN:s.length<=100000):
  Ct Tryz.prog 221 #[sl bp eh bo,I k] w.heap.size w [] (λv R'=> ∃(out:List Int) (A:Option Addr) (c:Nat),v= .tuple #[sl A s.length c,I 0]/\out.length=s.length/\(∀q:Nat,q<s.length->rd out (rkS s s.length q)=q)/\R'=[(ri 3 A s.length c out)]):=by
 obtain rfl:=ba.lenI;refine fn2 Tryz.func221 Z Z Z ?_;have ub:=ba.max;refine wq<|wg Z<|wn Z<|aG<|wq<|wm Z<|wy (aQ aa Z)<|wy (Yl.f (dV Z Z))<|aA<|aL Z<|aJ<|aG ?_;refine wq<|wm Z<|wm Z<|wa (aF VP Z (Ct.fresh (λw hw=>nI ((ba.c _) w hw) cE))) ?_;rintro _ _ ⟨_,rfl,bx,br,rfl,rfl⟩;refine wm Z<|wX Z Z<|wX Z Z<|wg Z<|wn Z<|wq<|wm Z<|wy (dI Z)<|aA<|aL Z<|aJ<|wq ?_;refine wm Z<|wy (aQ aa Z)<|wa (dE aa zb3 Z Z) ?_;rintro _ _ ⟨dy,rfl,rfl⟩;refine bN (v:=sl (GG dy) s.length s.length) Z<|wn Z<|aG<|wq<|wm Z<|wm Z<|wy (aQ aa Z)<|wa (aF bEb Z (Ct.fresh (λw hw=>ZB ((ba.c _) w hw) G cE))) ?_;rintro _ _ ⟨_,rfl,fh,nf,rfl,rfl⟩;refine wy (aQ aa Z)<|wm Z<|aA<|aI ?_;refine dS (λ(i:Int) (V:List Int)=>[(8,sl (GG dy) s.length s.length),(28,sl fh ((s).length) nf),(29,I (((s).length:Nat):Int)),(30,I i)]) (λi V=>[(ri 3 fh ((s).length) nf (rkL s (((s.length:Nat):Int)).toNat)),(ri 3 (GG dy) s.length s.length V),(ri 3 bx ((k).toNat) br (dR s k))]) (λi V=>(0<=i)/\(i<=s.length)/\(V.length=s.length)/\(∀q:Nat,(q:Int)<i->rd V (rkS s s.length q)=q)) (λi V=>(s.length-i).toNat) ?_ ?_
 ·exact⟨0,List.replicate s.length (0:Int),⟨G,G,(by rw[bq]),(λq h=>G)⟩,SA,λ_ h=>h⟩
 intro i V ⟨ar,ia,iu,hV⟩;refine wq<|wL Z Z<|aA<|aG<|bJ Z (λaq=> ?_) (λaq=> ?_)
 ·have hr:rd (rkL s ((s.length:Nat):Int).toNat) i=(rkS s s.length i.toNat:Int):=by rw[az];exact pE ar G
  have ht:=yE (s:=s) (h:=s.length) (i:=i.toNat) G;refine aJ<|aG<|aI<|wq<|wm Z<|wy (aH aa sz3 Z Z (rdr 0 Z))<|wy (aX ak Z Z (rdr 0 Z))<|wg Z<|wn Z<|aM<|wm Z<|wm Z<|wm Z ?_;refine wy (aH aa sz3 Z Z (rdr 1 Z) (by rw[hr];omega) (by rw[hr];omega)) ?_;refine bX (bG 1 Z sz3 Z Z (by rw[hr];omega) (by rw[hr];omega)) ?_;rintro _ _ rfl;refine aA<|aM<|wA Z Z<|wm Z<|aA ?_
  exact⟨i+1,upd V (rd (rkL s (((s.length:Nat):Int)).toNat) i) i,⟨G,G,(by rw[aV];exact iu),(λq h=>by
    rw[hr];have:=TM (m:=i.toNat) G iu (λq h=>hV q G) q G
    rwa[show((i.toNat:Nat):Int)=i by omega] at this)⟩,G,SA,λ_ h=>h⟩
 ·refine aZ<|wq<|wm Z<|wg Z<|wn Z<|aT [1] 99 cC Z ?_;refine⟨_,_,Z,Z,?_⟩;exact⟨V,_,_,Z,iu,λq h=>hV q G,Z⟩
theorem aBk {ao:Option Addr} {ap an:Nat} {u:List Int} (am:Rd w ao ap an 1 (ints .u8 u)) (ac:aO u) (hN:u.length<=100000):
  Ct Tryz.prog 148 #[sl ao ap an] w.heap.size w [] (λv R'=> ∃(out:List Int) (A:Option Addr) (c:Nat),v= .tuple #[sl A u.length c,I 0]/\out.length=u.length/\(∀q:Nat,q<u.length->rd out (rkS u u.length q)=q)/\R'=[(ri 3 A u.length c out)]):=by
 obtain rfl:=am.lenI;refine fn2 Tryz.func148 Z Z Z ?_;have pd:=am.max;refine wq<|wg Z<|wn Z<|aG<|wq<|wm Z<|wy (aQ ai Z)<|wy (Yl.f (dV Z Z))<|aA<|aL Z<|aJ<|aG ?_;refine aM<|wm Z<|wy (aQ ai Z)<|wa (dE aa zb3 Z Z) ?_;rintro _ _ ⟨al,rfl,rfl⟩;refine bN (v:=sl (GG al) u.length u.length) Z<|wn Z<|aG<|wq<|wm Z<|wy (aQ ai Z)<|wm Z<|aA<|aI ?_;refine dS (λ(i:Int) (V:List Int)=>[(4,sl (GG al) u.length u.length),(13,sl ao u.length an),(14,I ((u.length:Nat):Int)),(15,I i)]) (λi V=>[(ri 3 (GG al) u.length u.length V)]) (λi V=>(0<=i)/\(i<=u.length)/\(V.length=u.length)/\(∀j:Int,0<=j->j<i->rd V j=rd u j)) (λi V=>(u.length-i).toNat) ?_ ?_
 ·exact⟨0,List.replicate u.length (0:Int),⟨G,G,(by rw[bq]),(λj h1 h2=>G)⟩,SA,λ_ h=>h⟩
 intro i V ⟨ar,ia,iu,hV⟩;refine wq<|wL Z Z<|aA<|aG<|bJ Z (λaq=> ?_) (λaq=> ?_)
 ·have rj:=ac.rd i;refine aJ<|aG<|aI<|wq<|wm Z<|wy (aH ai sz5 Z Z (am.c _))<|wy (aX cz Z Z (am.c _))<|wg Z<|wn Z<|aM<|wm Z<|wm Z<|wm Z ?_;refine wy (iV cz ak Z)<|wy (aH aa sz3 Z Z (rdr 0 Z))<|bX (bG 0 Z sz3 Z Z) ?_;rintro _ _ rfl;refine aA<|aM<|wA Z Z<|wm Z<|aA ?_;exact⟨i+1,upd V i (rd u i),⟨G,G,(by rw[aV];exact iu),(eG (f:=λj=>rd u j) ar G hV Z)⟩,G,SA,λ_ h=>h⟩
 ·have Od:V=u:=bI iu (λj h1 h2=>hV j h1 G);refine aZ<|wq<|wm Z<|wa (aF bEk Z (Ct.fresh (λw hw=>aId ((rdr 0 Z) w hw) ⟨G,λx hx=>by rw[Od] at hx;have:=ac x hx;omega⟩ G))) ?_;rintro _ _ ⟨_,rfl,o1,dj,dp,rfl,m6,n9,rfl⟩;refine wX Z Z<|wX Z Z<|wg Z<|wn Z<|aT [0] 99 cC Z ?_;refine⟨_,_,Z,Z,?_⟩;subst Od;exact⟨o1,_,_,Z,m6,n9,Z⟩
end Go.Proofs.YtdbebmmhdefgdaaGreat
namespace Go.Proofs
open Go.Shelf
def Tryz.lays212_ren:Go.Shelf.Ren:=⟨λ|212=>122|263=>195|264=>196|n=>n,λ|46=>167|51=>123|146=>243|53=>112|148=>245|n=>n,λ|n=>n⟩
theorem Tryz.lays212:Go.Proofs.Lays.n212 Tryz.prog Tryz.lays212_ren:= {
 mixed:=cA
 f212:=Tryz.func122.trans (bz some cA)
 f263:=Tryz.func195.trans (bz some cA)
 f264:=Tryz.func196.trans (bz some cA)
 t46:=zu
 a46:=Dj
 z46:=Cq
 v46:=Aj
 t51:=Cb
 a51:=Gu
 z51:=Ez
 v51:=Cs
 t53:=Ca
 a53:=Gt
 z53:=Ey
 v53:=Cr
 t146:=Tryz.underlying243
 a146:=Tryz.isAgg243
 z146:=Tryz.sizeOf243
 v146:=Tryz.zeroValue243
 t148:=Tryz.underlying245
 a148:=Tryz.isAgg245
 z148:=Tryz.sizeOf245
 v148:=Tryz.zeroValue245}
open Go.RowKit Go.Lib in
theorem Tryz.bits_Mul (x y:Nat) (hx:x<18446744073709551616) (hy:y<18446744073709551616) (w:World):
  Calls Tryz.prog 122 #[.int .u64 x, .int .u64 y] w λe w'=>e= .returned (.tuple #[.int .u64 ((x*y/18446744073709551616:Nat):Int), .int .u64 ((x*y%18446744073709551616:Nat):Int)])/\w'=w:=Any.bits_Mul Tryz.lays212 x y hx hy w
end Go.Proofs
namespace Go.Proofs.YtdbebmmhdefgdaaGreat
open Go Go.Eng Go.Pure
open Tryz
set_option maxRecDepth 100000
variable {w:World} {p val i:Int} {N eh bo:Nat} {bp:Option Addr} {s:List Int}
theorem NP {im:Option Addr} {lj ir:Nat} {l:List Int} {uc:Option Addr} {Yr ud:Nat} {m:List Int} (gr:Rd w im lj ir 1 (ints .i64 l)) (xf:Rd w uc Yr ud 1 (ints .i64 m)) (hN:l.length<=1000000):
  Ct Tryz.prog 87 #[sl im lj ir,sl uc Yr ud] w.heap.size w [] (λv R'=>v= .bool (decide (l=m))):=by
 obtain rfl:=gr.lenI;obtain rfl:=xf.lenI;refine fn1 Tryz.func87 Z Z Z ?_;have Qm:=gr.max;have m_m:=xf.max;refine wq<|wn Z<|aG<|wq<|wm Z<|wy (aQ aa Z)<|wm Z<|wy (aQ aa Z)<|wy (iZ Z Z)<|aA<|bJ Z (λaq=> ?_) (λaq=> ?_)
 ·refine wq<|wn Z<|dF ?_;refine⟨_,Z,?_⟩;exact bz Value.bool (ol (λe=>by rw[e] at aq;exact aq rfl)).symm
 ·refine aJ<|aG<|wq<|wm Z<|wy (aQ aa Z)<|wm Z<|aA<|aI ?_;refine pX (λ(k:Int)=>[(0,sl im l.length ir),(1,sl uc m.length ud),(12,I ((l.length:Nat):Int)),(13,I k)]) (λk=>[]) (λk=>(0<=k)/\(k<=l.length)/\(l.take k.toNat=m.take k.toNat)) (λk=>(l.length-k).toNat) ?_ ?_
  ·exact⟨0,⟨G,G,(Z)⟩,SA,λ_ h=>h⟩
  intro k ⟨nb,xj,hq⟩;refine wq<|wL Z Z<|aA<|aG<|bJ Z (λcr=> ?_) (λcr=> ?_)
  ·refine aJ<|aG<|aI<|wq<|wm Z<|wn Z<|aG<|bT mixed<|wD 0 Z (aN Z)<|wD 1 Z (aN Z)<|wD 2 Z (aH aa sz3 Z Z (gr.c _))<|wD 3 Z (aX ak Z Z (gr.c _))<|wD 4 Z (aN Z) ?_;refine wD 5 Z (aN Z)<|wD 6 Z (aH aa sz3 Z Z (xf.c _))<|wD 7 Z (aX ak Z Z (xf.c _))<|wD 8 Z (iZ Z Z)<|wN<|bJ Z (λfd=> ?_) (λfd=> ?_)
   ·refine wq<|wn Z<|dF ?_;refine⟨_,Z,?_⟩;exact bz Value.bool (ol (λe=>by subst e;exact fd rfl)).symm
   ·refine aJ<|aM<|wA Z Z<|wm Z<|aA ?_;exact⟨k+1,⟨G,G,(by rw[dD nb G,dD nb G,hq];exact bz (λz=>List.take k.toNat m++[z]) (yt.1 cF))⟩,G,SA,λ_ h=>h⟩
  ·refine aZ<|wq<|wn Z<|dF ?_;refine⟨_,Z,?_⟩;exact bz Value.bool (lh (by rw[bn G,bn G] at hq;exact hq)).symm
theorem bAe {B:Nat} {w0:World} {R:List Row} (N:Nat) (h:N<=1000000):Ct Tryz.prog 122 #[.int .u64 1, .int .u64 ((N:Nat):Int)] B w0 R (λv R'=>v= .tuple #[.int .u64 0, .int .u64 ((N:Nat):Int)]/\R'=R):=by
 intro w hw;have hc:=Tryz.bits_Mul 1 N G G w;rw[Ce,Db G,lc G] at hc;refine hc.mono ?_;rintro e w' ⟨rfl,rfl⟩;exact⟨_,R,Z,hw,Z,Z⟩
theorem aFq (h:0<=p/\p<=18446744073709551615):IntKind.u64.wrap p=p:=by rw[Gy];omega
theorem aMs {D:List Int} (p1:1<=p) (hp:p<=N) (hD:D=yI val p.toNat N):
  List.take p.toNat D++List.take (min p.toNat (N-p.toNat)) (List.take p.toNat D)++List.drop (p.toNat+min p.toNat (N-p.toNat)) D=yI val (p+((min p.toNat (N-p.toNat):Nat):Int)).toNat N:=by
 subst hD;rw[show(p+((min p.toNat (N-p.toNat):Nat):Int)).toNat=p.toNat+min p.toNat (N-p.toNat) by omega];refine MQ G ?_;rw[MP,List.take_replicate];congr 1;omega
theorem aMu (h:1<=N):List.take 0 (List.replicate N (0:Int))++List.take (min ([val].length) (N-0)) [val]++List.drop (0+min ([val].length) (N-0)) (List.replicate N (0:Int))=yI val (((min ([val].length) (N-0):Nat):Int)).toNat N:=by
 have e:min ([val].length) (N-0)=1:=cG
 rw[e,<-aGu val N];exact MQ (p:=0) (q:=1) G Z
set_option maxHeartbeats 800000 in
theorem YW {zc:Option Addr} {u9 zp:Nat} {x:List Int} {cn:Int} (js:Rd w zc u9 zp 1 (ints .i64 x)) (hx:x=[val]) (Mi:cn=((N:Nat):Int)) (hN:1<=N/\N<=1000000):
  Ct Tryz.prog 316 #[sl zc u9 zp,I cn] w.heap.size w [] (λv R'=> ∃A c,v=sl A N c/\R'=[(ri 3 A N c (List.replicate N val))]):=by
 obtain rfl:=js.lenI;refine fn1 Tryz.func316 Z Z Z ?_;have Vw:=js.max;refine wq<|wn Z<|aG<|wq<|wm Z<|wy (Yl.f (eO Z Z))<|aA<|aL Z<|aJ<|wq<|wm Z ?_;refine wy (aQ aa Z)<|wy (Yl.is (oM ak Bo Z) (by rw[hx])) ?_;refine wm Z<|wy (Yl.is (oM ak Bo Z) (by rw[aFq G,Mi])) ?_;refine wa (aF aYk Z (bAe N hN.2)) ?_;rintro _ _ ⟨rfl,rfl⟩;refine wm Z<|wX Z Z<|wX Z Z<|wg Z<|wn Z<|aG<|wq<|wm Z<|wy (Yl.f (dV Z Z))<|wm Z<|aC Z Z<|wm Z<|aC Z Z ?_;refine wy (Yl.f (dV Z Z))<|wy (aR Z Z)<|aA<|aL Z<|aJ<|wq<|wm Z<|wy (iV Bo ak Z)<|wa (dE aa zb3 Z Z) ?_;rintro _ _ ⟨al,rfl,rfl⟩;refine bN (v:=sl (GG al) N N) Z<|wn Z<|wq<|wm Z<|wm Z<|wa (QT (lo:=0) 0 Z aa sz3 Z Z aQy Z G (js.c _)) ?_;rintro _ _ ⟨rfl,rfl⟩;refine wn Z<|aG<|aI ?_;refine dS (λ(p:Int) (D:List Int)=>[(7,sl (GG al) N N),(8,I p)]) (λp D=>[(ri 3 (GG al) N N D)]) (λp D=>(1<=p)/\(p<=N)/\(D=yI val p.toNat N)) (λp D=>(N-p).toNat) ?_ ?_
 ·exact⟨((min x.length (N-0):Nat):Int),List.take 0 (List.replicate N (0:Int))++List.take (min x.length (N-0)) x++List.drop (0+min x.length (N-0)) (List.replicate N (0:Int)),⟨(by subst hx;simp;omega),G,(by subst hx;exact aMu hN.1)⟩,SA,λ_ h=>h⟩
 intro p D ⟨Lk,py,hD⟩;refine aG<|wq<|wm Z<|wm Z<|wy (aQ aa Z)<|wL Z Z<|aA<|bJ Z (λaq=> ?_) (λaq=> ?_)
 ·refine aJ<|aI<|bT mixed<|wD 0 Z (aN Z)<|wD 1 Z (aN Z)<|wD 2 Z (aN Z)<|wD 3 Z (iP aa sz3 Z Z)<|wD 4 Z (aN Z)<|wD 5 Z (aN Z)<|wD 6 Z (gD aa sz3 Z Z (rdr 0 Z))<|wC 7 Z (QT (lo:=p.toNat) 0 Z aa sz3 Z Z Z Z G (RdC.toI (h:=(p).toNat) (rdr 0 Z) cH)) ?_;rintro _ _ ⟨rfl,rfl⟩;refine⟨.inl cA,?_⟩;refine wD 8 Z (dG Z Z)<|wD 9 Z (bP Z)<|wN ?_;exact⟨p+((min ((p).toNat) (N-p.toNat):Nat):Int),List.take p.toNat D++List.take (min ((p).toNat) (N-p.toNat)) ((D).take (p).toNat)++List.drop (p.toNat+min ((p).toNat) (N-p.toNat)) D,⟨G,G,(aMs Lk py hD)⟩,G,SA,λ_ h=>h⟩
 ·refine aZ<|wq<|wm Z<|wn Z<|aT [0] 99 cC Z ?_;refine⟨_,Z,?_⟩;obtain rfl:D=List.replicate N val:=by rw[hD,show p.toNat=N by omega];exact aMr _ _
  exact⟨_,_,Z,Z⟩
set_option maxHeartbeats 600000 in
theorem SX (ba:Rd w bp eh bo 1 (ints .i64 s)) (hN:s.length<=1000000):
  Ct Tryz.prog 313 #[sl bp eh bo] w.heap.size w [] (λv R'=> ∃A c,v=sl A s.length c/\R'=[⟨4,1,A,s.length,c,bools (smL s),false⟩]):=by
 obtain rfl:=ba.lenI;refine fn1 Tryz.func313 Z Z Z ?_;have ub:=ba.max;refine wq<|wn Z<|wq<|wm Z<|wy (aQ aa Z)<|wa (QR og zb4 Z Z G G G) ?_;rintro _ _ ⟨al,rfl,rfl⟩;refine bN (v:=sl (GG al) s.length s.length) Z<|wn Z<|aG<|wq<|wm Z<|wy (aQ aa Z)<|wS Z Z<|wn Z<|aI ?_;refine dS (λ(i:Int) (m:List Bool)=>[(0,sl bp s.length bo),(3,sl (GG al) s.length s.length),(4,I i)]) (λi m=>[⟨4,1,(GG al),s.length,s.length,bools m,false⟩]) (λi m=>(-2<=i)/\(i+2<=s.length)/\(m.length=s.length)/\(∀j:Int,0<=j->i<j->j<s.length->rdb m j=smB s j)) (λi m=>(i+1).toNat) ?_ ?_
 ·exact⟨((s.length:Nat):Int)-2,List.replicate s.length false,⟨G,G,(by rw[bq]),(λj h0 h1 h2=>by rw[EJ,oV h0 G])⟩,SA,λ_ h=>h⟩
 intro i m ⟨ar,ia,hl,hM⟩;refine aG<|wq<|wm Z<|wy (jF Z Z)<|aA<|bJ Z (λaq=> ?_) (λaq=> ?_)
 ·refine aJ<|aG<|aI<|bT mixed<|wD 0 Z (aN Z)<|wD 1 Z (aN Z)<|wD 2 Z (aN Z)<|wD 3 Z (aN Z)<|wD 4 Z (aH aa sz3 Z Z (ba.c _))<|wD 5 Z (aX ak Z Z (ba.c _))<|wD 6 Z (aN Z)<|wD 7 Z (aN Z)<|wD 8 Z (dG Z Z)<|wD 9 Z (aH aa sz3 Z Z (ba.c _))<|wD 10 Z (aX ak Z Z (ba.c _)) ?_;refine wD 11 Z (eO Z Z)<|wD 12 Z (aN Z)<|mZ 27 Z (λcr=> ?_) (λcr=> ?_)
  ·refine wO 13 Z Z Z<|wO 14 Z Z Z<|wO 15 Z Z Z<|wO 16 Z Z Z<|wO 17 Z Z Z<|wO 18 Z Z Z<|wO 19 Z Z Z<|wO 20 Z Z Z<|wO 21 Z Z Z<|wO 22 Z Z Z<|wO 23 Z Z Z<|EZ 24 Z cA Z Z Z<|EZ 25 Z cA Z Z Z<|EZ 26 Z cA Z Z Z<|EZ 27 Z cA Z Z Z ?_;refine EZ 28 Z cA Z Z Z<|wO 29 Z Z Z<|wD 30 Z (aY Z Z)<|wD 31 Z (aH og sz4 Z Z (rdr 0 Z))<|pQ 32 Z cA (uS 0 Z sz4 Z Z) ?_;rintro _ _ rfl;refine⟨.inl cA,?_⟩;refine wN<|aM<|wm Z<|wS Z Z<|wn Z ?_;exact⟨i-1,oO m i true,⟨G,G,(by rw[kF];exact hl),(λj h0 h1 h2=>OX G G hl (λj a b=>hM j G a b) (⟨λ_=> .inl G,λ_=>Z⟩) j G h2)⟩,G,SA,λ_ h=>h⟩
  ·refine wG 13 Z Z Z (aN Z)<|wG 14 Z Z Z (aN Z)<|wG 15 Z Z Z (aH aa sz3 Z Z (ba.c _))<|wG 16 Z Z Z (aX ak Z Z (ba.c _))<|wG 17 Z Z Z (aN Z)<|wG 18 Z Z Z (aN Z)<|wG 19 Z Z Z (dG Z Z)<|wG 20 Z Z Z (aH aa sz3 Z Z (ba.c _))<|wG 21 Z Z Z (aX ak Z Z (ba.c _))<|wG 22 Z Z Z (bC Z Z)<|wG 23 Z Z Z (aN Z)<|mZ 38 Z (λfd=> ?_) (λfd=> ?_)
   ·refine wG 24 Z Z Z (aN Z)<|wG 25 Z Z Z (aN Z)<|wG 26 Z Z Z (dG Z Z)<|wG 27 Z Z Z (aH og sz4 Z Z (rdr 0 Z))<|wG 28 Z Z Z (CF Ar Z Z (rdr 0 Z))<|wG 29 Z Z Z (aY Z Z)<|wD 30 Z (aR Z Z)<|wD 31 Z (aH og sz4 Z Z (rdr 0 Z))<|pQ 32 Z cA (uS 0 Z sz4 Z Z) ?_;rintro _ _ rfl;refine⟨.inl cA,?_⟩;refine wN<|aM<|wm Z<|wS Z Z<|wn Z ?_;exact⟨i-1,oO m i (decide (rdb m (i+1)=true)),⟨G,G,(by rw[kF];exact hl),(λj h0 h1 h2=>OX G G hl (λj a b=>hM j G a b) (by rw[ii];exact⟨λh=> .inr ⟨G,h⟩,λh=>(h.resolve_left G).2⟩) j G h2)⟩,G,SA,λ_ h=>h⟩
   ·refine wO 24 Z Z Z<|wO 25 Z Z Z<|wO 26 Z Z Z<|wO 27 Z Z Z<|wO 28 Z Z Z<|wG 29 Z Z Z (aR Z Z)<|wD 30 Z (aR Z Z)<|wD 31 Z (aH og sz4 Z Z (rdr 0 Z))<|pQ 32 Z cA (uS 0 Z sz4 Z Z) ?_;rintro _ _ rfl;refine⟨.inl cA,?_⟩;refine wN<|aM<|wm Z<|wS Z Z<|wn Z ?_;exact⟨i-1,oO m i false,⟨G,G,(by rw[kF];exact hl),(λj h0 h1 h2=>OX G G hl (λj a b=>hM j G a b) (⟨λh=>(by cases h),λh=>absurd h G⟩) j G h2)⟩,G,SA,λ_ h=>h⟩
 ·refine aZ<|wq<|wm Z<|wn Z<|aT [0] 99 cC Z ?_;refine⟨_,Z,?_⟩;obtain rfl:m=smL s:=aZg hl λj h0 h1=>hM j h0 G h1;exact⟨_,_,Z,Z⟩
theorem aVn (h0:0<=i) (hi:i<s.length) (h1:0<i) (h2:rdb (smL s) i=true) (h3: ¬rdb (smL s) (i-1)=true):fG s i=true:=by
 rw[lN h0 hi] at h2;rw[lN G G] at h3;exact lW.2 ⟨h1,h2,by simpa using h3⟩
theorem bAn (h0:0<=i) (hi:i<s.length) (h: ¬(0<i/\rdb (smL s) i=true/\ ¬rdb (smL s) (i-1)=true)): ¬fG s i=true:=λe=>by
 obtain⟨h1,h2,h3⟩:=lW.1 e;exact h ⟨h1,by rw[lN h0 hi];exact h2,by rw[lN G G,h3];simp⟩
theorem aPk (s:List Int):IV s 1=[]:=by
 show IV s (0+1)=[];rw[BM G,bu (λh=>by have:=(lW.1 h).1;omega)];rfl
theorem aPl (h:i=s.length\/i=1/\s.length=0):IV s i=bM s:=by
 rcases h with rfl|⟨rfl,h⟩
 ·exact IU
 ·rw[aPk,<-IU,h];rfl
theorem UZ (ba:Rd w bp eh bo 1 (ints .i64 s)) (hN:s.length<=1000000):
  Ct Tryz.prog 290 #[sl bp eh bo] w.heap.size w [] (λv R'=> ∃A c,v=sl A (bM s).length c/\R'=[(ri 3 A ((bM s).length) c (bM s))]):=by
 obtain rfl:=ba.lenI;refine fn1 Tryz.func290 Z Z Z ?_;have ub:=ba.max;refine wq<|wn Z<|wq<|dH (R1:=[(ri 3 none 0 0 ([]))]) (Sub.refl _) (λ_ h=>h.nil 3 1)<|wn Z<|wq<|wm Z<|wa (aF aXt Z (Ct.fresh (λw hw=>SX ((ba.c _) w hw) cE))) ?_;rintro _ _ ⟨_,rfl,bx,br,rfl,rfl⟩;refine wn Z<|aG<|wq<|wm Z<|wy (aQ aa Z)<|wm Z<|aA<|aI ?_;refine jN (λ(A1:Option Addr) (n1:Nat) (c1:Nat) (acc:List Int) (i:Int)=>[(3,sl A1 n1 c1),(4,sl bx s.length br),(9,I ((s.length:Nat):Int)),(10,I i)]) (λA1 n1 c1 acc i=>[⟨4,1,bx,s.length,br,bools (smL s),false⟩,(ri 3 A1 n1 c1 acc)]) (λA1 n1 c1 acc i=>(n1=acc.length)/\(0<=i)/\(i<=s.length)/\(acc=IV s i)) (λA1 n1 c1 acc i=>(s.length-i).toNat) ?_ ?_
 ·exact⟨none,0,0,[],0,⟨(Z),G,G,(Z)⟩,SA,λ_ h=>h⟩
 intro A1 n1 c1 acc i ⟨dd,ar,ia,bb⟩;refine wq<|wL Z Z<|aA<|aG<|bJ Z (λaq=> ?_) (λaq=> ?_)
 ·refine aJ<|aG<|aI<|wq<|wm Z<|wn Z<|wq<|wm Z<|wy (dV Z Z)<|wm Z<|dQ 5 [(3,sl A1 n1 c1),(4,sl bx s.length br),(5,I i),(9,I ((s.length:Nat):Int)),(10,I i),(20, .bool (decide ((0<i)/\(rdb (smL s) i=true))))] [⟨4,1,bx,s.length,br,bools (smL s),false⟩,(ri 3 A1 n1 c1 acc)] ?_ ?_
  ·refine cK 15 Z (λcr=> ?_) (λcr=> ?_)
   ·refine aC Z Z<|wm Z<|aC Z Z<|wm Z<|aC Z Z<|wy (aH og sz4 Z Z (rdr 0 Z))<|aC Z Z<|wy (CF Ar Z Z (rdr 0 Z))<|wy (aY Z Z)<|aA ?_;exact⟨SA,λ_ h=>h⟩
   ·refine aP Z Z Z Z<|aP Z Z Z Z<|aP Z Z Z Z<|aP Z Z Z Z<|wy (aR Z Z)<|aA ?_;exact⟨SA,λ_ h=>h⟩
  refine wm Z<|dQ 7 [(3,sl A1 n1 c1),(4,sl bx s.length br),(5,I i),(9,I ((s.length:Nat):Int)),(10,I i),(28, .bool (decide (((0<i)/\(rdb (smL s) i=true))/\(¬(rdb (smL s) (i-1)=true)))))] [⟨4,1,bx,s.length,br,bools (smL s),false⟩,(ri 3 A1 n1 c1 acc)] ?_ ?_
  ·refine cK 21 Z (λfd=> ?_) (λfd=> ?_)
   ·refine aC Z Z<|wm Z<|aC Z Z<|wm Z<|aC Z Z<|wS Z Z<|aC Z Z<|wy (aH og sz4 Z Z (rdr 0 Z))<|aC Z Z<|wy (CF Ar Z Z (rdr 0 Z))<|aC Z Z<|wy (ET Z)<|wy (aY Z Z)<|aA ?_;exact⟨SA,λ_ h=>h⟩
   ·refine aP Z Z Z Z<|aP Z Z Z Z<|aP Z Z Z Z<|aP Z Z Z Z<|aP Z Z Z Z<|aP Z Z Z Z<|wy (aR Z Z)<|aA ?_;exact⟨SA,λ_ h=>h⟩
  refine aA<|bJ Z (λka=> ?_) (λka=> ?_)
  ·refine aM<|wm Z<|wm Z<|wa (bS .i64 [i] aa zs3 Z Z Z) ?_;rintro _ _ ⟨gh,rfl,rfl⟩;refine wa (bE 2 Z aa zb3 Z Z Z (rdr 0 Z) (by have:=bz List.length bb;have:=UW (s:=s) i;omega)) ?_;rintro _ _ ⟨fk,nv,rfl,rfl⟩;refine bN (v:=sl fk (n1+1) nv) Z<|wn Z<|aM<|wA Z Z<|wm Z<|aA ?_;exact⟨fk,n1+1,nv,acc++([i]),i+1,⟨(by rw[ah,dd];try rfl),G,G,(by rw[BM G,cu (aVn G G ka.1.1 ka.1.2 ka.2),bb])⟩,G,SA,λ_ h=>h.sel [1,2] cC Z⟩
  ·refine aJ<|aM<|wA Z Z<|wm Z<|aA ?_;exact⟨A1,n1,c1,acc,i+1,⟨(dd),G,G,(by rw[BM G,bu (bAn G G (λh=>ka ⟨⟨h.1,h.2.1⟩,h.2.2⟩)),jo,bb])⟩,G,SA,λ_ h=>h⟩
 ·refine aZ<|wq<|wm Z<|wn Z<|aT [1] 99 cC Z ?_;refine⟨_,Z,?_⟩;rw[aPl G] at bb;subst bb;obtain rfl:=dd;exact⟨_,_,Z,Z⟩
end Go.Proofs.YtdbebmmhdefgdaaGreat
