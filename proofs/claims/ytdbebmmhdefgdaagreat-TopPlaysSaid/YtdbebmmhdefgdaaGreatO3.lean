/- Own work. -/
import Derived.Laws.CopyRow
import Derived.Laws.IdiomCopy
import Derived.Lib.BitFns
import Derived.Shelf.Small.Bits
import Derived.Test.YtdbebmmhdefgdaaGreatProg
import Derived.RangeFuncRecord
import Derived.RangeFuncSeq
import Derived.RangeFuncCalls
import Derived.RangeFuncKeeps
import Derived.RangeFuncBox
import Derived.RangeFuncNested
import Derived.Shelf.SlSortCmp.Kit1
import Derived.Shelf.Abstract
import Derived.WalkKit
import Derived.OwnWalkIn
import Derived.TacticsInMore
import Derived.LoopNIn
import Derived.LoopIn
import Derived.Ground.NamesProg
import Derived.Ground.Names2Prog
import Derived.Shelf.Sort.Plain
import Derived.Shelf.Slices.SearchI
import Derived.Shelf.Slices.In.SortNone
import Derived.Shelf.Slices.Empties
import Derived.Lib.SlKeysI
import Derived.Test.YtdbebmmhdefgdaaGreatO2
set_option linter.unusedVariables false
set_option linter.unusedSimpArgs false
set_option maxHeartbeats 8000000
namespace Go.Eng
open Go Go.RowKit Go.Pure
section
variable {P:Program} {n:Nd} {B:Nat} {w0:World} {L:Env} {R:List Row} {ty:TypeId}
theorem aRu {x y:Operand} {t u:TypeId} {p q:Int} (hx:ev L x=some (.int .u64 p)) (hy:ev L y=some (.int .u64 q)) (h:0<=p+q/\p+q<18446744073709551616):Yl P n B w0 (.binOp .add t x y u) ty L R (.int .u64 (p+q)):=by
 have:=aRv (P:=P) (n:=n) (B:=B) (w0:=w0) (R:=R) (ty:=ty) (t:=t) (u:=u) hx hy;rwa[jP h.1 h.2] at this
theorem bHc {x y:Operand} {t u:TypeId} {p q:Int} (hx:ev L x=some (.int .u64 p)) (hy:ev L y=some (.int .u64 q)) (h:0<=p-q/\p-q<18446744073709551616):Yl P n B w0 (.binOp .sub t x y u) ty L R (.int .u64 (p-q)):=by
 have:=bFd (P:=P) (n:=n) (B:=B) (w0:=w0) (R:=R) (ty:=ty) (t:=t) (u:=u) hx hy;rwa[jP h.1 h.2] at this
theorem tV {x y:Operand} {t u:TypeId} {p q:Int} (hx:ev L x=some (.int .u64 p)) (hy:ev L y=some (.int .u64 q)) (h:0<=p*q/\p*q<18446744073709551616):Yl P n B w0 (.binOp .mul t x y u) ty L R (.int .u64 (p*q)):=by
 have:=bFf (P:=P) (n:=n) (B:=B) (w0:=w0) (R:=R) (ty:=ty) (t:=t) (u:=u) hx hy;rwa[jP h.1 h.2] at this
theorem EO {x y:Operand} {t u:TypeId} {p q:Int} (hx:ev L x=some (.int .u64 p)) (hy:ev L y=some (.int .u64 q)) (h:0<=p/\p<18446744073709551616) (h0:0<q):Yl P n B w0 (.binOp .quo t x y u) ty L R (.int .u64 (p/q)):=by
 have:=bFe (P:=P) (n:=n) (B:=B) (w0:=w0) (R:=R) (ty:=ty) (t:=t) (u:=u) hx hy h.1 h0;have h1:p/q<=p:=Ie q h.1;have h2:0<=p/q:=Ew h.1 G;rwa[jP h2 G] at this
theorem gP {x:Operand} {s d:TypeId} {j:IntKind} {p:Int} {td:TypeDesc} (ee:P.underlying s=some td) (hd:P.underlying d=some (.int .u64)) (hx:ev L x=some (.int j p)) (h:0<=p/\p<18446744073709551616:=by omega):Yl P n B w0 (.convert s d x) ty L R (.int .u64 p):=by
 have:=mP (P:=P) (n:=n) (B:=B) (w0:=w0) (R:=R) (ty:=ty) ee hd hx;rwa[jP h.1 h.2] at this
theorem eQ {x:Operand} {s d:TypeId} {j:IntKind} {p:Int} {td:TypeDesc} (ee:P.underlying s=some td) (hd:P.underlying d=some (.int .u8)) (hx:ev L x=some (.int j p)):Yl P n B w0 (.convert s d x) ty L R (.int .u8 (p%256)):=by
 have:=mP (P:=P) (n:=n) (B:=B) (w0:=w0) (R:=R) (ty:=ty) ee hd hx;rwa[Cm] at this
theorem bHh {x y:Operand} {t u:TypeId} {p q:Int} (hx:ev L x=some (.int .u8 p)) (hy:ev L y=some (.int .u8 q)):Yl P n B w0 (.binOp .add t x y u) ty L R (.int .u8 ((p+q)%256)):=by
 have:=aRv (P:=P) (n:=n) (B:=B) (w0:=w0) (R:=R) (ty:=ty) (t:=t) (u:=u) hx hy;rwa[Cm] at this
theorem aSz (x m:Int) (h:0<=x*m/\x*m<18446744073709551616) (j:IntKind) (k:Nat) (hk:k<=64) (hm:(2:Int)^k=m) (w:World):(Op.shift .shl .u64 x j (k:Int)).run P w= .ok (.int .u64 (x*m)) w:=by
 have hn: ¬((k:Int)<0):=G
 have hb:min (k:Int).toNat (IntKind.bits .u64)=k:=by
  have:IntKind.bits .u64=64:=rfl;omega
 unfold Op.shift;simp only[hn,hb,xk,hm,jP h.1 h.2];rfl
theorem vE {x y:Operand} {t u:TypeId} {a m:Int} {j:IntKind} {k:Nat} (hx:ev L x=some (.int .u64 a)) (hy:ev L y=some (.int j (k:Int))) (hm:(2:Int)^k=m) (h:0<=a*m/\a*m<18446744073709551616) (hk:Nat.ble k 64=true):Yl P n B w0 (.binOp .shl t x y u) ty L R (.int .u64 (a*m)):=by
 intro a' w o ho _ hs _;simp[execOp,ho,hs.ev hx,hs.ev hy,binOp,eqGuard,aSz a m h j k (au hk) hm]
theorem oK {x y:Operand} {t u:TypeId} {a m:Int} {j:IntKind} {k:Nat} (hx:ev L x=some (.int .u64 a)) (hy:ev L y=some (.int j (k:Int))) (hm:(2:Int)^k=m) (h:0<=a/\a<18446744073709551616) (hk:Nat.ble k 64=true):Yl P n B w0 (.binOp .shr t x y u) ty L R (.int .u64 (a/m)):=by
 have:=bHd (P:=P) (n:=n) (B:=B) (w0:=w0) (R:=R) (ty:=ty) (t:=t) (u:=u) hx hy h.1 h.2 hk;rwa[hm] at this
theorem rM {p:Int} (h:0<=p/\p<18446744073709551616):(BitVec.ofInt 64 p).toNat=p.toNat:=by
 rw[zk];have e:((2^64:Nat):Int)=18446744073709551616:=rfl;rw[e,pz h.1 h.2]
theorem aNc (p:Int) (h:0<=p/\p<18446744073709551616) (k:Nat) (hk:k<=64) (m:Int) (hm:m=(2:Int)^k-1) (w:World):(Op.intBits .and .u64 p m).run P w= .ok (.int .u64 (p%2^k)) w:=by
 show Result.ok (Value.int .u64 (IntKind.u64.wrap ((BitVec.ofInt 64 p &&& BitVec.ofInt 64 m).toNat:Int))) w=_;have hp:(0:Int)<2^k:=Eo G
 have pv:(2:Int)^k<=2^64:=by
  have:(2:Nat)^k<=2^64:=Ev G hk
  exact_mod_cast this
 have e1:(BitVec.ofInt 64 m).toNat=2^k-1:=by
  rw[rM G,hm];have:((2:Int)^k)=((2^k:Nat):Int):=by norm_cast
  rw[this];omega
 rw[BitVec.toNat_and,rM h,e1,Ea]
 have e2:((p.toNat%2^k:Nat):Int)=p%2^k:=by
  rw[Ao,qf h.1]
  norm_cast
 rw[e2];have h1:0<=p%2^k:=ko _ G;have h2:p%2^k<2^k:=ja _ hp;rw[jP h1 G]
theorem JB {x y:Operand} {t u:TypeId} {p q m:Int} (k:Nat) (hx:ev L x=some (.int .u64 p)) (hy:ev L y=some (.int .u64 q)) (hm:(2:Int)^k=m) (hq:q=m-1) (h:0<=p/\p<18446744073709551616) (hk:Nat.ble k 64=true):Yl P n B w0 (.binOp .and t x y u) ty L R (.int .u64 (p%m)):=by
 subst hm;intro a w o ho _ hs _;simp[execOp,ho,binOp,eqGuard,hs.ev hx,hs.ev hy,aNc p h k (au hk) q hq]
theorem bIf: ∀n:Fin 256,(n.val|||128)=n.val%128+128:=by decide+kernel
theorem bBj (p:Int) (h:0<=p/\p<256) (w:World):(Op.intBits .or .u8 p 128).run P w= .ok (.int .u8 (p%128+128)) w:=by
 show Result.ok (Value.int .u8 (IntKind.u8.wrap ((BitVec.ofInt 8 p|||BitVec.ofInt 8 128).toNat:Int))) w=_
 have e1:(BitVec.ofInt 8 p).toNat=p.toNat:=by
  rw[zk];have e:((2^8:Nat):Int)=256:=rfl;rw[e,pz h.1 h.2]
 have e2:(BitVec.ofInt 8 128).toNat=128:=cC
 rw[Jj,e1,e2];have:=bIf ⟨p.toNat,G⟩;rw[show p.toNat|||128=p.toNat%128+128 from this,nN G G];rw[show((p.toNat%128+128:Nat):Int)=p%128+128 by omega]
theorem bKu {x y:Operand} {t u:TypeId} {p:Int} (hx:ev L x=some (.int .u8 p)) (hy:ev L y=some (.int .u8 128)) (h:0<=p/\p<256):Yl P n B w0 (.binOp .or t x y u) ty L R (.int .u8 (p%128+128)):=by
 intro a w o ho _ hs _;simp[execOp,ho,binOp,eqGuard,hs.ev hx,hs.ev hy,bBj p h]
theorem UY (p q:Int) (k:Nat) (m:Int) (hm:(2:Int)^k=m) (h:0<=p/\p*m+q<18446744073709551616) (hq:0<=q/\q<m) (w:World):(Op.intBits .or .u64 (p*m) q).run P w= .ok (.int .u64 (p*m+q)) w:=by
 show Result.ok (Value.int .u64 (IntKind.u64.wrap ((BitVec.ofInt 64 (p*m)|||BitVec.ofInt 64 q).toNat:Int))) w=_;have Zn:0<=p*m:=Am h.1 G;rw[Jj,rM G,rM G]
 have e1:(p*m).toNat=2^k*p.toNat:=by
  have:p*m=((2^k*p.toNat:Nat):Int):=by
   rw[Ba,qf h.1,Ey,<-hm,Dg];rfl
  rw[this,cz]
 have e2:q.toNat<2^k:=by
  have:((2^k:Nat):Int)=m:=by rw[<-hm,Ey];rfl
  omega
 rw[e1,<-Fw e2,<-e1];rw[show(((p*m).toNat+q.toNat:Nat):Int)=p*m+q by omega,jP G h.2]
theorem bKr {x y:Operand} {t u:TypeId} {p q m:Int} (k:Nat) (hx:ev L x=some (.int .u64 (p*m))) (hy:ev L y=some (.int .u64 q)) (hm:(2:Int)^k=m) (h:0<=p/\p*m+q<18446744073709551616) (hq:0<=q/\q<m):Yl P n B w0 (.binOp .or t x y u) ty L R (.int .u64 (p*m+q)):=by
 intro a w o ho _ hs _;simp[execOp,ho,binOp,eqGuard,hs.ev hx,hs.ev hy,UY p q k m hm h hq]
theorem bKs {x y:Operand} {t u:TypeId} {q m:Int} (k:Nat) (hx:ev L x=some (.int .u64 q)) (hy:ev L y=some (.int .u64 m)) (hm:(2:Int)^k=m) (h:m+q<18446744073709551616) (hq:0<=q/\q<m):Yl P n B w0 (.binOp .or t x y u) ty L R (.int .u64 (q+m)):=by
 intro a w o ho _ hs _;have e:=UY (P:=P) 1 q k m hm G hq w
 have e2:(Op.intBits .or .u64 q m).run P w= .ok (.int .u64 (q+m)) w:=by
  have c:Op.intBits .or .u64 q m=Op.intBits .or .u64 (1*m) q:=by
   rw[Int.one_mul];unfold Op.intBits;simp only[BitVec.or_comm]
  rw[c,e,Int.one_mul,Int.add_comm]
 simp[execOp,ho,binOp,eqGuard,hs.ev hx,hs.ev hy,e2]
theorem aSx (k0:IntKind) (x m:Int) (h0:0<=x) (j:IntKind) (k:Nat) (hk:k<=k0.bits) (hm:(2:Int)^k=m) (w:World):(Op.shift .shr k0 x j (k:Int)).run P w= .ok (.int k0 (x/m)) w:=by
 have hn: ¬((k:Int)<0):=G
 have hb:min (k:Int).toNat k0.bits=k:=G
 have he:Int.fdiv x m=x/m:=Bn _ (by rw[<-hm];exact vz G);unfold Op.shift;simp only[hn,hb,hm,he,xk];rfl
theorem yZ {x y:Operand} {t u:TypeId} {k0:IntKind} {a m:Int} {j:IntKind} {k:Nat} (hx:ev L x=some (.int k0 a)) (hy:ev L y=some (.int j (k:Int))) (hm:(2:Int)^k=m) (h:0<=a) (hk:Nat.ble k k0.bits=true):Yl P n B w0 (.binOp .shr t x y u) ty L R (.int k0 (a/m)):=by
 intro a' w o ho _ hs _;simp[execOp,ho,hs.ev hx,hs.ev hy,binOp,eqGuard,aSx k0 a m h j k (au hk) hm]
theorem IM {x y:Operand} {t e:TypeId} {z:Value} {bytes m c k c2:Nat} {A A2:AF} {l l2:AH} {kk:IntKind} (ht:P.underlying t=some (.slice e)) (dg:(P.info? e).map (λi=>(i.zero,i.size,i.bytes))=some (some z,1,bytes))
  (hx:ev L x=some (.slice A m c)) (hr:RdC B w0 R A m c 1 (ints kk l)) (hy:ev L y=some (.slice A2 k c2)) (j5:RdC B w0 R A2 k c2 1 (ints kk l2)) (h0:0<m) (h1:0<k) (hg:c<m+k) (hb:m+k<=1000000) (f7:Builtin.nextslicecap (m+k) c*bytes<=281474976710656) (hz:z.cells.size=1):
  Ac P n B w0 (.call {callee:= .builtin .append,args:= #[x,y],argTypes:= #[t,t]}) ty L R (λv R'=> ∃g c',v= .slice (some ⟨g,0,none⟩) (m+k) c'/\R'=⟨e,1,some ⟨g,0,none⟩,m+k,c',ints kk (l++l2),false⟩::R):=by
 intro a w o K Q ho _ hs hp hk;obtain⟨i0,hi,a8⟩:=il.1 dg;simp only[yt] at a8;obtain⟨wt,i5,Ix⟩:=a8;have ha:=hr w hp;have i8:=j5 w hp;have zj:(ints kk l).length=m:=by have:=ha.len;omega
 have un:(ints kk l2).length=k:=by have:=i8.len;omega
 obtain⟨ad,rfl,_⟩:=ha.at_ 0 (ints kk l)[0] (by rw[av G]);obtain⟨ae,rfl,_⟩:=i8.at_ 0 (ints kk l2)[0] (by rw[av G])
 have mw:=run_append_grow (P:=P) (w:=w) t o.type e i0 z ht hi wt ad m c (ints kk l) (by rw[zj,i5];omega) (λj v hv=>by
   obtain⟨a',oe,hc⟩:=ha.at_ j v hv;obtain rfl:=jc oe
   exact hc) ae k c2 (ints kk l2) (by rw[un,i5];omega) (λj v hv=>by
   obtain⟨a',oe,hc⟩:=i8.at_ j v hv;obtain rfl:=jc oe
   exact hc) hg G (by rw[Ix];exact f7)
 unfold Oper.wp;simp only[execOp,ho,resolve,invoke,builtin,kg,ny,jw,uj,lm,si,hs.ev hx,hs.ev hy,mw,Oper.upon];have Fl:=grownCap_ge w (m+k) c e;have pv:=Gt w (m+k) c e (by unfold maxLen;omega)
 have lf:((ints kk l).toArray++(ints kk l2).toArray++Builtin.zeroCells z.cells (grownCap w (m+k) c e-(m+k))).size=m+k+(Builtin.zeroCells z.cells (grownCap w (m+k) c e-(m+k))).size:=by
  simp only[Array.size_append,ql,zj,un]
 have hzs:z.cells.size=1->(Builtin.zeroCells z.cells (grownCap w (m+k) c e-(m+k))).size=grownCap w (m+k) c e-(m+k):=λh=>by
  simp[Builtin.zeroCells,h]
 have hsz:((ints kk l).toArray++(ints kk l2).toArray++Builtin.zeroCells z.cells (grownCap w (m+k) c e-(m+k))).size=grownCap w (m+k) c e:=by rw[lf,hzs hz];omega
 have ph:=(hp.drawn (w.drawn+1) G).newC ((ints kk l).toArray++(ints kk l2).toArray++Builtin.zeroCells z.cells (grownCap w (m+k) c e-(m+k))) e (m+k) (by rw[hsz];exact Fl) (by rw[hsz];exact pv)
 have w9:((ints kk l).toArray++(ints kk l2).toArray++Builtin.zeroCells z.cells (grownCap w (m+k) c e-(m+k))).toList.take (m+k)=ints kk (l++l2):=by
  rw[vg,vg];show(ints kk l++ints kk l2++_).take (m+k)=_;rw[Fb (by rw[ah,zj,un])];simp[ints]
 rw[w9,hsz] at ph;exact hk _ _ _ ph ⟨_,_,rfl,rfl⟩
end
end Go.Eng
namespace Go.Eng
open Go Go.RowKit
section
variable {P:Program} {n:Nd} {B:Nat} {w0:World} {L:Env} {R:List Row} {ty:TypeId}
theorem aCr {g lo c:Nat} (h:lo<c):jE (some ⟨g,0,none⟩) lo c 1=some ⟨g,lo,none⟩:=by
 unfold jE;rw[bz G,qy,ky];unfold Addr.add;split<;>simp_all
theorem XI {x y:Operand} {t t2 e:TypeId} {p:AF} {lo dl dc m c m2 c2:Nat} {A A2:AF} {k:IntKind} {l src:AH} (i:Nat) (hi:R[i]? =some ⟨e,1,A,m,c,ints k l,false⟩) (ht:P.underlying t=some (.slice e)) (gs:(P.info? e).map (·.size)=some 1)
  (hx:ev L x=some (.slice p dl dc)) (hy:ev L y=some (.slice A2 m2 c2)) (hp:p=jE A lo c 1) (hdl:dl=m-lo) (w6:lo<m) (jj:RdC B w0 R A2 m2 c2 1 (ints k src)):
  Ac P n B w0 (.call {callee:= .builtin .copy,args:= #[x,y],argTypes:= #[t,t2]}) ty L R (λv R'=>v= .int .i64 ((min m2 (m-lo):Nat):Int)/\R'=R.set i ⟨e,1,A,m,c,ints k (l.take lo++src.take (min m2 (m-lo))++l.drop (lo+min m2 (m-lo))),false⟩):=by
 intro a w o K Q ho k9 hs hw hk;have ge:=Row.lies_w (hw.own _ (fw hi)) rfl;have j5:=jj w hw;have Qk:m2=src.length:=j5.lenI;have hl:m=l.length:=by have:=ge.1;rw[cZ] at this;simp only at this;omega
 rcases ge.2 with⟨_,hn⟩|⟨g,cap,cur,hv,hb,hg,hnc,tk,lf,w9⟩
 ·simp only at hn;omega
 simp only[ku,Ag] at hv;obtain⟨rfl,rfl⟩:=hv;simp only at w9 lf hnc hg hb;rw[qy] at w9 lf;have cm:p=some ⟨g,lo,none⟩:=by rw[hp];exact aCr G
 subst cm;subst hdl;obtain⟨q,hq⟩: ∃q,min m2 (m-lo)=q:=⟨_,rfl⟩;rw[hq] at hk;have Po:Nat.min m2 (m-lo)=q:=hq;have mj:(ints k (src.take q)).length=q:=by rw[cZ,ax];omega
 have hlen:(ints k l).length=m:=by rw[cZ];omega
 rcases ed m2 with hz|fg
 ·have kj:q=0:=G
  have mw:=run_copy_none (P:=P) w t t2 o.type e (some ⟨g,lo,none⟩) A2 (m-lo) dc m2 c2 ht gs (by rw[hz];exact Nat.zero_min _);unfold Oper.wp execOp;simp only[ho,resolve,invoke,builtin,kg,ny,jw,uj,lm,si,hs.ev hx,hs.ev hy,mw,Oper.upon];refine hk (.int .i64 ((0:Nat):Int)) w R hw ⟨by rw[kj],?_⟩;rw[kj];simp only[yc,jk,qo,gu]
  exact(by
   apply uo;intro j;rw[xx];split
   ·rename_i e;subst e;rw[df (dw.1 hi).1,hi]
   ·rfl)
 ·obtain ⟨a2,rfl⟩: ∃a2,A2=some a2:=by
   obtain⟨a2,h,_⟩:=j5.at_ 0 _ (av (by rw[cZ];omega));exact⟨a2,h⟩
  have mw:=run_copy_row P w t t2 o.type e g lo (m-lo) dc a2 m2 c2 cur e (ints k (src.take q)) ht gs hg (by rw[mj];exact hq.symm) (λj v hv=>by
   obtain⟨b,h1,h2⟩:=j5.at_ j v (by
    rw[ints,Ch] at hv;rw[og] at hv;split at hv
    ·exact hv
    ·cases hv)
   obtain rfl:=jc h1
   exact h2) (by rw[mj,lf];omega) (DI k _)
  rw[mj] at mw;unfold Oper.wp execOp;simp only[ho,resolve,invoke,builtin,kg,ny,jw,uj,lm,si,hs.ev hx,hs.ev hy,mw,Oper.upon];refine hk (.int .i64 (q:Int)) _ _ ?_ ⟨rfl,rfl⟩;refine hw.upd hi (row:=some g) ⟨rfl,rfl,rfl,cD,λj _ hj=>Ji w g j _ (λe=>hj (by simp[e]))⟩ (di _) (λj hj=>by cases hj;exact⟨_,rfl,rfl⟩) ?_ (λa' oe=> .inl ⟨a',oe,rfl⟩);unfold Row.lies;simp only;refine⟨?_, .inr ⟨g,c,_,rfl,hb,Ki w g cur _ e _ hg,hnc,tk,?_,?_⟩⟩
  ·simp only[cZ,ah,ax,az];omega
  ·simp only[ql,ah,ax,az,jr,cZ];omega
  ·simp only[qy];rw[pF,pF]
   have e1:ints k (l.take lo)=cur.toList.take lo:=by
    rw[ints,Ch];show(ints k l).take lo=_;rw[<-w9,List.take_take,za G]
   have e2:ints k (l.drop (lo+q))=(cur.toList.drop (lo+q)).take (m-(lo+q)):=by
    rw[ints,Hu];show(ints k l).drop (lo+q)=_;rw[<-w9,List.drop_take]
   rw[e1,e2]
   have h1:(cur.toList.take lo++ints k (src.take q)).length=lo+q:=by
    rw[ah,mj,ax,jr];omega
   rw[List.take_append,h1,bg G]
theorem aYs {A:AF} {c:Nat}:A=jE A 0 c 1:=by
 unfold jE;split
 ·rfl
 ·cases A with
  |none=>rfl
  |some a=>simp[Addr.add]
def BV (v:Int) (p N:Nat):AH:=List.replicate p v++List.replicate (N-p) 0
theorem aNl (v:Int) (N:Nat):BV v 0 N=List.replicate N 0:=by simp[BV]
theorem aTt (v:Int) (N:Nat):BV v N N=List.replicate N v:=by simp[BV]
theorem SB {v:Int} {p N:Nat}:(BV v p N).take p=List.replicate p v:=by simp[BV]
theorem SC {v:Int} {p q N:Nat} {src:AH} (h:p+q<=N) (hs:src=List.replicate q v):(BV v p N).take p++src++(BV v p N).drop (p+q)=BV v (p+q) N:=by
 subst hs;rw[SB];unfold BV;rw[List.drop_append];simp only[bu,List.drop_replicate,show p-(p+q)=0 by omega,List.replicate_zero,je,Dx];congr 2;omega
end
end Go.Eng
namespace Go.Proofs.YtdbebmmhdefgdaaGreat
open Go Go.Eng Go.Pure
open Tryz
set_option maxRecDepth 100000
variable {w:World} {x0 x n:Int}
theorem bCd (hv:0<=x0/\x0<18446744073709551616):
  CF 69 #[.int .u64 x0] w (λv R'=> ∃A c,v=sl A ((bL x0).length) c/\R'=[(ru 5 A ((bL x0).length) c (bL x0))]):=by
 refine fn1 Tryz.func69 Z Z Z ?_;have hlen:=dV 9 x0 G;refine wq<|wn Z<|wq<|dB (R1:=[(ru 5 none 0 0 ([]))]) (Sub.refl _) (λ_ h=>h.nil 5 1)<|wn Z<|aC<|aH ?_;refine fK (λ(A1:AF) (n1:Nat) (c1:Nat) (acc:AH) (x:Int)=>[(0, .int .u64 x),(3,sl A1 n1 c1)]) (λA1 n1 c1 acc x=>[(ru 5 A1 n1 c1 acc)]) (λA1 n1 c1 acc x=>(n1=acc.length)/\(0<=x/\x<18446744073709551616)/\(bL x0=acc++bL x)) (λA1 n1 c1 acc x=>x.toNat) ?_ ?_
 ·exact⟨none,0,0,[],x0,⟨(Z),G,(Z)⟩,KP⟩
 intro A1 n1 c1 acc x ⟨cv,Uj,hT⟩;have ua:=bq List.length hT;rw[ah] at ua;refine aC<|wq<|wm Z<|wy (iA Z Z)<|aA<|bA Z (λaq=> ?_) (λaq=> ?_)
 ·refine aI<|aH<|wq<|wm Z<|wm Z<|wy (eQ dx ay Z)<|wy (bKu Z Z G)<|wa (bH .u8 [(x%256)%128+128] af zs5 Z Z Z) ?_;rintro _ _⟨bx,rfl,rfl⟩;refine wa (aS 1 Z af zb5 Z Z Z (rdr 0 Z)) ?_;rintro _ _⟨fi,fj,rfl,rfl⟩;refine bF (v:=sl fi (n1+1) fj) Z<|wn Z<|aL<|wm Z<|wy (oK (k:=7) (m:=128) Z Z Z G Z)<|wn Z ?_;exact⟨fi,n1+1,fj,acc++([(x%256)%128+128]),x/128,⟨(by rw[ah,cv];try rfl),G,(SG hT G G G)⟩,G,SA,λ_ h=>h.sel [1] cC Z⟩
 ·refine aU<|wq<|wm Z<|wm Z<|wy (eQ dx ay Z)<|wa (bH .u8 [x%256] af zs5 Z Z Z) ?_;rintro _ _⟨ki,rfl,rfl⟩;refine wa (aS 1 Z af zb5 Z Z Z (rdr 0 Z)) ?_;rintro _ _⟨fc,dv,rfl,rfl⟩;refine bF (v:=sl fc (n1+1) dv) Z<|wn Z<|aQ [1] 99 cC Z ?_;refine⟨_,Z,?_⟩;have e:acc++[x%256]=bL x0:=by rw[hT,jU G,pz G G]
  have e2:n1+1=(bL x0).length:=by rw[<-e,ah,cv];rfl
  rw[e,e2];exact⟨_,_,Z,Z⟩
theorem aTb (hv:0<=x0/\x0<18446744073709551616):
  CF 79 #[.int .u64 x0] w (λv R'=> ∃A c,v=sl A ((bL x0).length) c/\R'=[(ru 5 A ((bL x0).length) c (bL x0))]):=by
 refine fn1 Tryz.func79 Z Z Z ?_;have hlen:=dV 9 x0 G;refine wq<|wn Z<|wq<|dB (R1:=[(ru 5 none 0 0 ([]))]) (Sub.refl _) (λ_ h=>h.nil 5 1)<|wn Z<|aC<|aH ?_;refine fK (λ(A1:AF) (n1:Nat) (c1:Nat) (acc:AH) (x:Int)=>[(0, .int .u64 x),(3,sl A1 n1 c1)]) (λA1 n1 c1 acc x=>[(ru 5 A1 n1 c1 acc)]) (λA1 n1 c1 acc x=>(n1=acc.length)/\(0<=x/\x<18446744073709551616)/\(bL x0=acc++bL x)) (λA1 n1 c1 acc x=>x.toNat) ?_ ?_
 ·exact⟨none,0,0,[],x0,⟨(Z),G,(Z)⟩,KP⟩
 intro A1 n1 c1 acc x ⟨cv,Uj,hT⟩;have ua:=bq List.length hT;rw[ah] at ua;refine aC<|wq<|wm Z<|wy (iA Z Z)<|aA<|bA Z (λaq=> ?_) (λaq=> ?_)
 ·refine aI<|aH<|wq<|wm Z<|wm Z<|wy (JB (m:=128) 7 Z Z Z Z G Z)<|wy (bKs (m:=128) 7 Z Z Z G G)<|wy (eQ dx ay Z)<|wa (bH .u8 [((x%128)+128)%256] af zs5 Z Z Z) ?_;rintro _ _⟨bx,rfl,rfl⟩;refine wa (aS 1 Z af zb5 Z Z Z (rdr 0 Z)) ?_;rintro _ _⟨fi,fj,rfl,rfl⟩;refine bF (v:=sl fi (n1+1) fj) Z<|wn Z<|aL<|wm Z<|wy (oK (k:=7) (m:=128) Z Z Z G Z)<|wn Z ?_;exact⟨fi,n1+1,fj,acc++([((x%128)+128)%256]),x/128,⟨(by rw[ah,cv];try rfl),G,(SG hT G G G)⟩,G,SA,λ_ h=>h.sel [1] cC Z⟩
 ·refine aU<|wq<|wm Z<|wm Z<|wy (eQ dx ay Z)<|wa (bH .u8 [x%256] af zs5 Z Z Z) ?_;rintro _ _⟨ki,rfl,rfl⟩;refine wa (aS 1 Z af zb5 Z Z Z (rdr 0 Z)) ?_;rintro _ _⟨fc,dv,rfl,rfl⟩;refine bF (v:=sl fc (n1+1) dv) Z<|wn Z<|aQ [1] 99 cC Z ?_;refine⟨_,Z,?_⟩;have e:acc++[x%256]=bL x0:=by rw[hT,jU G,pz G G]
  have e2:n1+1=(bL x0).length:=by rw[<-e,ah,cv];rfl
  rw[e,e2];exact⟨_,_,Z,Z⟩
theorem NL (hx:0<=x/\x<4294967296):
  CF 76 #[.int .u32 x] w (λv R'=> ∃A c,v=sl A 4 c/\R'=[(ru 5 A 4 c (fP x))]):=by
 refine fn1 Tryz.func76 Z Z Z ?_;refine wq<|wn Z<|wq<|wa (dD af zb5 Z Z) ?_;rintro _ _⟨am,rfl,rfl⟩;refine bF (v:=sl (GG am) 4 4) Z<|wn Z<|aC<|wq<|wm Z<|wy (aN af Z)<|wm Z<|aA<|aH<|mR 5<|dY<|wq ?_;refine wy (Yl.t (eD Z Z) cC)<|aA<|aC<|bE Z<|aI<|aC<|aH<|wq<|wm Z<|wn Z<|aL<|wm Z<|wm Z ?_;refine wm Z<|wm Z<|wy (Yl.is (iZ Z Z) Z)<|wy (yZ (k:=0) (m:=1) Z Z Z G Z)<|wy (eQ qw ay Z)<|wy (aG af sz5 Z Z (rdr 0 Z))<|bV (bD 0 Z sz5 Z Z) ?_;rintro _ _ rfl;refine aA<|aL<|wy (Yl.is (bX Z Z) Z)<|wm Z<|aA<|dY<|wq<|wy (Yl.t (eD Z Z) cC)<|aA<|aC<|bE Z<|aI<|aC<|aH ?_;refine wq<|wm Z<|wn Z<|aL<|wm Z<|wm Z<|wm Z<|wm Z<|wy (Yl.is (iZ Z Z) Z)<|wy (yZ (k:=8) (m:=256) Z Z Z G Z)<|wy (eQ qw ay Z)<|wy (aG af sz5 Z Z (rdr 0 Z))<|bV (bD 0 Z sz5 Z Z) ?_;rintro _ _ rfl;refine aA<|aL<|wy (Yl.is (bX Z Z) Z)<|wm Z<|aA<|dY<|wq<|wy (Yl.t (eD Z Z) cC)<|aA<|aC<|bE Z<|aI<|aC<|aH ?_;refine wq<|wm Z<|wn Z<|aL<|wm Z<|wm Z<|wm Z<|wm Z<|wy (Yl.is (iZ Z Z) Z)<|wy (yZ (k:=16) (m:=65536) Z Z Z G Z)<|wy (eQ qw ay Z)<|wy (aG af sz5 Z Z (rdr 0 Z))<|bV (bD 0 Z sz5 Z Z) ?_;rintro _ _ rfl;refine aA<|aL<|wy (Yl.is (bX Z Z) Z)<|wm Z<|aA<|dY<|wq<|wy (Yl.t (eD Z Z) cC)<|aA<|aC<|bE Z<|aI<|aC<|aH ?_;refine wq<|wm Z<|wn Z<|aL<|wm Z<|wm Z<|wm Z<|wm Z<|wy (Yl.is (iZ Z Z) Z)<|wy (yZ (k:=24) (m:=16777216) Z Z Z G Z)<|wy (eQ qw ay Z)<|wy (aG af sz5 Z Z (rdr 0 Z))<|bV (bD 0 Z sz5 Z Z) ?_;rintro _ _ rfl;refine aA<|aL<|wy (Yl.is (bX Z Z) Z)<|wm Z<|aA<|dY<|wq<|wy (Yl.f (eD Z Z) cC)<|aA<|aC<|aJ Z<|aU<|wq ?_;refine wm Z<|wn Z<|aQ [0] 99 cC Z ?_;exact⟨_,Z,_,_,Z,Z⟩
theorem aNj (hx:0<=x/\x<4294967296):
  CF 141 #[.int .u32 x] w (λv R'=> ∃A c,v=sl A 4 c/\R'=[(ru 5 A 4 c (fP x))]):=by
 refine fn1 Tryz.func141 Z Z Z ?_;refine wq<|wn Z<|wq<|wm Z<|wy (eQ qw ay Z)<|wm Z<|wy (yZ (k:=8) (m:=256) Z Z Z G Z)<|wy (eQ qw ay Z)<|wm Z<|wy (yZ (k:=16) (m:=65536) Z Z Z G Z)<|wy (eQ qw ay Z)<|wm Z ?_;refine wy (yZ (k:=24) (m:=16777216) Z Z Z G Z)<|wy (eQ qw ay Z)<|wa (bH .u8 [x%256,(x/256)%256,(x/65536)%256,(x/16777216)%256] af zs5 Z Z Z) ?_;rintro _ _⟨bx,rfl,rfl⟩;refine wn Z<|aQ [0] 99 cC Z ?_;refine⟨_,Z,?_⟩;unfold fP;rw[Int.ediv_one];exact⟨_,_,Z,Z⟩
theorem lJ (hv:0<=n/\n<9223372036854775808):
  CF 37 #[I n] w (λv R'=> ∃A c,v=sl A ((bL n).length) c/\R'=[(ru 5 A ((bL n).length) c (bL n))]):=by
 refine fn1 Tryz.func37 Z Z Z ?_;refine wq<|wn Z<|wq<|wm Z<|wy (gP ai dx Z)<|wa (aD bQw Z (Ct.fresh (λw hw=>bCd G))) ?_;rintro _ _⟨_,rfl,bm,bl,rfl,rfl⟩;refine wn Z<|aQ [0] 99 cC Z ?_;exact⟨_,Z,_,_,Z,Z⟩
theorem mW (hv:0<=n/\n<9223372036854775808):
  CF 43 #[I n] w (λv R'=> ∃A c,v=sl A ((bL n).length) c/\R'=[(ru 5 A ((bL n).length) c (bL n))]):=by
 refine fn1 Tryz.func43 Z Z Z ?_;refine wq<|wn Z<|wq<|wm Z<|wy (gP ai dx Z)<|wa (aD bQr Z (Ct.fresh (λw hw=>aTb G))) ?_;rintro _ _⟨_,rfl,bm,bl,rfl,rfl⟩;refine wn Z<|aQ [0] 99 cC Z ?_;exact⟨_,Z,_,_,Z,Z⟩
end Go.Proofs.YtdbebmmhdefgdaaGreat
namespace Go.Pure
open Go Go.Eng
variable {v:Int} {b:AH} {k:Nat}
def iM:AH->Int
 |[]=>0
 |d::l=>d%128+128*iM l
theorem vK: ∀l:AH,0<=iM l
 |[]=>lq _
 |d::l=>by have:=vK l;rw[iM];omega
def aDz:AH->Prop
 |[]=>False
 |d::l=>(l=[]/\0<=d/\d<128)\/(128<=d/\d<256/\aDz l/\0<iM l)
theorem UO: ∀(k:Nat) (v:Int),v.toNat<=k->0<=v->iM (bL v)=v/\aDz (bL v)
 |0,v,h,h0=>by
  rw[jU G];exact⟨by rw[iM,iM];omega, .inl ⟨rfl,G,G⟩⟩
 | k+1,v,h,h0=>by
  by_cases z:v<128
  ·rw [jU z];exact⟨by rw[iM,iM];omega, .inl ⟨rfl,G,G⟩⟩
  ·rw [sO G];obtain⟨h1,h2⟩:=UO k (v/128) G G;exact⟨by rw[iM,h1];omega, .inr ⟨G,G,h2,by rw[h1];omega⟩⟩
theorem KQ (h:0<=v):iM (bL v)=v:=(UO _ v (di _) h).1
theorem VQ (h:0<=v):aDz (bL v):=(UO _ v (di _) h).2
theorem aJx: ∀l:AH,aDz l->bL (iM l)=l
 |[],h=>h.elim
 | d::l,h=>by
  rcases h with⟨rfl,h0,h1⟩|⟨h0,h1,h2,h3⟩
  ·rw [iM,iM,jU G];congr 1;omega
  ·rw [iM,sO G];have e1:(d%128+128*iM l)%128+128=d:=G
   have e2:(d%128+128*iM l)/128=iM l:=G
   rw[e1,e2,aJx l h2]
theorem aKx: ∀l m s t:AH,aDz l->aDz m->l++s=m++t->l=m
 |[],_,_,_,h,_,_=>h.elim
 |_::_,[],_,_,_,h,_=>h.elim
 |d::l,e::m,s,t,h,g,q=>by
  rw[jh,jh] at q;obtain⟨rfl,q2⟩:=List.cons.inj q;rcases h with⟨rfl,h0,h1⟩|⟨h0,h1,h2,h3⟩<;>rcases g with⟨rfl,g0,g1⟩|⟨g0,g1,g2,g3⟩
  ·rfl
  ·omega
  ·omega
  ·rw[aKx l m s t h2 g2 q2]
def vC (b:AH) (v:Int) (k:Nat):Prop:=(0<=v/\v<18446744073709551616)/\k=(bL v).length/\ ∃t,b=bL v++t
theorem vC.one {w:Int} {m:Nat} (h:vC b v k) (g:vC b w m):v=w/\k=m:=by
 obtain⟨h1,rfl,s,hs⟩:=h;obtain⟨g1,rfl,t,ht⟩:=g;have e:=aKx _ _ s t (VQ h1.1) (VQ g1.1) (hs.symm.trans ht);have e2:=bq iM e;rw[KQ h1.1,KQ g1.1] at e2;subst e2;exact⟨rfl,rfl⟩
theorem vC.drop (h:vC b v k):b=bL v++b.drop k:=by
 obtain⟨_,rfl,t,rfl⟩:=h;rw[Gh]
theorem vC.of (h:0<=v/\v<18446744073709551616) (t:AH):vC (bL v++t) v (bL v).length:=⟨h,rfl,t,rfl⟩
def iT (b:AH):Int:=if b.findIdx (λx=>decide (x<128))<b.length then(b.findIdx (λx=>decide (x<128)):Nat) else -1
theorem bDy {i:Int} (i0:0<=i) (hi:i<b.length) (h:rd b i<128) (hn: ∀j:Int,0<=j->j<i-> ¬rd b j<128):iT b=i:=by
 have e:b.findIdx (λx=>decide (x<128))=i.toNat:=by
  rw[List.findIdx_eq G];refine⟨by rw[fI i0 hi] at h;simpa using h,λj hj=> ?_⟩;have:=hn j G G;rw[fI G G] at this;simpa using this
 unfold iT;rw[e,df G];omega
theorem aPu (hn: ∀j:Int,0<=j->j<b.length-> ¬rd b j<128):iT b= -1:=by
 unfold iT;rw[bz];intro h;have hp:=Ep (w:=h);have:=hn (b.findIdx λx=>decide (x<128):Nat) G G;rw[fI G G] at this;simp only[cz] at this;simp only[yx] at hp;exact this hp
variable {b:AH} {d V:Int} {e:Nat}
theorem aXc: ∀(e:Nat) (b:AH),aP b->e<b.length->(∀j:Nat,j<e->128<=rd b j)->rd b (e:Int)<128->(e=0\/rd b (e:Int)≠0)->aDz (b.take (e+1))/\(rd b (e:Int)≠0->0<iM (b.take (e+1)))
 |0,d::b,hb,h,_,h1,_=>by
  have hd:=hb d cD;have e0:rd (d::b) ((0:Nat):Int)=d:=rfl;rw[e0] at h1 ⊢;refine⟨.inl ⟨rfl,hd.1,h1⟩,λfd=> ?_⟩;show 0<d%128+128*iM [];rw[iM];omega
 | e+1,d::b,hb,h,hn,h1,h2=>by
  have hd:=hb d cD;have Fd:128<=d:=hn 0 G
  have er: ∀j:Nat,rd (d::b) ((j+1:Nat):Int)=rd b (j:Int):=λj=>by
   unfold rd;rw[show((j+1:Nat):Int).toNat=j+1 by omega,cz];rfl
  rw[er] at h1 h2 ⊢;have hz:rd b (e:Int)≠0:=h2.resolve_left G;have ih:=aXc e b (λx hx=>hb x (fe _ hx)) (by rw[dh] at h;omega) (λj hj=>by have:=hn (j+1) G;rwa[er] at this) h1 (.inr hz);refine⟨.inr ⟨Fd,hd.2,ih.1,ih.2 hz⟩,λ_=> ?_⟩;show 0<d%128+128*iM (b.take (e+1));have:=ih.2 hz;omega
 |0,[],_,h,_,_,_=>by simp at h
 |_+1,[],_,h,_,_,_=>by simp at h
theorem KO: ∀(e:Nat) (b:AH),aP b->e<b.length->rd b (e:Int)<128->rd b (e:Int)*128^e<=iM (b.take (e+1))/\iM (b.take (e+1))<(rd b (e:Int)+1)*128^e
 |0,d::b,hb,h,h1=>by
  have hd:=hb d cD;have e0:rd (d::b) ((0:Nat):Int)=d:=rfl;rw[e0] at h1 ⊢;show d*128^0<=d%128+128*iM []/\d%128+128*iM []<(d+1)*128^0;rw[iM,uz];omega
 | e+1,d::b,hb,h,h1=>by
  have er:rd (d::b) ((e+1:Nat):Int)=rd b (e:Int):=by
   unfold rd;rw[show((e+1:Nat):Int).toNat=e+1 by omega,cz];rfl
  rw[er] at h1 ⊢;have ih:=KO e b (λx hx=>hb x (fe _ hx)) (by rw[dh] at h;omega) h1;show rd b (e:Int)*128^(e+1)<=d%128+128*iM (b.take (e+1))/\d%128+128*iM (b.take (e+1))<(rd b (e:Int)+1)*128^(e+1);rw[wh,<-su,<-su];omega
 |0,[],_,h,_=>by simp at h
 |_+1,[],_,h,_=>by simp at h
theorem zU (h:0<=iT b):iT b<b.length/\rd b (iT b)<128/\ ∀j:Int,0<=j->j<iT b-> ¬rd b j<128:=by
 have bc:b.findIdx (λx=>decide (x<128))<b.length:=by
  unfold iT at h;split at h
  ·assumption
  ·omega
 have e:iT b=(b.findIdx (λx=>decide (x<128)):Nat):=by unfold iT;rw[df bc]
 have hp:=Ep (w:=bc);refine⟨G,?_,λj j0 hj=> ?_⟩
 ·rw [e,fI G G];simpa using hp
 ·have:=Dn (xs:=b) (p:=λx=>decide (x<128)) (i:=j.toNat) G;rw[fI j0 G];simpa using this
theorem aRd: ∀n:Fin 256,n.val<2^Lib.bitLen n.val/\(n.val≠0->2^(Lib.bitLen n.val-1)<=n.val/\1<=Lib.bitLen n.val)/\(n.val=0->Lib.bitLen n.val=0):=by decide+kernel
theorem aLt (h0:0<=d) (h1:d<256):d+1<=(2:Int)^Lib.bitLen d.toNat/\(d≠0->(2:Int)^(Lib.bitLen d.toNat-1)<=d/\1<=Lib.bitLen d.toNat)/\(d=0->Lib.bitLen d.toNat=0):=by
 obtain⟨a,b,c⟩:=aRd ⟨d.toNat,G⟩;have e: ∀k:Nat,(2:Int)^k=((2^k:Nat):Int):=λk=>by norm_cast
 refine⟨by rw[e];simp only at a;omega,λh=> ?_,λh=>c (by simp only;omega)⟩;have:=b (by simp only;omega);rw[e];simp only at this;omega
theorem bCh (e:Nat):(128:Int)^e=2^(7*e):=by
 rw[Int.pow_mul];rfl
theorem aWr (h0:0<=d) (h1:d<256) (hV:V<(d+1)*128^e) (h:7*e+Lib.bitLen d.toNat<=64):V<18446744073709551616:=by
 have hb:=(aLt h0 h1).1;have hp:(0:Int)<=128^e:=vz G;have h2:(d+1)*128^e<=2^Lib.bitLen d.toNat*128^e:=nz hb hp;rw[bCh,<-zy] at h2
 have h3:(2:Int)^(Lib.bitLen d.toNat+7*e)<=2^64:=by
  have:(2:Nat)^(Lib.bitLen d.toNat+7*e)<=2^64:=Ev G G
  exact_mod_cast this
 rw[bCh] at hV;have:(2:Int)^64=18446744073709551616:=rfl;omega
theorem bDr (h0:0<=d) (h1:d<256) (he:e<=9) (hV:d*128^e<=V) (h:64<7*e+Lib.bitLen d.toNat):18446744073709551616<=V:=by
 obtain⟨_,hb,hz⟩:=aLt h0 h1;have hd:d≠0:=λc=>by have:=hz c;omega
 obtain⟨h2,h3⟩:=hb hd;have hp:(0:Int)<=128^e:=vz G;have h4:2^(Lib.bitLen d.toNat-1)*128^e<=d*128^e:=nz h2 hp;rw[bCh,<-zy] at h4
 have h5:(2:Int)^64<=2^(Lib.bitLen d.toNat-1+7*e):=by
  have:(2:Nat)^64<=2^(Lib.bitLen d.toNat-1+7*e):=Ev G G
  exact_mod_cast this
 rw[bCh] at hV;have:(2:Int)^64=18446744073709551616:=rfl;omega
theorem bDq (hb:aP b) (he:iT b=(e:Int)) (h0:e=0\/rd b (e:Int)≠0) (h7:7*e+Lib.bitLen (rd b (e:Int)).toNat<=64):vC b (iM (b.take (e+1))) (e+1):=by
 obtain⟨f1,f2,f3⟩:=zU (b:=b) G;rw[he] at f1 f2 f3;have hd:=hb.rd (e:Int);have h1:=(aXc e b hb G (λj hj=>by have:=f3 j G G;omega) f2 h0).1;have h2:=KO e b hb G f2;have h3:=aJx _ h1;refine⟨⟨vK _,aWr hd.1 hd.2 h2.2 h7⟩,?_,b.drop (e+1),?_⟩
 ·rw[h3,ax];omega
 ·rw[h3,gu]
theorem aKy: ∀l t:AH,aDz l->(l++t).findIdx (λx=>decide (x<128))=l.length-1/\0<l.length/\(l.length=1\/rd (l++t) ((l.length-1:Nat):Int)≠0)
 |[],_,h=>h.elim
 | d ::l,t,h=>by
  rcases h with⟨rfl,h0,h1⟩|⟨h0,h1,h2,h3⟩
  ·refine ⟨?_,cD, .inl rfl⟩;rw[jh,List.findIdx_cons,show decide (d<128)=true from mh h1];rfl
  ·obtain ⟨i1,i2,i3⟩:=aKy l t h2;refine⟨?_,cD, .inr ?_⟩
   ·rw [jh,List.findIdx_cons,show decide (d<128)=false from mr G,i1];simp only[dh,cond_false];omega
   ·have er:rd (d::(l++t)) (((l.length-1)+1:Nat):Int)=rd (l++t) ((l.length-1:Nat):Int):=by
     unfold rd;rw[show(((l.length-1)+1:Nat):Int).toNat=(l.length-1)+1 by omega,cz];rfl
    rw[jh,dh,show l.length+1-1=(l.length-1)+1 by omega,er];rcases i3 with i3|i3
    ·intro hz
     match l,i3,h2,h3,hz with
     |[x],_,h2,h3,hz=>
      rw[iM,iM] at h3;have:x=0:=hz;omega
    ·exact i3
theorem aWq (hb:aP b) (h:iT b<0\/9<iT b\/(0<iT b/\rd b (iT b)=0)\/64<7*(iT b).toNat+Lib.bitLen (rd b (iT b)).toNat): ¬ ∃v k,vC b v k:=by
 rintro⟨v,k,⟨Uj,Uk⟩,rfl,t,ht⟩;have hE:=VQ Uj;obtain⟨i1,i2,i3⟩:=aKy _ t hE;rw[<-ht] at i1 i3;have hlen:(bL v).length<=b.length:=by rw[ht,ah];omega
 have he:iT b=(((bL v).length-1:Nat):Int):=by
  unfold iT;rw[i1,df G]
 have h10:=dV 9 v G;rw[he] at h;rcases h with h|h|⟨h,hz⟩|h
 ·omega
 ·omega
 ·rcases i3 with i3|i3
  ·omega
  ·exact i3 hz
 ·obtain ⟨f1,f2,_⟩:=zU (b:=b) G;rw[he] at f1 f2;have hd:=hb.rd (((bL v).length-1:Nat):Int);have h2:=KO ((bL v).length-1) b hb G f2
  have e1:b.take ((bL v).length-1+1)=bL v:=by
   rw[show(bL v).length-1+1=(bL v).length by omega]
   conv=>lhs;rw[ht]
   exact zl
  rw[e1,KQ Uj] at h2;rw[cz] at h;have:=bDr hd.1 hd.2 G h2.1 h;omega
theorem XV: ∀(l:AH) (d:Int),iM (l++[d])=d%128*2^(7*l.length)+iM l
 |[],d=>by simp[iM]
 |x::l,d=>by
  rw[jh,iM,iM,XV l d,dh,show 7*(l.length+1)=7*l.length+7 by omega,zy,<-su];rw[show(2:Int)^7=128 by rfl];omega
theorem BB {q:Nat} (h:q<b.length):iM (b.take (q+1))=rd b (q:Int)%128*2^(7*q)+iM (b.take q):=by
 have e:=dH (j:=(q:Int)) (show(0:Int)<=q by omega) (show(q:Int)<b.length by omega);rw[show((q:Int)+1).toNat=q+1 by omega,cz] at e;rw[e,XV,ax,za G]
theorem XX {b:AH}: ∀q:Nat,q<=b.length->iM (b.take q)<2^(7*q)
 |0,_=>by simp[iM]
 |q+1,h=>by
  have ih:=XX (b:=b) q G;rw[BB G,show 7*(q+1)=7*q+7 by omega,zy];have hp:(0:Int)<2^(7*q):=Eo G;have h1:rd b (q:Int)%128*2^(7*q)<=127*2^(7*q):=nz G G;rw[show(2:Int)^7=128 by rfl];omega
theorem XW {b:AH} {q:Nat}: ∀e:Nat,q<=e->e<=b.length->iM (b.take q)<=iM (b.take e)
 |0,h,_=>by rw[show q=0 by omega];exact lq _
 | e+1,h,hl=>by
  rcases fo e q with c|c
  ·rw[show q=e+1 by omega];exact lq _
  ·have ih:=XW (b:=b) (q:=q) e c G;have hp:(0:Int)<2^(7*e):=Eo G;have h1:0<=rd b (e:Int)%128*2^(7*e):=Am G G;rw[BB G];omega
end Go.Pure
namespace Go.Eng
open Go Go.RowKit Go.Pure
section
variable {P:Program} {n:Nd} {B:Nat} {w0:World} {L:Env} {R:List Row} {ty:TypeId}
theorem aZx: ∀n:Fin 256,(BitVec.ofInt 8 (n.val:Int) &&& ~~~ BitVec.ofInt 8 128).toNat=n.val%128:=by decide+kernel
theorem ZB (p:Int) (h:0<=p/\p<256) (w:World):(Op.intBits .andNot .u8 p 128).run P w= .ok (.int .u8 (p%128)) w:=by
 have e:=aZx ⟨p.toNat,G⟩;simp only at e;rw[show((p.toNat:Nat):Int)=p by omega] at e;show Result.ok (Value.int .u8 (IntKind.u8.wrap ((BitVec.ofInt 8 p &&& ~~~ BitVec.ofInt 8 128).toNat:Int))) w=_;rw[e,nN G G];rw[show((p.toNat%128:Nat):Int)=p%128 by omega]
theorem aMe {x y:Operand} {t u:TypeId} {p:Int} (hx:ev L x=some (.int .u8 p)) (hy:ev L y=some (.int .u8 128)) (h:0<=p/\p<256):Yl P n B w0 (.binOp .andNot t x y u) ty L R (.int .u8 (p%128)):=by
 intro a w o ho _ hs _;simp[execOp,ho,binOp,eqGuard,hs.ev hx,hs.ev hy,ZB p h]
theorem bKt {x y:Operand} {t u:TypeId} {p q m:Int} (k:Nat) (hx:ev L x=some (.int .u64 q)) (hy:ev L y=some (.int .u64 (p*m))) (hm:(2:Int)^k=m) (h:0<=p/\p*m+q<18446744073709551616) (hq:0<=q/\q<m):Yl P n B w0 (.binOp .or t x y u) ty L R (.int .u64 (p*m+q)):=by
 intro a w o ho _ hs _;have e:=UY (P:=P) p q k m hm h hq w
 have e2:(Op.intBits .or .u64 q (p*m)).run P w= .ok (.int .u64 (p*m+q)) w:=by
  have c:Op.intBits .or .u64 q (p*m)=Op.intBits .or .u64 (p*m) q:=by
   unfold Op.intBits;simp only[BitVec.or_comm]
  rw[c,e]
 simp[execOp,ho,binOp,eqGuard,hs.ev hx,hs.ev hy,e2]
end
end Go.Eng
namespace Go.Proofs
open Go.Shelf
def Tryz.lays126_ren:Go.Shelf.Ren:=⟨λ|126=>271|n=>n,λ|5=>5|3=>3|9=>9|n=>n,λ|n=>n⟩
theorem Tryz.lays126:Go.Proofs.Lays.n126 Tryz.prog Tryz.lays126_ren:= {
 mixed:=cA
 f126:=Tryz.func271.trans (bq some cA)
 t3:=Bz
 a3:=He
 z3:=Fy
 v3:=Cq
 t5:=Ee
 a5:=Kg
 z5:=Jg
 v5:=Fg
 t9:=Ef
 a9:=Kh
 z9:=Jh
 v9:=Fh}
theorem Tryz.bits_Len8 (x:Int) (w:World) (h0:0<=x) (h1:x<=255):
  Calls Tryz.prog 271 #[.int .u8 x] w λe w'=>e= .returned (.int .i64 (Lib.bitLen x.toNat))/\w'=w:=Any.bits_Len8 Tryz.lays126 x w h0 h1
end Go.Proofs
namespace Go.Proofs.YtdbebmmhdefgdaaGreat
open Go Go.Eng Go.Pure
open Tryz
set_option maxRecDepth 100000
variable {w:World} {mu:AF} {sn mv:Nat} {b:AH}
theorem aMv {c:Int}:
  CF 270 #[.int .u8 c] w (λv R'=>v= .bool (decide (c<128))):=by
 refine fn1 Tryz.func270 Z Z Z ?_;refine wq<|wn Z<|wq<|wm Z<|wL Z Z<|wn Z<|bS ?_;refine⟨_,Z,?_⟩;rfl
theorem aXd {w:World} (jp:Rd w mu sn mv 1 (ints .u8 b)) (cr:aP b) (hN:b.length<=1000000):
  CF 269 #[sl mu sn mv, .func (.func 270) #[] #[]] w (λv R'=>v=I (iT b)):=by
 obtain rfl:=jp.lenI;refine fn1 Tryz.func269 Z Z Z ?_;have Jl:=jp.max;refine wq<|wn Z<|aC<|wq<|wm Z<|wy (aN af Z)<|wm Z<|aA<|aH ?_;refine fM (λ(i:Int)=>[(0,sl mu b.length mv),(1, .func (.func 270) #[] #[]),(7,I (b.length:Int)),(8,I i)]) (λi=>[]) (λi=>(0<=i)/\(i<=b.length)/\(∀j:Int,0<=j->j<i-> ¬rd b j<128)) (λi=>(b.length-i).toNat) ?_ ?_
 ·exact⟨0,⟨G,G,(λj h1 h2=>G)⟩,KP⟩
 intro i ⟨aw,ia,hn⟩;refine wq<|wL Z Z<|aA<|aC<|bA Z (λaq=> ?_) (λaq=> ?_)
 ·have tj:=cr.rd i;refine aI<|aC<|aH<|wq<|wm Z<|wn Z<|wq<|wm Z<|wm Z<|wm Z<|wy (aG af sz5 Z Z (jp.c _))<|wy (aR ay Z Z (jp.c _)) ?_;refine wa (PI bMt Z Z (Ct.quiet (λw hw=>aMv))) ?_;rintro _ _⟨rfl,rfl⟩;refine aA<|bA Z (λbp=> ?_) (λbp=> ?_)
  ·refine wq<|wm Z<|wn Z<|bS ?_;refine⟨_,Z,?_⟩;exact bq (Value.int .i64) (bDy aw G cF hn).symm
  ·refine aI<|aL<|wA Z Z<|wm Z<|aA ?_
   exact⟨i+1,⟨G,G,(λj h1 h2=>by
     rcases bn j i with h|h
     ·exact hn j h1 h
     ·obtain rfl:j=i:=G
      assumption)⟩,G,KP⟩
 ·refine aU<|wq<|wn Z<|bS ?_;refine⟨_,Z,?_⟩;exact bq (Value.int .i64) (aPu λj h1 h2=>hn j h1 G).symm
theorem bEi {x:Int} (h:0<=x/\x<256):CF 271 #[.int .u8 x] w (λv R'=>v=I ((Lib.bitLen x.toNat:Nat):Int)):=λw' Nu=>(Tryz.bits_Len8 x w' h.1 G).mono (by rintro e Ms ⟨he,rfl⟩;exact⟨_,[],he,Nu,rfl⟩)
theorem bDs (jp:Rd w mu sn mv 1 (ints .u8 b)) (cr:aP b) (hN:b.length<=1000000):
  CF 227 #[sl mu sn mv] w (λv R'=>(∃(V:Int) (k:Nat),vC b V k/\v= .tuple #[.int .u64 V,I (k:Int),bt])\/((¬ ∃V k,vC b V k)/\v= .tuple #[.int .u64 0,I 0,bf])):=by
 obtain rfl:=jp.lenI;refine fn3 Tryz.func227 Z Z Z ?_;have Jl:=jp.max;refine wq<|wg Z<|wg Z<|wn Z<|wq<|wm Z<|wa (aD bMu Z (Ct.quiet (λw hw=>aXd ((jp.c _) w hw) cr hN))) ?_;rintro _ _⟨rfl,rfl⟩;refine wn Z<|aC<|wq<|wm Z<|wL Z Z<|wm Z<|cK 3 [(0,sl mu b.length mv),(2, .int .u64 0),(5,I (iT b)),(15, .bool (decide (((iT b)<0)\/(9<(iT b)))))] [] ?_ ?_
 ·refine bR 12 Z (λaq=> ?_) (λaq=> ?_)
  ·refine aM Z Z Z Z<|aM Z Z Z Z<|wy (aT Z Z)<|aA ?_;exact KP
  ·refine aB Z Z<|wm Z<|aB Z Z<|wy (dE Z Z)<|wy (aO Z Z)<|aA ?_;exact KP
 refine aA<|bA Z (λbp=> ?_) (λbp=> ?_)
 ·refine wq<|wg Z<|wg Z<|wn Z<|bS ?_;refine⟨_,_,_,Z,Z,Z,?_⟩;exact .inr ⟨aWq cr G,Z⟩
 ·obtain ⟨e,he⟩: ∃e:Nat,iT b=(e:Int):=⟨(iT b).toNat,G⟩;have hef:=zU (b:=b) G;have hbe:=cr.rd (iT b);have j6:Lib.bitLen (rd b (iT b)).toNat<=8:=Lib.bitLen_le8 ⟨(rd b (iT b)).toNat,G⟩;refine aI<|aC<|wq<|wm Z<|wy (dE Z Z)<|wm Z<|cK 6 [(0,sl mu b.length mv),(2, .int .u64 0),(5,I (iT b)),(24, .bool (decide ((0<(iT b))/\((rd b (iT b))=0))))] [] ?_ ?_
  ·refine bR 18 Z (λew=> ?_) (λew=> ?_)
   ·refine aB Z Z<|wm Z<|aB Z Z<|wm Z<|aB Z Z<|wy (aG af sz5 Z Z (jp.c _))<|aB Z Z<|wy (aR ay Z Z (jp.c _))<|aB Z Z<|wy (dR Z Z)<|wy (aT Z Z)<|aA ?_;exact KP
   ·refine aM Z Z Z Z<|aM Z Z Z Z<|aM Z Z Z Z<|aM Z Z Z Z<|aM Z Z Z Z<|wy (aO Z Z)<|aA ?_;exact KP
  refine wm Z<|cK 10 [(0,sl mu b.length mv),(2, .int .u64 0),(5,I (iT b)),(35, .bool (decide (((0<(iT b))/\((rd b (iT b))=0))\/(64<((7*(iT b))+((Lib.bitLen (rd b (iT b)).toNat:Nat):Int))))))] [] ?_ ?_
  ·refine bR 25 Z (λkd=> ?_) (λkd=> ?_)
   ·refine aM Z Z Z Z<|aM Z Z Z Z<|aM Z Z Z Z<|aM Z Z Z Z<|aM Z Z Z Z<|aM Z Z Z Z<|aM Z Z Z Z<|aM Z Z Z Z<|aM Z Z Z Z<|wy (aT Z Z)<|aA ?_;exact KP
   ·refine aB Z Z<|wm Z<|aB Z Z<|wy (iZ Z Z)<|aB Z Z<|wm Z<|aB Z Z<|wm Z<|aB Z Z<|wy (aG af sz5 Z Z (jp.c _))<|aB Z Z<|wy (aR ay Z Z (jp.c _))<|aB Z Z<|wa (aD bMs Z (Ct.quiet (λw hw=>bEi (cr.rd _)))) ?_;rintro _ _⟨rfl,rfl⟩;refine aB Z Z<|wA Z Z<|aB Z Z<|wy (dE Z Z)<|wy (aO Z Z)<|aA ?_;exact KP
  refine aA<|bA Z (λme=> ?_) (λme=> ?_)
  ·refine wq<|wg Z<|wg Z<|wn Z<|bS ?_;refine⟨_,_,_,Z,Z,Z,?_⟩;exact .inr ⟨aWq cr (by first|exact .inr (.inr (me.imp id λh=>G))|omega),Z⟩
  ·have f7:vC b (iM (b.take (e+1))) (e+1):=by
    rw[he] at me;refine bDq cr he ?_ G;rcases ed e with z|z
    ·exact .inl z
    ·exact .inr λc=>me (.inl ⟨G,c⟩)
   refine aI<|aC<|wq<|wm Z<|wm Z<|wA Z Z<|wy (dQ af sz5 Z Z (jp.c _))<|wy (aN af Z)<|wm Z<|aA<|aH ?_;refine dM (λ(q:Nat) (x:Int)=>[(2, .int .u64 x),(5,I (iT b)),(39,sl mu (((iT b)+1).toNat) mv),(40,I ((((iT b)+1).toNat:Nat):Int)),(41,I (q:Int))]) (λq x=>[]) (λq x=>(q<=e+1)/\(x=iM (b.take q))) (λq x=>(e+1-q)) ?_ ?_
   ·exact⟨0,0,⟨G,(Z)⟩,KP⟩
   intro q x ⟨hq,hx⟩;refine wq<|wL Z Z<|aA<|aC<|bA Z (λvq=> ?_) (λvq=> ?_)
   ·have hbq:=cr.rd (q:Int);have s6:rd ((b).take ((iT b)+1).toNat) (q:Int)=rd b (q:Int):=VJ G G;have hstp:=BB (b:=b) (q:=q) G;have hmn:=XW (b:=b) (q:=q+1) (e+1) G G;have hvb:=f7.1.2;have hx0:=vK (b.take q);have Mq:x<2^(7*q):=by rw[hx];exact XX q G
    have Pn:0<=rd b (q:Int)%128*2^(7*q):=Am G (vz G);have Ug:0<=rd b (q:Int)%128*2^(7*q)/\rd b (q:Int)%128*2^(7*q)<18446744073709551616:=⟨Pn,G⟩;refine aI<|aC<|aH<|wq<|wm Z<|wy (aG af sz5 Z Z (RdC.toI (h:=((iT b)+1).toNat) (jp.c _) G))<|wy (aR ay Z Z (RdC.toI (h:=((iT b)+1).toNat) (jp.c _) G))<|wg Z<|wn Z<|aL<|wm Z<|wm Z<|wy (aMe Z Z (by rw[s6];exact hbq)) ?_;refine wy (gP ay dx Z)<|wm Z<|wy (Yl.is (iZ Z Z) (show Value.int .i64 (7*(q:Int))=Value.int .i64 ((7*q:Nat):Int) by simp))<|wy (vE (k:=7*q) (m:=2^(7*q)) rfl rfl rfl (by rw[s6];exact Ug) (Nat.ble_eq_true_of_le G)) ?_;refine wy (bKt (p:=(rd ((b).take ((iT b)+1).toNat) (q:Int))%128) (m:=2^(7*q)) (7*q) Z Z Z (by rw[s6];exact⟨G,G⟩) ⟨G,Mq⟩) ?_;refine wn Z<|aL<|wA Z Z<|wm Z<|aA ?_;exact⟨(q+1),(rd ((b).take ((iT b)+1).toNat) (q:Int))%128*2^(7*q)+x,⟨G,(by rw[s6,BB G,<-hx])⟩,G,KP⟩
   ·refine aU<|wq<|wm Z<|wm Z<|wA Z Z<|wg Z<|wg Z<|wn Z<|bS ?_;refine⟨_,_,_,Z,Z,Z,?_⟩;have eq:q=e+1:=G
    subst eq;subst hx;exact .inl ⟨_,e+1,f7,by rw[he];rfl⟩
theorem YF {w:World} {ap:AF} {ar ao:Nat} {u:AH} {i:Int} (ac:Rd w ap ar ao 1 (ints .u8 u)) (hi:0<=i/\i<=u.length) (hN:u.length<=1000000):
  CF 93 #[sl ap ar ao,I i] w (λv R'=> ∃A c,v=sl A (u.drop i.toNat++u.take i.toNat).length c/\R'=[(ru 5 A ((u.drop i.toNat++u.take i.toNat).length) c (u.drop i.toNat++u.take i.toNat))]):=by
 obtain rfl:=ac.lenI;refine fn1 Tryz.func93 Z Z Z ?_;have li:=ac.max;refine wq<|wn Z<|aC<|bI mixed<|wD 1 Z (aK Z)<|wD 2 Z (aK Z)<|wD 3 Z (dK af sz5 Z Z)<|wD 5 Z (aK Z)<|wD 6 Z (aK Z)<|wD 7 Z (dQ af sz5 Z Z (ac.c _))<|wC 0 Z (bH .u8 [] af zs5 Z Z Z) ?_;rintro _ _⟨bx,rfl,rfl⟩;refine⟨.inr hrZ,?_⟩;refine wC 4 Z (aS 0 Z af zb5 Z Z Z (RdC.fromI (ac.c _) G)) ?_;rintro _ _⟨fi,fj,rfl,rfl⟩;refine⟨.inl cA,?_⟩;refine iF (v:=sl fi (0+(u.length-(i).toNat)) fj) Z<|wC 8 Z (aS 0 Z af zb5 Z Z Z (RdC.toI (ac.c _) G)) ?_;rintro _ _⟨ef,kc,rfl,rfl⟩;refine⟨.inl cA,?_⟩;refine iF (v:=sl ef ((0+(u.length-(i).toNat))+((i).toNat)) kc) Z<|wD 9 Z (bC Z)<|wN<|aQ [0] 99 cC Z ?_;refine⟨_,Z,?_⟩;have e:(0+(u.length-i.toNat)+i.toNat)=(u.drop i.toNat++u.take i.toNat).length:=by rw[ah,az,ax];omega
 simp only[je,e];exact⟨_,_,Z,Z⟩
end Go.Proofs.YtdbebmmhdefgdaaGreat
namespace Go.Pure
open Go Go.Eng
theorem TR: ∀ {a b:AH},a.length=b.length->(cmpL a b<0↔ ∃d,d<a.length/\(∀e,e<d->lt a e=lt b e)/\lt a d<lt b d)
 |[],[],_=>by simp[cmpL]
 | x::a,y::b,h=>by
  have ih:=TR (a:=a) (b:=b) (by simpa using h);rw[cmpL];rcases jd x y with c|c|c
  ·rw [df c];exact⟨λ_=>⟨0,cD,λe he=>G,c⟩,λ_=>G⟩
  ·subst c;rw[bz G,bz G,ih];constructor
   ·rintro ⟨d,h1,h2,h3⟩;refine⟨d+1,by simpa using h1,λe he=> ?_,h3⟩;cases e with
    |zero=>rfl
    |succ e=>exact h2 e G
   ·rintro ⟨d,h1,h2,h3⟩;cases d with
    |zero=>exact absurd h3 (by simp[lt])
    |succ d=>exact⟨d,by simpa using h1,λe he=>h2 (e+1) G,h3⟩
  ·rw [bz G,df c];refine⟨λh=>G,?_⟩;rintro⟨d,h1,h2,h3⟩;cases d with
   |zero=>have:x<y:=h3;omega
   |succ d=>have:x=y:=h2 0 G;omega
section
variable {s:AH}
def rot (s:AH) (r d:Nat):Int:=om s (r+d)
def yN (s:AH) (r:Int):AH:=s.drop r.toNat++s.take r.toNat
theorem xM (s:AH) (r:Int):(yN s r).length=s.length:=by unfold yN;rw[ah,az,ax];omega
theorem oV {r d:Nat} (hr:r<=s.length) (hd:d<s.length):lt (yN s r) d=rot s r d:=by
 unfold yN lt rot om;rw[cz];rcases fo (r+d) s.length with g|g
 ·rw[ak,ji (by rw[az];omega),qm,lh g,<-ak]
 ·rw[ak,ig (by rw[az];omega),az,ow G,show(r+d)%s.length=d-(s.length-r) by rw[zm g,lh G];omega,<-ak]
theorem aJn (r:Nat):Per (rot s r) s.length:=λd=>by
 unfold rot;rw[<-nk];exact rX s _
theorem bBm (r:Nat):rot s (r%s.length)=rot s r:=by
 funext d;unfold rot om;rw[Nat.mod_add_mod]
theorem ZG {r q:Nat} (hn:0<s.length) (h: ∀d,d<s.length->rot s r d=rot s q d):rot s r=rot s q:=by
 funext d;rw[<-(aJn r).mod d,<-(aJn q).mod d];exact h _ (ze _ hn)
theorem aTf {r q:Nat} (hr:r<=s.length) (hq:q<=s.length):cmpL (yN s r) (yN s q)<0↔Lt (rot s r) (rot s q):=by
 rw[TR (by rw[xM,xM]),xM];constructor
 ·rintro ⟨d,h1,h2,h3⟩;refine⟨d,λe he=> ?_,?_⟩
  ·rw[<-oV hr G,<-oV hq G];exact h2 e he
  ·rw[<-oV hr h1,<-oV hq h1];exact h3
 ·rintro ⟨d,h2,h3⟩;rcases fo d s.length with g|g
  ·refine ⟨d,g,λe he=> ?_,?_⟩
   ·rw[oV hr G,oV hq G];exact h2 e he
   ·rw[oV hr g,oV hq g];exact h3
  ·exfalso;rcases ed s.length with z|z
   ·have: ∀r d,rot s r d=0:=λr d=>by
     unfold rot om;rw[ek z];rfl
    rw[this,this] at h3;omega
   ·have:=ZG z λe he=>h2 e G;rw[this] at h3;omega
structure FL (s:AH) (b:Nat):Prop where
 lt:b<s.length
 le: ∀r,r<s.length-> ¬Lt (rot s r) (rot s b)
 first: ∀r,r<b->Lt (rot s b) (rot s r)
theorem FL.any {b:Nat} (h:FL s b) (r:Nat): ¬Lt (rot s r) (rot s b):=by
 rw[<-bBm r];exact h.le _ (ze _ (by have:=h.lt;omega))
theorem FL.one {b c:Nat} (h:FL s b) (g:FL s c):b=c:=by
 rcases vo b c with a|a|a
 ·exact absurd (g.first b a) (h.any c)
 ·exact a
 ·exact absurd (h.first c a) (g.any b)
def rO (s:AH):Nat->Nat
 |0=>0
 |r+1=>if cmpL (yN s r) (yN s (rO s r))<0 then r else rO s r
theorem aBa: ∀n:Nat,0<n->n<=s.length->rO s n<n/\(∀r,r<n-> ¬Lt (rot s r) (rot s (rO s n)))/\ ∀r,r<rO s n->Lt (rot s (rO s n)) (rot s r)
 | 1,_,h=>by
  have e:rO s 1=0:=by
   rw[rO,rO];split<;>rfl
  rw[e];exact⟨G,λr hr=>by obtain rfl:r=0:=G;exact λh=>h.asymm h,λr hr=>G⟩
 | n +2,_,h=>by
  have ih:=aBa (n+1) G G;rw[rO];split
  ·rename_i c;rw[aTf G G] at c;refine⟨G,λr hr=> ?_,λr hr=> ?_⟩
   ·rcases fo r (n+1) with g|g
    ·exact λbc=>ih.2.1 r g (bc.trans c)
    ·obtain rfl:r=n+1:=G
     exact λh=>h.asymm h
   ·rcases FU (rot s (n+1)) (rot s r) with a|a|a
    ·exact a
    ·exact absurd (by rw[<-funext a];exact c) (ih.2.1 r hr)
    ·exact absurd (a.trans c) (ih.2.1 r hr)
  ·rename_i c;rw[aTf G G] at c;refine⟨G,λr hr=> ?_,ih.2.2⟩;rcases fo r (n+1) with g|g
   ·exact ih.2.1 r g
   ·obtain rfl:r=n+1:=G
    exact c
def rZ (s:AH):Int:=rO s s.length
theorem VZ (hn:0<s.length):FL s (rO s s.length):=by
 have h:=aBa (s:=s) s.length hn (di _);exact⟨h.1,h.2.1,h.2.2⟩
theorem bDh (s:AH):0<=rZ s/\rZ s<=s.length/\(0<s.length->rZ s<s.length):=by
 unfold rZ;rcases ed s.length with z|z
 ·rw[z];exact⟨G,by show((0:Nat):Int)<=_;omega,λh=>G⟩
 ·have:=(VZ z).lt;omega
structure LA (s:AH) (b:Nat) (i j k:Int):Prop where
 i0:0<=i
 j0:0<=j
 k0:0<=k
 ne:i≠j
 agr: ∀e:Nat,(e:Int)<k->rot s i.toNat e=rot s j.toNat e
 hb:(b:Int)=i\/(b:Int)=j\/(i<b/\j<b)
theorem LA.init (b:Nat):LA s b 0 1 0:=⟨G,G,G,G,λe he=>G,G⟩
variable {b:Nat} {i j k:Int}
theorem LA.swap (h:LA s b i j k):LA s b j i k:=⟨h.j0,h.i0,h.k0,h.ne.symm,λe he=>(h.agr e he).symm,by have:=h.hb;omega⟩
theorem LA.eq (h:LA s b i j k) (he:rot s i.toNat k.toNat=rot s j.toNat k.toNat):LA s b i j (k+1):=
 ⟨h.i0,h.j0,by have:=h.k0;omega,h.ne,λe he'=>by
  rcases bn e k with g|g
  ·exact h.agr e g
  ·have:=h.k0;obtain rfl:e=k.toNat:=G
   exact he,h.hb⟩
theorem LA.out (h:LA s b i j k) (fl:FL s b) (wd:rot s j.toNat k.toNat<rot s i.toNat k.toNat): ¬(i<=b/\(b:Int)<=i+k):=λhc=>by
 have i0:=h.i0;have k0:=h.k0;obtain⟨t,ht⟩: ∃t:Nat,b=i.toNat+t:=⟨b-i.toNat,G⟩;refine fl.any (j.toNat+t) ⟨k.toNat-t,λe he=> ?_,?_⟩
 ·have:=h.agr (t+e) G;unfold rot at this ⊢;rw[ht,nk,nk];exact this.symm
 ·unfold rot at wd ⊢;rw[ht,nk,nk,show t+(k.toNat-t)=k.toNat by omega];exact wd
theorem LA.gt (h:LA s b i j k) (fl:FL s b) (wd:rot s j.toNat k.toNat<rot s i.toNat k.toNat):(i+(k+1)≠j->LA s b (i+(k+1)) j 0)/\(i+(k+1)=j->LA s b (i+(k+1)) (j+1) 0):=by
 have ho:=h.out fl wd;have hb:=h.hb;have i0:=h.i0;have j0:=h.j0;have k0:=h.k0;exact⟨λfd=>⟨G,j0,G,fd,λe he=>G,G⟩,λhe=>⟨G,G,G,G,λe he=>G,G⟩⟩
theorem LA.lt (h:LA s b i j k) (fl:FL s b) (bc:rot s i.toNat k.toNat<rot s j.toNat k.toNat):(i≠j+(k+1)->LA s b i (j+(k+1)) 0)/\(i=j+(k+1)->LA s b i (j+(k+1)+1) 0):=by
 have ho:=h.swap.out fl bc;have hb:=h.hb;have i0:=h.i0;have j0:=h.j0;have k0:=h.k0;exact⟨λfd=>⟨i0,G,G,fd,λe he=>G,G⟩,λhe=>⟨G,G,G,G,λe he=>G,G⟩⟩
theorem LA.same (h:LA s b i j k) (fl:FL s b) (hn:(s.length:Int)<=k):min i j=b:=by
 have i0:=h.i0;have j0:=h.j0;have bc:=fl.lt;have he:rot s i.toNat=rot s j.toNat:=ZG G λd hd=>h.agr d G;have fd:=h.ne;have no: ∀x:Nat,x<b->rot s x≠rot s b:=λx hx e=>(fl.first x hx).not_eq λd=>by rw[e]
 rcases h.hb with e|e|⟨e1,e2⟩
 ·rcases bn j i with g|g
  ·exact absurd (by rw[show b=i.toNat by omega];exact he.symm) (no j.toNat G)
  ·omega
 ·rcases bn i j with g|g
  ·exact absurd (by rw[show b=j.toNat by omega];exact he) (no i.toNat G)
  ·omega
 ·exfalso
  have key: ∀lo hi:Nat,lo<hi->hi<b->rot s lo=rot s hi->False:=λlo hi h1 h2 e=>by
   refine no (lo+(b-hi)) G ?_;funext d;have:=congrFun e ((b-hi)+d);unfold rot at this ⊢;rw[nk,this];congr 1;omega
  rcases bn i j with g|g
  ·exact key i.toNat j.toNat G G he
  ·exact key j.toNat i.toNat G G he.symm
theorem LA.done (h:LA s b i j k) (fl:FL s b) (hc: ¬(i<s.length/\j<s.length/\k<s.length)):min i j=b:=by
 have hb:=h.hb;have bc:=fl.lt;have fd:=h.ne;by_cases hk:(s.length:Int)<=k
 ·exact h.same fl hk
 ·omega
theorem aTe {i k:Int} (i0:0<=i) (k0:0<=k):rd s ((i+k)%s.length)=rot s i.toNat k.toNat:=by
 have:=MP s (i.toNat+k.toNat);rw[show((i.toNat+k.toNat:Nat):Int)=i+k by omega] at this;exact this
end
end Go.Pure
namespace Go.Proofs.YtdbebmmhdefgdaaGreat
open Go Go.Eng Go.Pure
open Tryz
set_option maxRecDepth 100000
variable {u:AH} {w:World} {ws:AD}
theorem LA.init0:LA u (rO u u.length) 0 1 0:=LA.init _
theorem bJy {ap:AF} {ar ao:Nat} (ac:Rd w ap ar ao 1 (ints .u8 u)) (hN:u.length<=1000000):
  CF 190 #[sl ap ar ao] w (λv R'=>v=I (rZ u)):=by
 obtain rfl:=ac.lenI;refine fn1 Tryz.func190 Z Z Z ?_;have li:=ac.max;refine wq<|wn Z<|wq<|wm Z<|wy (aN af Z)<|wn Z<|wq<|wg Z<|wg Z<|wg Z ?_;refine aA<|aC<|aH ?_;refine fA (λ(i:Int) (j:Int) (k:Int)=>[(0,sl ap u.length ao),(3,I (u.length:Int)),(4,I i),(5,I j),(6,I k)]) (λi j k=>[]) (λi j k=>(LA u (rO u u.length) i j k)/\(i<=2*u.length+2)/\(j<=2*u.length+3)/\(k<=u.length)/\(u.length=0->i=0/\j=1)) (λi j k=>(3*u.length+3-(i+j+k)).toNat) ?_ ?_
 ·exact⟨0,1,0,⟨(LA.init0),G,G,G,G⟩,KP⟩
 intro i j k ⟨By,w5,hjb,hkb,hz⟩;have aw:=By.i0;have ue:=By.j0;have md:=By.k0;refine aC<|wq<|wm Z<|wm Z<|wL Z Z<|wm Z<|cK 4 [(0,sl ap u.length ao),(3,I (u.length:Int)),(4,I i),(5,I j),(6,I k),(18, .bool (decide ((i<(u.length:Int))/\(j<(u.length:Int)))))] [] ?_ ?_
 ·refine bR 14 Z (λaq=> ?_) (λaq=> ?_)
  ·refine aB Z Z<|wm Z<|aB Z Z<|wm Z<|aB Z Z<|wL Z Z<|wy (aT Z Z)<|aA ?_;exact KP
  ·refine aM Z Z Z Z<|aM Z Z Z Z<|aM Z Z Z Z<|wy (aO Z Z)<|aA ?_;exact KP
 refine wm Z<|cK 4 [(0,sl ap u.length ao),(3,I (u.length:Int)),(4,I i),(5,I j),(6,I k),(23, .bool (decide (((i<(u.length:Int))/\(j<(u.length:Int)))/\(k<(u.length:Int)))))] [] ?_ ?_
 ·refine bR 19 Z (λbp=> ?_) (λbp=> ?_)
  ·refine aB Z Z<|wm Z<|aB Z Z<|wm Z<|aB Z Z<|wL Z Z<|wy (aT Z Z)<|aA ?_;exact KP
  ·refine aM Z Z Z Z<|aM Z Z Z Z<|aM Z Z Z Z<|wy (aO Z Z)<|aA ?_;exact KP
 refine aA<|bA Z (λew=> ?_) (λew=> ?_)
 ·have oc:=ko (i+k) (show(u.length:Int)≠0 by omega);have Qk:=ja (i+k) (show(0:Int)<u.length by omega);have hm3:=ko (j+k) (show(u.length:Int)≠0 by omega);have hm4:=ja (j+k) (show(0:Int)<u.length by omega);have fl:=VZ (s:=u) G;have ei:=aTe (s:=u) By.i0 By.k0;have ej:=aTe (s:=u) By.j0 By.k0;refine aI<|aH<|aC<|bI mixed<|wD 0 Z (aK Z)<|wD 1 Z (aK Z)<|wD 2 Z (aK Z)<|wD 3 Z (bX Z Z)<|wD 4 Z (aK Z)<|wD 5 Z (uV Z Z)<|wD 6 Z (aG af sz5 Z Z (ac.c _))<|wD 7 Z (aR ay Z Z (ac.c _))<|wD 8 Z (aK Z)<|wD 9 Z (aK Z)<|wD 10 Z (aK Z) ?_;refine wD 11 Z (bX Z Z)<|wD 12 Z (aK Z)<|wD 13 Z (uV Z Z)<|wD 14 Z (aG af sz5 Z Z (ac.c _))<|wD 15 Z (aR ay Z Z (ac.c _))<|wD 16 Z (bC Z)<|wD 17 Z (bC Z)<|wN<|aC<|aH<|wq<|wm Z<|wm Z<|wy (dR Z Z) ?_;refine wn Z<|bA Z (λkd=> ?_) (λkd=> ?_)
  ·have gs:=By.eq (by rw[<-ei,<-ej];exact kd);refine wq<|wm Z<|wA Z Z<|wn Z<|aU ?_;exact⟨i,j,k+1,⟨(gs),G,G,G,G⟩,G,KP⟩
  ·refine wq<|wm Z<|wm Z<|wy (dE Z Z)<|wn Z<|bA Z (λme=> ?_) (λme=> ?_)
   ·have gs:=By.gt fl (by rw[<-ei,<-ej];exact me);refine aL<|wm Z<|wm Z<|wA Z Z<|wA Z Z<|wn Z<|wq<|wn Z<|wq<|wm Z<|wm Z ?_;refine wy (dR Z Z)<|aA<|bA Z (λvq=> ?_) (λvq=> ?_)
    ·refine aL<|wm Z<|wA Z Z<|wn Z ?_;exact⟨i+(k+1),j+1,0,⟨(gs.2 G),G,G,G,G⟩,G,KP⟩
    ·refine aI ?_;exact⟨i+(k+1),j,0,⟨(gs.1 G),G,G,G,G⟩,G,KP⟩
   ·have gs:=By.lt fl (by rw[<-ei,<-ej];omega);refine aL<|wm Z<|wm Z<|wA Z Z<|wA Z Z<|wn Z<|wq<|wn Z<|wq<|wm Z<|wm Z ?_;refine wy (dR Z Z)<|aA<|bA Z (λr7=> ?_) (λr7=> ?_)
    ·refine aL<|wm Z<|wA Z Z<|wn Z ?_;exact⟨i,(j+(k+1))+1,0,⟨(gs.2 G),G,G,G,G⟩,G,KP⟩
    ·refine aI ?_;exact⟨i,j+(k+1),0,⟨(gs.1 G),G,G,G,G⟩,G,KP⟩
 ·refine aU<|wq<|wm Z<|wm Z<|wy (sJ Z Z)<|wn Z<|bS ?_;refine⟨_,Z,?_⟩;rcases ed u.length with z|z
  ·obtain ⟨rfl,rfl⟩:=hz z;have e:rZ u=0:=by unfold rZ;rw[z];rfl
   rw[e];rfl
  ·exact bq (Value.int .i64) (By.done (VZ z) G)
theorem aWp {m:Int} (h0:0<=m) (hN:m<=1000000):
  CF 70 #[sl none 0 0,I m] w (λv R'=> ∃A c,v=sl A 0 c/\R'=[(ru 5 A 0 c ([]))]):=by
 refine fn1 Tryz.func70 Z Z Z ?_;refine wq<|dB (R1:=[(ru 5 none 0 0 ([]))]) (Sub.refl _) (λ_ h=>h.nil 5 1)<|wn Z<|aC<|wq<|wm Z<|wy (Yl.f (eD Z Z))<|aA<|aJ Z<|aI<|aC<|aC ?_;refine aL<|wm Z<|wm Z<|wy (bFh af Z)<|wm Z<|wy (aN af Z)<|wS Z Z<|wS Z Z<|wn Z<|wq<|wm Z<|wy (dE Z Z)<|aA ?_;refine bA Z (λaq=> ?_) (λaq=> ?_)
 ·refine aL<|wm Z<|wm Z<|wy (bFh af Z)<|wy (XO af sz5 Z Z)<|wy (Yl.is (aK Z) (by rw[show m-(((0:Nat):Int)-((0:Nat):Int))=(m.toNat:Int) by omega])) ?_;refine wa (bEy af ai zb5 Z Z Z G G G) ?_;rintro _ _⟨am,bl,rfl,rfl⟩;refine dB (R1:=[(ru 5 (GG am) 0 bl ([])),(ru 5 none 0 0 ([]))]) (Sub.refl _) (λ_ h=>h.cut (k:=0) (qp _) cD) ?_;refine wm Z<|wy (aN af Z)<|wy (XO af sz5 Z Z)<|wn Z<|wq<|wm Z<|wn Z<|aQ [0] 99 cC Z ?_;exact⟨_,Z,_,_,Z,Z⟩
 ·refine aI<|wq<|wm Z<|wn Z<|aQ [0] 99 cC Z ?_;exact⟨_,Z,_,_,Z,Z⟩
theorem JV (i:Nat):((ws.take i).flatten).length<=ws.flatten.length:=by
 conv=>rhs;rw[<-gu i ws]
 rw[qg,ah];omega
theorem kL {gg:AF} {mm gi:Nat} {dt:AG} (go:Rd w gg mm gi 1 dt) (mz:SlW .u8 w dt ws) (hN:ws.flatten.length<=1000000/\ws.length<=1000000):
  CF 38 #[sl gg mm gi] w (λv R'=> ∃A c,v=sl A (ws.flatten).length c/\R'=[(ru 5 A ((ws.flatten).length) c (ws.flatten))]):=by
 obtain rfl:mm=ws.length:=by have:=go.len;have:=mz.1;omega
 refine fn1 Tryz.func38 Z Z Z ?_;have Jx:=go.max;refine wq<|wn Z<|wq<|wn Z<|aC<|wq<|wm Z<|wy (aN dm Z)<|wm Z<|aA ?_;refine aH ?_;refine dM (λ(i:Int) (z:Int)=>[(0,sl gg ws.length gi),(3,I z),(9,sl gg ws.length gi),(10,I (ws.length:Int)),(11,I i)]) (λi z=>[]) (λi z=>(0<=i)/\(i<=ws.length)/\(z=((ws.take i.toNat).flatten.length:Int))) (λi z=>(ws.length-i).toNat) ?_ ?_
 ·exact⟨0,0,⟨G,G,(Z)⟩,KP⟩
 intro i z ⟨aw,ia,hz⟩;have ux:=JV (ws:=ws) i.toNat;refine wq<|wL Z Z<|aA<|aC<|bA Z (λaq=> ?_) (λaq=> ?_)
 ·have Oz:=JV (ws:=ws) (i+1).toNat;rw[jL aw G,ah] at Oz;refine aI<|aC<|aH<|wq<|wy (aG dm dA Z Z (go.c _)) ?_;refine mz.elim (i:=i) G G (λbm bl Iv k8 Oq Nx=> ?_);refine wy (rF af Z Z Z (go.c _) Iv)<|wn Z<|wq<|wm Z<|wm Z<|wy (aN af Z)<|wA Z Z<|wn Z<|wq<|wm Z<|wy (Yl.f (eD Z Z)) ?_;refine aA<|aJ Z<|aI<|aL<|wA Z Z<|wm Z<|aA ?_;exact⟨i+1,z+(((rdl ws i).length:Nat):Int),⟨G,G,(by rw[jL aw G,ah,hz];omega)⟩,G,KP⟩
 ·refine aU<|wq<|wm Z<|wa (aD bQv Z (Ct.fresh (λw hw=>aWp G G))) ?_;rintro _ _⟨_,rfl,dy,jt,rfl,rfl⟩;refine wn Z<|aC<|wq<|wm Z<|wy (aN dm Z)<|wm Z<|aA<|aH ?_;refine fK (λ(q:Int) (A1:AF) (n1:Nat) (c1:Nat) (acc:AH)=>[(6,sl A1 n1 c1),(25,sl gg ws.length gi),(26,I (ws.length:Int)),(27,I q)]) (λq A1 n1 c1 acc=>[(ru 5 A1 n1 c1 acc)]) (λq A1 n1 c1 acc=>(0<=q)/\(q<=ws.length)/\(n1=acc.length)/\(acc=(ws.take q.toNat).flatten)) (λq A1 n1 c1 acc=>(ws.length-q).toNat) ?_ ?_
  ·exact⟨0,dy,0,jt,[],⟨G,G,(Z),(Z)⟩,KP⟩
  intro q A1 n1 c1 acc ⟨kj,yi,cv,ba⟩;have qk:acc.length<=ws.flatten.length:=by rw[ba];exact JV _
  refine wq<|wL Z Z<|aA<|aC<|bA Z (λbp=> ?_) (λbp=> ?_)
  ·have Oz:=JV (ws:=ws) (q+1).toNat;rw[jL kj G,ah] at Oz;refine aI<|aC<|aH<|wq<|wy (aG dm dA Z Z (go.c _)) ?_;refine mz.elim (i:=q) G G (λjz lz Ul Tw hb_12 mhr_11=> ?_);refine wy (rF af Z Z Z (go.c _) Ul)<|wn Z<|aL<|wm Z<|wm Z<|wa (aS 0 Z af zb5 Z Z Z (Tw.c _)) ?_;rintro _ _⟨im,ir,rfl,rfl⟩;refine bF (v:=sl im (n1+((rdl ws q).length)) ir) Z<|wn Z<|aL<|wA Z Z<|wm Z<|aA ?_;exact⟨q+1,im,n1+((rdl ws q).length),ir,acc++(rdl ws q),⟨G,G,(by rw[ah,cv]),(by rw[jL kj G,ba])⟩,G,KP⟩
  ·refine aU<|wq<|wm Z<|wn Z<|aQ [0] 99 cC Z ?_;refine⟨_,Z,?_⟩;rw[bg G] at ba;subst ba;obtain rfl:=cv;exact⟨_,_,Z,Z⟩
end Go.Proofs.YtdbebmmhdefgdaaGreat
namespace Go.Eng
open Go Go.RowKit Go.Proofs Go.Sort
theorem aBp {W w':World} (hb:Below W.heap.size W w') (hd:W.drawn<=w'.drawn): ∃q os,w'=grow (W.drewN q) os:=by
 refine⟨w'.drawn-W.drawn,w'.heap.extract W.heap.size w'.heap.size,?_⟩
 have hh:W.heap++w'.heap.extract W.heap.size w'.heap.size=w'.heap:=by
  apply Array.ext_getElem?;intro k;rw[zo];split
  ·rename_i hk;exact(hb.block k hk).symm
  ·rename_i hk;have:=hb.size;rw[Array.getElem?_extract];split
   ·congr 1;omega
   ·rename_i h2;rw[zf G]
 obtain⟨h1,h2,h3,h4,h5⟩:=w';obtain⟨g1,g2,g3,g4,g5⟩:=W;have b1:=hb.os;have b2:=hb.tape;have b3:=hb.output;simp only at b1 b2 b3 hh hd;subst b1;subst b2;subst b3;simp only[grow,World.drewN,hh,World.mk.injEq,Ag,Au];omega
section
variable {P:Program} {B:Nat} {w0:World} {R:List Row}
def aMb (P:Program) (f g:Nat) (cb:Array Value):Prop:=
 ∀(α:Type) [Inhabited α] (enc:α->AG) (_: ∀x,(enc x).length=2) (_: ∀x,∀v∈enc x,v.oneCell'=true) (cf:α->α->Int) (_:SWO (ltOf cf)) (gr off cap:Nat) (d:Array α) (w:World)
  (_:CmpLays P g cb enc 2 cf gr off d.size w) (_:HoldsK enc 2 w gr off d) (_:gr<w.heap.size) (_:d.size<4611686018427387904),
  Calls P f #[.slice (some ⟨gr,off,none⟩) d.size cap, .func (.func g) #[] cb] w λe w'=>e= .returned (.tuple #[])/\ ∃d' n os,PermIn 0 d.size d d'/\SortedIn (ltOf cf) 0 d.size d'/\w'=sortWorldK enc 2 w gr off n d' os
theorem Hp.but {w W:World} (h:Hp B w0 w R) {i:Nat} {r:Row} (hi:R[i]? =some r) (ho:W.os=w.os) (ht:W.tape=w.tape) (hu:W.output=w.output) (hd:w.drawn<=W.drawn) (hs:w.heap.size<=W.heap.size)
  (hk: ∀k,k<w.heap.size->(∀a,r.A=some a->a.block≠k)->W.heap[k]? =w.heap[k]?):Hp B w0 W (R.eraseIdx i):=by
 have hr:r∈R:=fw hi;refine⟨⟨ho.trans h.below.os,ht.trans h.below.tape,hu.trans h.below.output,qx h.below.size hs,λk hkB=> ?_⟩,qx h.base hs,λq hq=> ?_,h.apart.sublist (List.eraseIdx_sublist _ _),h.late.trans ⟨hd,λk o pe hc=> ?_⟩⟩
 ·rw[hk k (Nat.lt_of_lt_of_le hkB h.base) (λa ha=>by have:=(Row.lies_lt (h.own r hr) a ha).1;omega),h.below.block k hkB]
 ·obtain ⟨j,hj⟩:=List.mem_iff_getElem?.1 hq
  obtain⟨j',yd,fd⟩: ∃j',R[j']? =some q/\j'≠i:=by
   rw[List.getElem?_eraseIdx] at hj;split at hj
   ·exact⟨j,hj,G⟩
   ·exact⟨j+1,hj,G⟩
  refine Row.lies_of_block (h.own q (fw yd)) λa ha=>hk a.block (Row.lies_lt (h.own q (fw yd)) a ha).2 λa' oe=> ?_;have r9:=(dw.1 yd).1;have Tb:=(dw.1 yd).2;have Yq:=(dw.1 hi).1;have i9:=(dw.1 hi).2;rcases Cs fd with bc|bc
  ·have:=dn.1 h.apart j' i r9 Yq bc;rw[Tb,i9] at this;exact λe=>this a a' ha oe e.symm
  ·have:=dn.1 h.apart i j' Yq r9 bc;rw[Tb,i9] at this;exact this a' a oe ha
 ·rw [hk k (gm.1 pe).1 λa ha e=> ?_]
  ·exact pe
  ·subst e;obtain⟨cs,e',fr,bp⟩:=Row.lies_cells (h.own r hr) ha;rw[bp] at pe;cases pe;cases hc
theorem aEw {f g:Nat} {cb:Array Value} (Xq:aMb P f g cb) {T m c:Nat} {A:AF} {l:AE} (i:Nat) (hi:R[i]? =some ⟨T,2,A,m,c,prs l,false⟩) (fd:l≠[]) (hsz:l.length<4611686018427387904) (cmp:Int × Int->Int × Int->Int) (hO:SWO (ltOf cmp))
  (Ou: ∀W,Hp B w0 W (R.eraseIdx i)-> ∀x∈l,∀y∈l,
   Ct P g (#[.agg #[.int .i64 x.1, .int .i64 x.2], .agg #[.int .i64 y.1, .int .i64 y.2]]++cb) W.heap.size W [] (λv _=>v= .int .i64 (cmp x y))):
  Ct P f #[.slice A m c, .func (.func g) #[] cb] B w0 R (λv R'=>v= .tuple #[]/\ ∃l',l'.Perm l/\l'.Pairwise (λx y=> ¬cmp y x<0)/\R'=R.set i ⟨T,2,A,m,c,prs l',false⟩):=by
 intro w hw;have ge:=Row.lies_w (hw.own _ (fw hi)) rfl;have jj:=Row.rd (hw.own _ (fw hi))
 have hm:m=l.length:=by
  have:=jj.len;rw[jB] at this;simp only at this;omega
 have fg:0<l.length:=List.length_pos_iff.2 fd;rcases ge.2 with⟨_,hn⟩|⟨gr,cap,cur,hv,hb,hg,hnc,tk,lf,ht⟩
 ·simp only at hn;omega
 simp only[ku,Ag] at hv;obtain⟨rfl,rfl⟩:=hv;simp only at ht lf hg hnc
 haveI:Inhabited {p:Int × Int//p∈l}:=⟨⟨l[0],mf _⟩⟩
 let d:Array {p:Int × Int//p∈l}:=l.attach.toArray
 have e8:d.size=l.length:=by simp[d]
 have St:d.toList.map Subtype.val=l:=Fu l;have bc:gr<w.heap.size:=(gm.1 hg).1
 have hH:HoldsK encP 2 w gr 0 d:=by
  intro j hj
  have yd:j<l.length*2:=by
   have:j<(flatK encP 2 d).size:=hj;rw[size_flatK,e8] at this;exact this
  have hf:=TH d;rw[St] at hf
  have e:(prs l)[j]? =some ((flatK encP 2 d)[j]!):=by
   rw[<-hf,ry,qd hj,uq _ j hj]
  refine⟨?_,?_⟩
  ·rw [nu];exact hw.cellAt i hi rfl e
  ·exact hw.openAt i (0+j) hi rfl rfl
 have zc:CmpLays P g cb (encP (l:=l)) 2 (λx y=>cmp x.1 y.1) gr 0 d.size w:=by
  intro m' os dk Sr x y
  have hW:w.heap.size<=(sortWorldK (encP (l:=l)) 2 w gr 0 m' dk os).heap.size:=by
   unfold sortWorldK;rw[size_grow];unfold putRowK;rw[Go.Sort.size_putRow];exact Bv _ _
  have hk: ∀k,k<w.heap.size->(∀a:Addr,some (⟨gr,0,none⟩:Addr)=some a->a.block≠k)->(sortWorldK (encP (l:=l)) 2 w gr 0 m' dk os).heap[k]? =w.heap[k]? :=by
   intro k hk fd;have Eq:gr≠k:=fd _ rfl;unfold sortWorldK;rw[heap_grow_old _ _ (by unfold putRowK;rw[Go.Sort.size_putRow];exact hk)];simp[putRowK,putRow,mapBlock,vw,Eq,Sort.ahead]
  refine(Ou _ (hw.but (W:=sortWorldK (encP (l:=l)) 2 w gr 0 m' dk os) hi rfl rfl rfl (by show w.drawn<=w.drawn+m';omega) hW hk) x.1 x.2 y.1 y.2 _ (Hp.refl _)).mono ?_;rintro e w' ⟨v,R',rfl,hh,rfl⟩;exact⟨rfl,aBp hh.below hh.late.1⟩
 have Xm:SWO (ltOf λ(x y: {p:Int × Int//p∈l})=>cmp x.1 y.1):=⟨λx=>hO.irrefl x.1,λx y z=>hO.trans x.1 y.1 z.1,λx y z=>hO.ntrans x.1 y.1 z.1⟩;have e7:=Xq _ encP (λ_=>rfl) (λx v hv=>by simp[encP] at hv;rcases hv with rfl|rfl<;>rfl) _ Xm gr 0 c d w zc hH bc (by rw[e8];exact hsz);rw[e8,<-hm] at e7;refine e7.mono ?_;rintro e w' ⟨rfl,d',n,os,⟨ee,_,sv⟩,If,rfl⟩;have Fc:d'.size=l.length:=by rw[ee,e8]
 refine⟨_,_,rfl,?_,rfl,d'.toList.map Subtype.val,?_,?_,rfl⟩
 ·have Fm:(sortWorldK encP 2 w gr 0 n d' os).heap[gr]? =some (.cells (putCells id 0 (flatK encP 2 d') cur) T (0,0)):=by
   unfold sortWorldK;rw[heap_grow_old _ _ (by unfold putRowK;rw[Go.Sort.size_putRow];exact bc)];simp[putRowK,putRow,mapBlock,vw,Sort.ahead,hg,onCells]
  refine hw.upd hi (row:=some gr) ⟨rfl,rfl,rfl,?_,λk hk fd=> ?_⟩ ?_ (λk hk=> ?_) ?_ (λa' oe=> .inl ⟨a',oe,rfl⟩)
  ·unfold sortWorldK;rw[size_grow];unfold putRowK;rw[Go.Sort.size_putRow];exact Bv _ _
  ·have Eq:gr≠k:=λe=>fd (by rw[e]);unfold sortWorldK;rw[heap_grow_old _ _ (by unfold putRowK;rw[Go.Sort.size_putRow];exact hk)];simp[putRowK,putRow,mapBlock,vw,Eq,Sort.ahead]
  ·show w.drawn<=w.drawn+n;omega
  ·obtain rfl:=jc hk;exact⟨_,rfl,rfl⟩
  ·unfold Row.lies;simp only;refine⟨by rw[jB,cu,jr,Fc,hm], .inr ⟨gr,c,_,rfl,hb,Fm,hnc,tk,?_,?_⟩⟩
   ·simp only[putCells,Array.size_mapIdx];exact lf
   ·have hf:=TH d';rw[<-hf];have Ne:(flatK encP 2 d').size=m*2:=by rw[size_flatK,Fc,hm]
    apply uo;intro t;rw[og];split
    ·rename_i It
     have Vz:t<cur.size:=by
      have:m*2<=c*2:=ut _ hnc;omega
     rw[ry,ry,qd (by simp[putCells];exact Vz),qd (by rw[Ne];exact It)];simp only[putCells,Array.getElem_mapIdx,id];rw[df ⟨qp _,by rw[nu,Ne];exact It⟩,yo,uq _ t (by rw[Ne];exact It)]
    ·rename_i It;rw[mo (by rw[jr,Ne];omega)]
 ·have e1:(d'.extract 0 m).toList=d'.toList:=by rw[show m=d'.size by omega];simp
  have e2:(d.extract 0 m).toList=d.toList:=by rw[show m=d.size by omega];simp
  rw[e1,e2] at sv;have:=sv.map Subtype.val;rwa[St] at this
 ·refine iw.2 (dn.2 λa b ha My wc=> ?_);rw[jr] at ha My;have h1:=If a b (qp _) wc G;rw[uq d' a ha,uq d' b My] at h1;simp only[ltOf,sj] at h1;simpa using h1
end
end Go.Eng
namespace Go.Eng
open Go Go.RowKit
section
variable {B:Nat} {w0 w w':World} {R R':List Row}
theorem Hp.allocObj (h:Hp B w0 w R) (o:Obj):Hp B w0 (w.alloc o) R:=
 h.join (Rn:=[]) ⟨(Gc _ _).alloc (di _) _,cD,λ_ hr=>(by cases hr), .nil,Late.alloc _ _⟩
theorem Hp.putObj (h:Hp B w0 w R) {l:Nat} {o:Obj} (ho:w.heap[l]? =some o) (hn:aAv o=true) (o':Obj) (hB:B<=l) (h0:w0.heap.size<=l):Hp B w0 (w.putObj l o') R:=by
 refine⟨h.below.trans ((Gc _ _).grown (grownBy_putObj' w l o') h.base λk e=>by cases e;exact hB),by rw[World.putObj_size];exact h.base,λr hr=> ?_,h.apart,⟨h.late.1,λk q hk hc=> ?_⟩⟩
 ·refine Row.lies_of_block (h.own r hr) λa ha=>World.putObj_heap_other λe=> ?_;obtain⟨cs,e',fr,hc⟩:=Row.lies_cells (h.own r hr) ha;rw[e,ho] at hc;cases hc;cases hn
 ·rw [World.putObj_heap_other (λe=>by have:=(gm.1 hk).1;omega)];exact h.late.2 k q hk hc
theorem Hp.rebase (h:Hp B w0 w R):Hp B w w R:=⟨Gc _ _,h.base,h.own,h.apart,Late.refl _⟩
theorem Hp.comp (h:Hp B w0 w R) (h':Hp B w w' R'):Hp B w0 w' R':=⟨h.below.trans h'.below,h'.base,h'.own,h'.apart,h.late.trans h'.late⟩
theorem Rd.cb {W:World} {A:AF} {n c sz:Nat} {xs:AG} (h:Rd w A n c sz xs) (hb:Below w.heap.size w W) (R:List Row):RdC w.heap.size W R A n c sz xs:=
 λ_ hw=>h.below (hb.trans hw.below)
end
def mark (D:Nat):Deferred:= {target:= .collected D,args:= #[]}
section
variable {P:Program} {n:Nd} {B:Nat} {w0 w00:World} {F:Exit->Act->World->Prop} {L:Env} {R:List Row}
def V (P:Program) (n:Nd) (B:Nat) (w0:World) (c:Code) (F:Exit->Act->World->Prop) (L:Env) (R:List Row):Prop:=
 ∀a w,Sat n L a->Hp B w0 w R->c.wpIn (NF n.rd) 0 P F a w
def FQ (F:Exit->Act->World->Prop) (n:Nd) (B:Nat) (w0:World):fC:=
 ⟨λL R=> ∀a w,Sat n L a->Hp B w0 w R->F .normal a w,λL R=> ∀a w,Sat n L a->Hp B w0 w R->F .ret a w,λi L R=> ∀a w,Sat n L a->Hp B w0 w R->F (.exit i) a w⟩
theorem v_w {c:Code} (h:W P n B w0 c (FQ F n B w0) L R):V P n B w0 c F L R:=λa w hs hp=>by
 refine Bf (h a w hs hp) λe a' w' hq=> ?_;cases e with
 |normal=>obtain⟨L',R',ee,cm,hf⟩:=hq;exact hf a' w' ee cm
 |ret=>obtain⟨L',R',ee,cm,hf⟩:=hq;exact hf a' w' ee cm
 |exit i=>obtain⟨L',R',ee,cm,hf⟩:=hq;exact hf a' w' ee cm
 |goto l=>exact hq.elim
 |panic ch=>exact hq.elim
 |outgrown=>exact hq.elim
theorem gW {x y:Code} (h:W P n B w0 x {FQ F n B w0 with nrm:=λL R=>V P n B w0 y F L R} L R):V P n B w0 (.seq x y) F L R:=λa w hs hp=>by
 refine wpIn_seq (Bf (h a w hs hp) λe a' w' hq=> ?_);cases e with
 |normal=>obtain⟨L',R',ee,cm,hf⟩:=hq;exact hf a' w' ee cm
 |ret=>obtain⟨L',R',ee,cm,hf⟩:=hq;exact hf a' w' ee cm
 |exit i=>obtain⟨L',R',ee,cm,hf⟩:=hq;exact hf a' w' ee cm
 |goto l=>exact hq.elim
 |panic ch=>exact hq.elim
 |outgrown=>exact hq.elim
theorem aIz {x y:Code} (h:V P n B w0 x (Exit.then (y.wpIn (NF n.rd) 0 P F) F) L R):V P n B w0 (.seq x y) F L R:=λa w hs hp=>wpIn_seq (h a w hs hp)
def VN (n:Nd) (B:Nat) (w0:World) (F:Exit->Act->World->Prop) (L:Env) (R:List Row):Prop:= ∀a w,Sat n L a->Hp B w0 w R->F .normal a w
theorem bAp {y:Code} {rd:Option Nat} (h:V P n B w0 y F L R) (jj:n.rd=rd:=by exact rfl):VN n B w0 (Exit.then (y.wpIn (NF rd) 0 P F) F) L R:=λa w hs hp=>by subst jj;exact h a w hs hp
theorem aJb {id:Nat} (h:VN n B w0 F L R):VN n B w0 (Exit.inBlock id F) L R:=h
theorem JE {id:Nat} {c:Code} (h:V P n B w0 c (Exit.inBlock id F) L R):V P n B w0 (.block id c) F L R:=λa w hs hp=>wpIn_block (h a w hs hp)
def prm:List Nat->AG->Env->Env
 |p::ps,v::vs,L=>prm ps vs ((p,v)::L)
 |_,_,L=>L
theorem Sat.prm: ∀(pl:List Nat) (vs:AG) {m:Nat} {ds:List Deferred} {rd:Option Nat} {L:Env} {t:Array Value},pl.all (λp=>Nat.blt p m)=true->Sat ⟨m,ds,rd⟩ L {tmps:=t,defers:=ds}->
  Sat ⟨m,ds,rd⟩ (prm pl vs L) {tmps:=(pl.zip vs).foldl (λt (p,v)=>t.setIfInBounds p v) t,defers:=ds}
 |[],_,_,_,_,_,_,_,h=>h
 |_::_,[],_,_,_,_,_,_,h=>h
 |p::pl,v::vs,m,ds,rd,L,t,hp,h=>by
  simp only[Ht,pu] at hp;have h1:Sat ⟨m,ds,rd⟩ ((p,v)::L) {tmps:=t.setIfInBounds p v,defers:=ds}:=h.put (d:=p) hp.1 v;exact Sat.prm pl vs hp.2 h1
def Iter (P:Program) (gf:Nat) (lb:Array Value) (rv:World->Prop) (N:Nat) (f:Nat->AG):Prop:=
 ∀(l:Nat) (J:Nat->World->Prop) (W:World),(∀k W,J k W->rv W)->(∀k W (d:Nat),J k W->W.drawn<=d->J k {W with drawn:=d})->
  (∀k W,k<N->J k W->YieldAt Fence.wide 0 P l (f k).toArray W λe W'=>e= .returned (.bool true)/\J (k+1) W')->
  J 0 W->CallsIn Fence.wide 0 P gf (#[.func (.yield l) #[] #[]]++lb) W λe W'=>(∃v,e= .returned v)/\J N W'
structure Gd (B:Nat) (w00:World) (n:Nd) (w0:World):Prop where
 below:Below B w00 w0
 late:Late w00 w0
 nodup:n.ds.Nodup
 marks: ∀d∈n.ds,∃D,d=mark D/\B<=D/\w00.heap.size<=D/\w0.heap[D]? =some (.deferred (some []))
theorem Gd.refl {m:Nat}:Gd B w00 (m:Nd) w00:=⟨Gc _ _,Late.refl _, .nil,λ_ h=>(by cases h)⟩
theorem rounds {σ:Type} {m:Nat} {pl:List Nat} {assign body:Code} {gf:Nat} {lb:Array Value} {rv:World->Prop} {N:Nat} {f:Nat->AG} (it:Iter P gf lb rv N f)
  (ua:pl.all (λp=>Nat.blt p m)=true) (ux: ∀k,(f k).length=pl.length) (Rx:Nat->σ->List Row) (J:Nat->σ->Prop) (qt: ∀k s w,J k s->Hp B w0 w (Rx k s)->rv w)
  (round: ∀l k s W2,k<N->J k s->Below B w0 W2->W P ⟨m,[],some l⟩ B W2 assign ⟨λL' R'=> ∀W3,Below B w0 W3->W P ⟨m,[],some l⟩ B W3 body ⟨λ_ rn=> ∃s',J (k+1) s'/\ ∀W4 w,Hp B W4 w rn->Hp B W4 w (Rx (k+1) s'),λ_ _=>False,λ_ _ _=>False⟩ L' R',λ_ _=>False,λ_ _ _=>False⟩ (prm pl (f k) L) (Rx k s))
  {l:Nat} {rec:LoopState->Loop} {fn:FuncId} {t:Array Value} {Df:Nat} (lj:rec=λst=> {state:=st,pending:=none,fn,tmps:=t,params:=pl.toArray,assign,body,defers:=Df}) (ht:Sat ⟨m,[],some l⟩ L {tmps:=t,defers:=[]}) (Te:B<=l) (Ft:w0.heap.size<=l) (X:World->Prop)
  (hX: ∀W W' R R',X W->Hp B w0 W R->Hp B W W' R'->X W') (Sg: ∀W o,X W->X (W.putObj l o)) {W1:World} (Bx:W1.heap[l]? =some (.loop (rec .ready))) (Xs:X W1) {s0:σ} (Bm:J 0 s0) (sd:Hp B w0 W1 (Rx 0 s0)):
  CallsIn Fence.wide 0 P gf (#[.func (.yield l) #[] #[]]++lb) W1 λe W'=>(∃v,e= .returned v)/\ ∃s,J N s/\Hp B w0 W' (Rx N s)/\W'.heap[l]? =some (.loop (rec .ready))/\X W':=by
 refine it l (λk W=> ∃s,J k s/\Hp B w0 W (Rx k s)/\W.heap[l]? =some (.loop (rec .ready))/\X W) W1 (λk W ⟨s,hJ,hp,_⟩=>qt k s W hJ hp) (λk W d ⟨s,hJ,hp,hl,hx⟩ hd=>⟨s,hJ,hp.drawn d hd,hl,hX _ _ _ _ hx hp (hp.rebase.drawn d hd)⟩) ?_ ⟨s0,Bm,sd,Bx,Xs⟩;rintro k W hk ⟨s,hJ,hp,hl,hx⟩;have hy:=run_yield (P:=P) (args:=(f k).toArray) hl (by rw[lj];simp[ux k])
 have wk:Sat ⟨m,[],some l⟩ (prm pl (f k) L) {tmps:=(rec .ready).params.zip (f k).toArray|>.foldl (λt (p,v)=>t.setIfInBounds p v) (rec .ready).tmps,defers:=[]}:=by
  rw[lj];simpa using Sat.prm pl (f k) ua ht
 refine⟨fn,_,assign,body,by rw[hy,lj],roundIn_of_wpIn trivial ?_⟩;refine Bf ((round l k s W hk hJ hp.below) _ _ (by rw[lj] at wk;exact wk) hp.rebase) ?_;rintro e a1 Wa hq;cases e with
 | normal=>
  obtain⟨L',R',ee,cm,hb⟩:=hq;have Gk:=cm.late.2 _ _ hl rfl;have ye:=hp.comp cm;have bc:=(gm.1 Gk).1;have Ya:=run_beginRound (P:=P) Gk (by rw[lj]);refine⟨_,Ya,?_⟩;have ph:Hp B w0 (Wa.putObj l (.loop {rec .ready with state:= .busy})) R':=ye.putObj Gk rfl _ Te Ft;have un:(Wa.putObj l (.loop {rec .ready with state:= .busy})).heap[l]? =some (.loop {rec .ready with state:= .busy}):=World.putObj_heap_same bc;have hx2:=Sg _ (.loop {rec .ready with state:= .busy}) (hX _ _ _ _ hx hp cm);refine Bf (hb _ ph.below a1 _ ee ph.rebase) ?_;rintro e a3 W3 hq;cases e with
  | normal=>
   obtain⟨L3,R3,_,xb,s',Xg,Mv⟩:=hq;have j4:=xb.late.2 _ _ un rfl;have Yj:=run_endRound (P:=P) none j4;refine⟨_,_,Yj,rfl,s',Xg,?_,?_,?_⟩
   ·exact(ph.comp (Mv _ _ xb)).putObj j4 rfl _ Te Ft
   ·rw [World.putObj_heap_same (gm.1 j4).1,lj];rfl
   ·exact Sg _ _ (hX _ _ _ _ hx2 ph xb)
  |ret=>obtain⟨_,_,_,_,h⟩:=hq;exact h.elim
  |exit id=>obtain⟨_,_,_,_,h⟩:=hq;exact h.elim
  |goto t=>exact hq.elim
  |panic ch=>exact hq.elim
  |outgrown=>exact hq.elim
 |ret=>obtain⟨_,_,_,_,h⟩:=hq;exact h.elim
 |exit id=>obtain⟨_,_,_,_,h⟩:=hq;exact h.elim
 |goto t=>exact hq.elim
 |panic ch=>exact hq.elim
 |outgrown=>exact hq.elim
theorem aJa {σ:Type} {m:Nat} {ds:List Deferred} {g:Operand} {pl:List Nat} {assign body:Code} {gf:Nat} {lb:Array Value} {rv:World->Prop} {N:Nat} {f:Nat->AG} (hg:ev L g=some (.func (.func gf) #[] lb))
  (j7: ∀args w,(callFunc gf args).run P w= .ok (.enter gf args) w) (it:Iter P gf lb rv N f)
  (ua:pl.all (λp=>Nat.blt p m)=true) (ux: ∀k,(f k).length=pl.length) (hG:Gd B w00 ⟨m,ds,none⟩ w0) (Rx:Nat->σ->List Row) (J:Nat->σ->Prop) (h0: ∃s,J 0 s/\ ∀w,Hp B w0 w R->Hp B w0 w (Rx 0 s)) (qt: ∀k s w,J k s->Hp B w0 w (Rx k s)->rv w)
  (round: ∀l k s W2,k<N->J k s->Below B w0 W2->W P ⟨m,[],some l⟩ B W2 assign ⟨λL' R'=> ∀W3,Below B w0 W3->W P ⟨m,[],some l⟩ B W3 body ⟨λ_ rn=> ∃s',J (k+1) s'/\ ∀W4 w,Hp B W4 w rn->Hp B W4 w (Rx (k+1) s'),λ_ _=>False,λ_ _ _=>False⟩ L' R',λ_ _=>False,λ_ _ _=>False⟩ (prm pl (f k) L) (Rx k s))
  (after: ∀W5 D s,J N s->Below B w0 W5->Gd B w00 ⟨m,mark D::ds,none⟩ W5->VN ⟨m,mark D::ds,none⟩ B W5 F L (Rx N s)):
  V P ⟨m,ds,none⟩ B w0 (.rangeFunc g pl.toArray assign body) F L R:=by
 intro a w hs hp;refine wpIn_rangeFunc ?_;intro fn _;obtain⟨rec,lj⟩: ∃rec:LoopState->Loop,rec=λst=> {state:=st,pending:=none,fn,tmps:=a.tmps,params:=pl.toArray,assign,body,defers:=w.heap.size}:=⟨_,rfl⟩;obtain⟨W1,d8⟩: ∃W1,(w.alloc (.deferred (some []))).alloc (.loop (rec .ready))=W1:=⟨_,rfl⟩
 have Bx:W1.heap[w.heap.size+1]? =some (.loop (rec .ready)):=by
  rw[<-d8];have:=World.alloc_heap_new (w.alloc (.deferred (some []))) (.loop (rec .ready));rwa[World.size_alloc] at this
 have Xi:W1.heap[w.heap.size]? =some (.deferred (some [])):=by
  rw[<-d8];exact(Below.heap_alloc _ _ _ cD).trans (World.alloc_heap_new w _)
 obtain⟨s0,Bm,Oh⟩:=h0;have sd:Hp B w0 W1 (Rx 0 s0):=by rw[<-d8];exact((Oh w hp).allocObj _).allocObj _
 have Th:w0.heap.size<=w.heap.size:=hp.below.size;have Ti:=hp.base;refine⟨w.heap.size+1,[mark w.heap.size],W1,{target:= .fn (.func gf) lb,args:= #[.func (.yield (w.heap.size+1)) #[] #[]]},W1,gf,#[.func (.yield (w.heap.size+1)) #[] #[]]++lb,W1,?_,?_,λ_ _=>trivial,?_,λh=>(by cases h),?_⟩
 ·rw[<-d8,lj];exact run_enterLoop_outer _ _ _ _ _
 ·simp only[resolve,hs.ev hg];simp[go_sem]
 ·simp[invoke,go_sem,j7]
 ·refine CallsIn.mono (rounds (w0:=w0) (m:=m) (L:=L) it ua ux Rx J qt round (l:=w.heap.size+1) (rec:=rec) lj ⟨hs.size,rfl,hs.val⟩ G G (λW=>W.heap[w.heap.size]? =some (.deferred (some []))/\Late w W) ?_ ?_ Bx ⟨Xi,?_⟩ Bm sd) ?_
  ·rintro W W' R R' ⟨hk,hl⟩ _ h2;exact⟨h2.late.2 _ _ hk rfl,hl.trans h2.late⟩
  ·rintro W o ⟨hk,hl⟩;refine⟨(World.putObj_heap_other G).trans hk,hl.1,λk q pe hc=> ?_⟩;rw[World.putObj_heap_other (λe=>by have:=(gm.1 pe).1;omega)];exact hl.2 k q pe hc
  ·rw [<-d8];exact(Late.alloc _ _).trans (Late.alloc _ _)
  ·rintro e W2 ⟨⟨v,rfl⟩,s,hJ,ph,un,Lz,f9⟩;have ud:=run_endLoop (P:=P) un (by rw[lj];simp);have Tv:(rec .ready).pending=none:=by rw[lj]
   refine⟨none,W2.putObj (w.heap.size+1) (.loop {rec .ready with state:= .exhausted}),ud.trans (bq (λp=>Result.ok p _) Tv),?_⟩;have xb:Hp B w0 (W2.putObj (w.heap.size+1) (.loop {rec .ready with state:= .exhausted})) (Rx N s):=ph.putObj un rfl _ G G;have Ys:(W2.putObj (w.heap.size+1) (.loop {rec .ready with state:= .exhausted})).heap[w.heap.size]? =some (.deferred (some [])):=(World.putObj_heap_other G).trans Lz
   have Pe:Late w (W2.putObj (w.heap.size+1) (.loop {rec .ready with state:= .exhausted})):=⟨f9.1,λk q pe hc=>by
    rw[World.putObj_heap_other (λe=>by have:=(gm.1 pe).1;omega)]
    exact f9.2 k q pe hc⟩
   have e8:=hs.defers;refine after _ w.heap.size s hJ xb.below ⟨hG.below.trans xb.below,hG.late.trans xb.late,wo.2 ⟨λgd=> ?_,hG.nodup⟩,λd hd=> ?_⟩ _ _ ⟨hs.size,by simp only[qc,e8],hs.val⟩ xb.rebase
   ·obtain ⟨D,he,_,_,hD⟩:=hG.marks _ gd;have h1:=(gm.1 hD).1;simp only[mark,Deferred.mk.injEq,Target.collected.injEq,Au] at he;omega
   ·rcases jm.1 hd with rfl|hd
    ·exact⟨_,rfl,G,by have:=hG.below.size;omega,Ys⟩
    ·obtain ⟨D,he,h1,h2,hD⟩:=hG.marks _ hd;exact⟨D,he,h1,h2,xb.late.2 _ _ hD rfl⟩
theorem aSb {σ0 σ1:Type} {m:Nat} {ds:List Deferred} {g:Operand} {pl:List Nat} {assign body:Code} {gf:Nat} {lb:Array Value} {rv:World->Prop} {N:Nat} {f:Nat->AG} (hg:ev L g=some (.func (.func gf) #[] lb))
  (j7: ∀args w,(callFunc gf args).run P w= .ok (.enter gf args) w) (it:Iter P gf lb rv N f)
  (ua:pl.all (λp=>Nat.blt p m)=true) (ux: ∀k,(f k).length=pl.length) (hG:Gd B w00 ⟨m,ds,none⟩ w0) (Rx:Nat->σ0->σ1->List Row) (J:Nat->σ0->σ1->Prop)
  (h0: ∃x0 x1,J 0 x0 x1/\ ∀w,Hp B w0 w R->Hp B w0 w (Rx 0 x0 x1)) (qt: ∀k x0 x1 w,J k x0 x1->Hp B w0 w (Rx k x0 x1)->rv w)
  (round: ∀l k x0 x1 W2,k<N->J k x0 x1->Below B w0 W2->W P ⟨m,[],some l⟩ B W2 assign ⟨λL' R'=> ∀W3,Below B w0 W3->W P ⟨m,[],some l⟩ B W3 body ⟨λ_ rn=> ∃y0 y1,J (k+1) y0 y1/\ ∀W4 w,Hp B W4 w rn->Hp B W4 w (Rx (k+1) y0 y1),λ_ _=>False,λ_ _ _=>False⟩ L' R',λ_ _=>False,λ_ _ _=>False⟩ (prm pl (f k) L) (Rx k x0 x1))
  (after: ∀W5 D x0 x1,J N x0 x1->Below B w0 W5->Gd B w00 ⟨m,mark D::ds,none⟩ W5->VN ⟨m,mark D::ds,none⟩ B W5 F L (Rx N x0 x1)):
  V P ⟨m,ds,none⟩ B w0 (.rangeFunc g pl.toArray assign body) F L R:=by
 obtain⟨x0,x1,h1,h2⟩:=h0;refine aJa (σ:=σ0 × σ1) hg j7 it ua ux hG (λk p=>Rx k p.1 p.2) (λk p=>J k p.1 p.2) ⟨(x0,x1),h1,h2⟩ (λk p=>qt k p.1 p.2) (λl k p W2 hk hp hb=>iG (round l k p.1 p.2 W2 hk hp hb) ?_ (λ_ _ h=>h) (λ_ _ _ h=>h)) (λW5 D p=>after W5 D p.1 p.2);intro L' R' h W3 Ls;refine iG (h W3 Ls) ?_ (λ_ _ h=>h) (λ_ _ _ h=>h);rintro _ rn ⟨y0,y1,g1,g2⟩;exact⟨(y0,y1),g1,g2⟩
theorem XY {σ0 σ1 σ2 σ3:Type} {m:Nat} {ds:List Deferred} {g:Operand} {pl:List Nat} {assign body:Code} {gf:Nat} {lb:Array Value} {rv:World->Prop} {N:Nat} {f:Nat->AG} (hg:ev L g=some (.func (.func gf) #[] lb))
  (j7: ∀args w,(callFunc gf args).run P w= .ok (.enter gf args) w) (it:Iter P gf lb rv N f)
  (ua:pl.all (λp=>Nat.blt p m)=true) (ux: ∀k,(f k).length=pl.length) (hG:Gd B w00 ⟨m,ds,none⟩ w0) (Rx:Nat->σ0->σ1->σ2->σ3->List Row) (J:Nat->σ0->σ1->σ2->σ3->Prop)
  (h0: ∃x0 x1 x2 x3,J 0 x0 x1 x2 x3/\ ∀w,Hp B w0 w R->Hp B w0 w (Rx 0 x0 x1 x2 x3)) (qt: ∀k x0 x1 x2 x3 w,J k x0 x1 x2 x3->Hp B w0 w (Rx k x0 x1 x2 x3)->rv w)
  (round: ∀l k x0 x1 x2 x3 W2,k<N->J k x0 x1 x2 x3->Below B w0 W2->W P ⟨m,[],some l⟩ B W2 assign ⟨λL' R'=> ∀W3,Below B w0 W3->W P ⟨m,[],some l⟩ B W3 body ⟨λ_ rn=> ∃y0 y1 y2 y3,J (k+1) y0 y1 y2 y3/\ ∀W4 w,Hp B W4 w rn->Hp B W4 w (Rx (k+1) y0 y1 y2 y3),λ_ _=>False,λ_ _ _=>False⟩ L' R',λ_ _=>False,λ_ _ _=>False⟩ (prm pl (f k) L) (Rx k x0 x1 x2 x3))
  (after: ∀W5 D x0 x1 x2 x3,J N x0 x1 x2 x3->Below B w0 W5->Gd B w00 ⟨m,mark D::ds,none⟩ W5->VN ⟨m,mark D::ds,none⟩ B W5 F L (Rx N x0 x1 x2 x3)):
  V P ⟨m,ds,none⟩ B w0 (.rangeFunc g pl.toArray assign body) F L R:=by
 obtain⟨x0,x1,x2,x3,h1,h2⟩:=h0;refine aJa (σ:=σ0 × σ1 × σ2 × σ3) hg j7 it ua ux hG (λk p=>Rx k p.1 p.2.1 p.2.2.1 p.2.2.2) (λk p=>J k p.1 p.2.1 p.2.2.1 p.2.2.2) ⟨(x0,x1,x2,x3),h1,h2⟩ (λk p=>qt k p.1 p.2.1 p.2.2.1 p.2.2.2) (λl k p W2 hk hp hb=>iG (round l k p.1 p.2.1 p.2.2.1 p.2.2.2 W2 hk hp hb) ?_ (λ_ _ h=>h) (λ_ _ _ h=>h)) (λW5 D p=>after W5 D p.1 p.2.1 p.2.2.1 p.2.2.2);intro L' R' h W3 Ls;refine iG (h W3 Ls) ?_ (λ_ _ h=>h) (λ_ _ _ h=>h);rintro _ rn ⟨y0,y1,y2,y3,g1,g2⟩;exact⟨(y0,y1,y2,y3),g1,g2⟩
def Fin (P:Program) (fn:Func) (B:Nat) (w00:World) (Post:Value->List Row->Prop):Exit->Act->World->Prop:=
 bodyPostM Fence.wide 0 P fn λe w'=> ∃v R',e= .returned v/\Hp B w00 w' R'/\Post v R'
theorem CY {fn:Func} {Post:Value->List Row->Prop} {tmps:Array Value} {v:Value} {w0:World} (hB:Below B w00 w0) (hL:Late w00 w0): ∀(ds:List Deferred) (w:World),ds.Nodup->(∀d∈ds,∃D,d=mark D/\B<=D/\w00.heap.size<=D/\w.heap[D]? =some (.deferred (some [])))->Hp B w00 w R->(∀w,(results fn tmps).run P w= .ok v w)->Post v R->
  LeavesInM Fence.wide 0 P fn tmps (λe w'=> ∃v R',e= .returned v/\Hp B w00 w' R'/\Post v R') ds .returning w
 |[],w,_,_,hp,hr,hv=>⟨v,hr w,v,R,rfl,hp,hv⟩
 |d::ds,w,hn,hm,hp,hr,hv=>by
  obtain⟨D,rfl,h1,h2,hD⟩:=hm _ (.head _);refine⟨cD, .inl ⟨D,_,rfl,run_takeDeferred hD,CY hB hL ds _ (wo.1 hn).2 (λd hd=> ?_) (hp.putObj hD rfl _ h1 h2) hr hv⟩⟩;obtain⟨D',he,Wy,h2',hD'⟩:=hm d (.tail _ hd);refine⟨D',he,Wy,h2',(World.putObj_heap_other λe=> ?_).trans hD'⟩;subst e;subst he;exact(wo.1 hn).1 hd
theorem aWy {fn:Func} {Post:Value->List Row->Prop} {v:Value} (hG:Gd B w00 n w0) (Ml: ∀a w,Sat n L a->(results fn a.tmps).run P w= .ok v w) (hv:Post v R): ∀a w,Sat n L a->Hp B w0 w R->Fin P fn B w00 Post .ret a w/\Fin P fn B w00 Post .normal a w:=by
 intro a w hs hp;have cm:Hp B w00 w R:=⟨hG.below.trans hp.below,hp.base,hp.own,hp.apart,hG.late.trans hp.late⟩
 have h:=CY (P:=P) (fn:=fn) (Post:=Post) (tmps:=a.tmps) (v:=v) hG.below hG.late n.ds w hG.nodup (λd hd=>by
  obtain⟨D,he,h1,h2,hD⟩:=hG.marks d hd
  exact⟨D,he,h1,h2,hp.late.2 _ _ hD rfl⟩) cm (λw=>Ml a w hs) hv
 rw[<-hs.defers] at h;exact⟨h,h⟩
theorem bQj {fn:Func} {Post:Value->List Row->Prop} {r:Nat} (hr:fn.results= #[.tmp r]) (hG:Gd B w00 n w0) (h: ∃v,lk L r=some v/\Post v R): ∀a w,Sat n L a->Hp B w0 w R->Fin P fn B w00 Post .ret a w:=by
 obtain⟨v,hv,nh⟩:=h;exact λa w hs hp=>(aWy hG (λa w hs=>by rw[results_tmp hr,hs.getD hv]) nh a w hs hp).1
theorem aWz {fn:Func} {Post:Value->List Row->Prop} {r s:Nat} (hr:fn.results= #[.tmp r, .tmp s]) (hG:Gd B w00 n w0) (h: ∃v u,lk L r=some v/\lk L s=some u/\Post (.tuple #[v,u]) R): ∀a w,Sat n L a->Hp B w0 w R->Fin P fn B w00 Post .ret a w:=by
 obtain⟨v,u,hv,hu,nh⟩:=h;exact λa w hs hp=>(aWy hG (λa w hs=>by rw[results_tmp2 hr,hs.getD hv,hs.getD hu]) nh a w hs hp).1
theorem fnV {f:FuncId} {fn:Func} {c:Code} {args:AG} {Post:Value->List Row->Prop} (hf:P.funcs[f]? =some fn) (hb:fn.body=some c) (hl:Nat.ble args.length fn.ntmps=true)
  (h:V P (fn.ntmps:Nd) B w00 c (Fin P fn B w00 Post) (ini 0 args) R):Ct P f args.toArray B w00 R Post:=by
 intro w hw;have wj:args.length<=fn.ntmps:=au hl;refine callsIn_wide.1 (callsIn_of_wp_marks (F:=Fence.wide) (n:=0) hf hb trivial (h _ w ⟨cH,rfl,λt v ht=> ?_⟩ hw));obtain⟨_,h2⟩:=WA args 0 t v ht;simp only[yo] at h2;have bc:=(dw.1 h2).1;rw[<-h2];simp[zo,bc]
end
section
variable {P:Program} {n:Nd} {B:Nat} {w0 w00:World} {F:Exit->Act->World->Prop} {L:Env} {R:List Row}
theorem aJm {σ:Type} {m:Nat} {pl:List Nat} {assign body:Code} {gf:Nat} {lb:Array Value} {rv:World->Prop} {N:Nat} {f:Nat->AG} (it:Iter P gf lb rv N f)
  (ua:pl.all (λp=>Nat.blt p m)=true) (ux: ∀k,(f k).length=pl.length) (Rx:Nat->σ->List Row) (J:Nat->σ->Prop) (qt: ∀k s w,J k s->Hp B w0 w (Rx k s)->rv w)
  (round: ∀l k s W2,k<N->J k s->Below B w0 W2->W P ⟨m,[],some l⟩ B W2 assign ⟨λL' R'=> ∀W3,Below B w0 W3->(∃rc,W3.heap[l]? =some (.loop rc))->W P ⟨m,[],some l⟩ B W3 body ⟨λ_ rn=> ∃s',J (k+1) s'/\ ∀W4 w,Hp B W4 w rn->Hp B W4 w (Rx (k+1) s'),λ_ _=>False,λ_ _ _=>False⟩ L' R',λ_ _=>False,λ_ _ _=>False⟩ (prm pl (f k) L) (Rx k s))
  {l:Nat} {rec:LoopState->Loop} {fn:FuncId} {t:Array Value} {Df:Nat} (lj:rec=λst=> {state:=st,pending:=none,fn,tmps:=t,params:=pl.toArray,assign,body,defers:=Df}) (ht:Sat ⟨m,[],some l⟩ L {tmps:=t,defers:=[]}) (Te:B<=l) (Ft:w0.heap.size<=l) (X:World->Prop)
  (hX: ∀W W' R R',X W->Hp B w0 W R->Hp B W W' R'->X W') (Sg: ∀W o,X W->X (W.putObj l o)) {W1:World} (Bx:W1.heap[l]? =some (.loop (rec .ready))) (Xs:X W1) {s0:σ} (Bm:J 0 s0) (sd:Hp B w0 W1 (Rx 0 s0)):
  CallsIn Fence.wide 0 P gf (#[.func (.yield l) #[] #[]]++lb) W1 λe W'=>(∃v,e= .returned v)/\ ∃s,J N s/\Hp B w0 W' (Rx N s)/\W'.heap[l]? =some (.loop (rec .ready))/\X W':=by
 refine it l (λk W=> ∃s,J k s/\Hp B w0 W (Rx k s)/\W.heap[l]? =some (.loop (rec .ready))/\X W) W1 (λk W ⟨s,hJ,hp,_⟩=>qt k s W hJ hp) (λk W d ⟨s,hJ,hp,hl,hx⟩ hd=>⟨s,hJ,hp.drawn d hd,hl,hX _ _ _ _ hx hp (hp.rebase.drawn d hd)⟩) ?_ ⟨s0,Bm,sd,Bx,Xs⟩;rintro k W hk ⟨s,hJ,hp,hl,hx⟩;have hy:=run_yield (P:=P) (args:=(f k).toArray) hl (by rw[lj];simp[ux k])
 have wk:Sat ⟨m,[],some l⟩ (prm pl (f k) L) {tmps:=(rec .ready).params.zip (f k).toArray|>.foldl (λt (p,v)=>t.setIfInBounds p v) (rec .ready).tmps,defers:=[]}:=by
  rw[lj];simpa using Sat.prm pl (f k) ua ht
 refine⟨fn,_,assign,body,by rw[hy,lj],roundIn_of_wpIn trivial ?_⟩;refine Bf ((round l k s W hk hJ hp.below) _ _ (by rw[lj] at wk;exact wk) hp.rebase) ?_;rintro e a1 Wa hq;cases e with
 | normal=>
  obtain⟨L',R',ee,cm,hb⟩:=hq;have Gk:=cm.late.2 _ _ hl rfl;have ye:=hp.comp cm;have bc:=(gm.1 Gk).1;have Ya:=run_beginRound (P:=P) Gk (by rw[lj]);refine⟨_,Ya,?_⟩;have ph:Hp B w0 (Wa.putObj l (.loop {rec .ready with state:= .busy})) R':=ye.putObj Gk rfl _ Te Ft;have un:(Wa.putObj l (.loop {rec .ready with state:= .busy})).heap[l]? =some (.loop {rec .ready with state:= .busy}):=World.putObj_heap_same bc;have hx2:=Sg _ (.loop {rec .ready with state:= .busy}) (hX _ _ _ _ hx hp cm);refine Bf (hb _ ph.below ⟨_,un⟩ a1 _ ee ph.rebase) ?_;rintro e a3 W3 hq;cases e with
  | normal=>
   obtain⟨L3,R3,_,xb,s',Xg,Mv⟩:=hq;have j4:=xb.late.2 _ _ un rfl;have Yj:=run_endRound (P:=P) none j4;refine⟨_,_,Yj,rfl,s',Xg,?_,?_,?_⟩
   ·exact(ph.comp (Mv _ _ xb)).putObj j4 rfl _ Te Ft
   ·rw [World.putObj_heap_same (gm.1 j4).1,lj];rfl
   ·exact Sg _ _ (hX _ _ _ _ hx2 ph xb)
  |ret=>obtain⟨_,_,_,_,h⟩:=hq;exact h.elim
  |exit id=>obtain⟨_,_,_,_,h⟩:=hq;exact h.elim
  |goto t=>exact hq.elim
  |panic ch=>exact hq.elim
  |outgrown=>exact hq.elim
 |ret=>obtain⟨_,_,_,_,h⟩:=hq;exact h.elim
 |exit id=>obtain⟨_,_,_,_,h⟩:=hq;exact h.elim
 |goto t=>exact hq.elim
 |panic ch=>exact hq.elim
 |outgrown=>exact hq.elim
theorem aSa {σ:Type} {m:Nat} {ds:List Deferred} {g:Operand} {pl:List Nat} {assign body:Code} {gf:Nat} {lb:Array Value} {rv:World->Prop} {N:Nat} {f:Nat->AG} (hg:ev L g=some (.func (.func gf) #[] lb))
  (j7: ∀args w,(callFunc gf args).run P w= .ok (.enter gf args) w) (it:Iter P gf lb rv N f)
  (ua:pl.all (λp=>Nat.blt p m)=true) (ux: ∀k,(f k).length=pl.length) (hG:Gd B w00 ⟨m,ds,none⟩ w0) (Rx:Nat->σ->List Row) (J:Nat->σ->Prop) (h0: ∃s,J 0 s/\ ∀w,Hp B w0 w R->Hp B w0 w (Rx 0 s)) (qt: ∀k s w,J k s->Hp B w0 w (Rx k s)->rv w)
  (round: ∀l k s W2,k<N->J k s->Below B w0 W2->W P ⟨m,[],some l⟩ B W2 assign ⟨λL' R'=> ∀W3,Below B w0 W3->(∃rc,W3.heap[l]? =some (.loop rc))->W P ⟨m,[],some l⟩ B W3 body ⟨λ_ rn=> ∃s',J (k+1) s'/\ ∀W4 w,Hp B W4 w rn->Hp B W4 w (Rx (k+1) s'),λ_ _=>False,λ_ _ _=>False⟩ L' R',λ_ _=>False,λ_ _ _=>False⟩ (prm pl (f k) L) (Rx k s))
  (after: ∀W5 D s,J N s->Below B w0 W5->Gd B w00 ⟨m,mark D::ds,none⟩ W5->VN ⟨m,mark D::ds,none⟩ B W5 F L (Rx N s)):
  V P ⟨m,ds,none⟩ B w0 (.rangeFunc g pl.toArray assign body) F L R:=by
 intro a w hs hp;refine wpIn_rangeFunc ?_;intro fn _;obtain⟨rec,lj⟩: ∃rec:LoopState->Loop,rec=λst=> {state:=st,pending:=none,fn,tmps:=a.tmps,params:=pl.toArray,assign,body,defers:=w.heap.size}:=⟨_,rfl⟩;obtain⟨W1,d8⟩: ∃W1,(w.alloc (.deferred (some []))).alloc (.loop (rec .ready))=W1:=⟨_,rfl⟩
 have Bx:W1.heap[w.heap.size+1]? =some (.loop (rec .ready)):=by
  rw[<-d8];have:=World.alloc_heap_new (w.alloc (.deferred (some []))) (.loop (rec .ready));rwa[World.size_alloc] at this
 have Xi:W1.heap[w.heap.size]? =some (.deferred (some [])):=by
  rw[<-d8];exact(Below.heap_alloc _ _ _ cD).trans (World.alloc_heap_new w _)
 obtain⟨s0,Bm,Oh⟩:=h0;have sd:Hp B w0 W1 (Rx 0 s0):=by rw[<-d8];exact((Oh w hp).allocObj _).allocObj _
 have Th:w0.heap.size<=w.heap.size:=hp.below.size;have Ti:=hp.base;refine⟨w.heap.size+1,[mark w.heap.size],W1,{target:= .fn (.func gf) lb,args:= #[.func (.yield (w.heap.size+1)) #[] #[]]},W1,gf,#[.func (.yield (w.heap.size+1)) #[] #[]]++lb,W1,?_,?_,λ_ _=>trivial,?_,λh=>(by cases h),?_⟩
 ·rw[<-d8,lj];exact run_enterLoop_outer _ _ _ _ _
 ·simp only[resolve,hs.ev hg];simp[go_sem]
 ·simp[invoke,go_sem,j7]
 ·refine CallsIn.mono (aJm (w0:=w0) (m:=m) (L:=L) it ua ux Rx J qt round (l:=w.heap.size+1) (rec:=rec) lj ⟨hs.size,rfl,hs.val⟩ G G (λW=>W.heap[w.heap.size]? =some (.deferred (some []))/\Late w W) ?_ ?_ Bx ⟨Xi,?_⟩ Bm sd) ?_
  ·rintro W W' R R' ⟨hk,hl⟩ _ h2;exact⟨h2.late.2 _ _ hk rfl,hl.trans h2.late⟩
  ·rintro W o ⟨hk,hl⟩;refine⟨(World.putObj_heap_other G).trans hk,hl.1,λk q pe hc=> ?_⟩;rw[World.putObj_heap_other (λe=>by have:=(gm.1 pe).1;omega)];exact hl.2 k q pe hc
  ·rw [<-d8];exact(Late.alloc _ _).trans (Late.alloc _ _)
  ·rintro e W2 ⟨⟨v,rfl⟩,s,hJ,ph,un,Lz,f9⟩;have ud:=run_endLoop (P:=P) un (by rw[lj];simp);have Tv:(rec .ready).pending=none:=by rw[lj]
   refine⟨none,W2.putObj (w.heap.size+1) (.loop {rec .ready with state:= .exhausted}),ud.trans (bq (λp=>Result.ok p _) Tv),?_⟩;have xb:Hp B w0 (W2.putObj (w.heap.size+1) (.loop {rec .ready with state:= .exhausted})) (Rx N s):=ph.putObj un rfl _ G G;have Ys:(W2.putObj (w.heap.size+1) (.loop {rec .ready with state:= .exhausted})).heap[w.heap.size]? =some (.deferred (some [])):=(World.putObj_heap_other G).trans Lz
   have Pe:Late w (W2.putObj (w.heap.size+1) (.loop {rec .ready with state:= .exhausted})):=⟨f9.1,λk q pe hc=>by
    rw[World.putObj_heap_other (λe=>by have:=(gm.1 pe).1;omega)]
    exact f9.2 k q pe hc⟩
   have e8:=hs.defers;refine after _ w.heap.size s hJ xb.below ⟨hG.below.trans xb.below,hG.late.trans xb.late,wo.2 ⟨λgd=> ?_,hG.nodup⟩,λd hd=> ?_⟩ _ _ ⟨hs.size,by simp only[qc,e8],hs.val⟩ xb.rebase
   ·obtain ⟨D,he,_,_,hD⟩:=hG.marks _ gd;have h1:=(gm.1 hD).1;simp only[mark,Deferred.mk.injEq,Target.collected.injEq,Au] at he;omega
   ·rcases jm.1 hd with rfl|hd
    ·exact⟨_,rfl,G,by have:=hG.below.size;omega,Ys⟩
    ·obtain ⟨D,he,h1,h2,hD⟩:=hG.marks _ hd;exact⟨D,he,h1,h2,xb.late.2 _ _ hD rfl⟩
theorem aMi {σ0 σ1 σ2 σ3:Type} {m:Nat} {ds:List Deferred} {g:Operand} {pl:List Nat} {assign body:Code} {gf:Nat} {lb:Array Value} {rv:World->Prop} {N:Nat} {f:Nat->AG} (hg:ev L g=some (.func (.func gf) #[] lb))
  (j7: ∀args w,(callFunc gf args).run P w= .ok (.enter gf args) w) (it:Iter P gf lb rv N f)
  (ua:pl.all (λp=>Nat.blt p m)=true) (ux: ∀k,(f k).length=pl.length) (hG:Gd B w00 ⟨m,ds,none⟩ w0) (Rx:Nat->σ0->σ1->σ2->σ3->List Row) (J:Nat->σ0->σ1->σ2->σ3->Prop)
  (h0: ∃x0 x1 x2 x3,J 0 x0 x1 x2 x3/\ ∀w,Hp B w0 w R->Hp B w0 w (Rx 0 x0 x1 x2 x3)) (qt: ∀k x0 x1 x2 x3 w,J k x0 x1 x2 x3->Hp B w0 w (Rx k x0 x1 x2 x3)->rv w)
  (round: ∀l k x0 x1 x2 x3 W2,k<N->J k x0 x1 x2 x3->Below B w0 W2->W P ⟨m,[],some l⟩ B W2 assign ⟨λL' R'=> ∀W3,Below B w0 W3->(∃rc,W3.heap[l]? =some (.loop rc))->W P ⟨m,[],some l⟩ B W3 body ⟨λ_ rn=> ∃y0 y1 y2 y3,J (k+1) y0 y1 y2 y3/\ ∀W4 w,Hp B W4 w rn->Hp B W4 w (Rx (k+1) y0 y1 y2 y3),λ_ _=>False,λ_ _ _=>False⟩ L' R',λ_ _=>False,λ_ _ _=>False⟩ (prm pl (f k) L) (Rx k x0 x1 x2 x3))
  (after: ∀W5 D x0 x1 x2 x3,J N x0 x1 x2 x3->Below B w0 W5->Gd B w00 ⟨m,mark D::ds,none⟩ W5->VN ⟨m,mark D::ds,none⟩ B W5 F L (Rx N x0 x1 x2 x3)):
  V P ⟨m,ds,none⟩ B w0 (.rangeFunc g pl.toArray assign body) F L R:=by
 obtain⟨x0,x1,x2,x3,h1,h2⟩:=h0;refine aSa (σ:=σ0 × σ1 × σ2 × σ3) hg j7 it ua ux hG (λk p=>Rx k p.1 p.2.1 p.2.2.1 p.2.2.2) (λk p=>J k p.1 p.2.1 p.2.2.1 p.2.2.2) ⟨(x0,x1,x2,x3),h1,h2⟩ (λk p=>qt k p.1 p.2.1 p.2.2.1 p.2.2.2) (λl k p W2 hk hp hb=>iG (round l k p.1 p.2.1 p.2.2.1 p.2.2.2 W2 hk hp hb) ?_ (λ_ _ h=>h) (λ_ _ _ h=>h)) (λW5 D p=>after W5 D p.1 p.2.1 p.2.2.1 p.2.2.2);intro L' R' h W3 Ls j4;refine iG (h W3 Ls j4) ?_ (λ_ _ h=>h) (λ_ _ _ h=>h);rintro _ rn ⟨y0,y1,y2,y3,g1,g2⟩;exact⟨(y0,y1,y2,y3),g1,g2⟩
theorem bAo {σ:Type} {m l0:Nat} {g:Operand} {pl:List Nat} {assign body:Code} {gf:Nat} {lb:Array Value} {rv:World->Prop} {N:Nat} {f:Nat->AG} {Q:fC} (hg:ev L g=some (.func (.func gf) #[] lb))
  (j7: ∀args w,(callFunc gf args).run P w= .ok (.enter gf args) w) (it:Iter P gf lb rv N f)
  (ua:pl.all (λp=>Nat.blt p m)=true) (ux: ∀k,(f k).length=pl.length) (Ft: ∃rc,w0.heap[l0]? =some (.loop rc)) (Rx:Nat->σ->List Row) (J:Nat->σ->Prop) (h0: ∃s,J 0 s/\ ∀w,Hp B w0 w R->Hp B w0 w (Rx 0 s)) (qt: ∀k s w,J k s->Hp B w0 w (Rx k s)->rv w)
  (round: ∀l k s W2,k<N->J k s->Below B w0 W2->W P ⟨m,[],some l⟩ B W2 assign ⟨λL' R'=> ∀W3,Below B w0 W3->(∃rc,W3.heap[l]? =some (.loop rc))->W P ⟨m,[],some l⟩ B W3 body ⟨λ_ rn=> ∃s',J (k+1) s'/\ ∀W4 w,Hp B W4 w rn->Hp B W4 w (Rx (k+1) s'),λ_ _=>False,λ_ _ _=>False⟩ L' R',λ_ _=>False,λ_ _ _=>False⟩ (prm pl (f k) L) (Rx k s))
  (after: ∀s,J N s->Q.nrm L (Rx N s)):
  W P ⟨m,[],some l0⟩ B w0 (.rangeFunc g pl.toArray assign body) Q L R:=by
 obtain⟨r0,Vy⟩:=Ft;intro a w hs hp;have Yt:=hp.late.2 _ _ Vy rfl;refine wpIn_rangeFunc ?_;intro fn _;obtain⟨rec,lj⟩: ∃rec:LoopState->Loop,rec=λst=> {state:=st,pending:=none,fn,tmps:=a.tmps,params:=pl.toArray,assign,body,defers:=r0.defers}:=⟨_,rfl⟩;obtain⟨W1,d8⟩: ∃W1,w.alloc (.loop (rec .ready))=W1:=⟨_,rfl⟩;have Bx:W1.heap[w.heap.size]? =some (.loop (rec .ready)):=by rw[<-d8];exact World.alloc_heap_new w _
 obtain⟨s0,Bm,Oh⟩:=h0;have sd:Hp B w0 W1 (Rx 0 s0):=by rw[<-d8];exact(Oh w hp).allocObj _
 have Th:w0.heap.size<=w.heap.size:=hp.below.size;have Ti:=hp.base;refine⟨w.heap.size,[],W1,{target:= .fn (.func gf) lb,args:= #[.func (.yield w.heap.size) #[] #[]]},W1,gf,#[.func (.yield w.heap.size) #[] #[]]++lb,W1,?_,?_,λ_ _=>trivial,?_,λh=>(by cases h),?_⟩
 ·rw[<-d8,lj];exact run_enterLoop_inner Yt _ _ _ _ _
 ·simp only[resolve,hs.ev hg];simp[go_sem]
 ·simp[invoke,go_sem,j7]
 ·refine CallsIn.mono (aJm (w0:=w0) (m:=m) (L:=L) it ua ux Rx J qt round (l:=w.heap.size) (rec:=rec) lj ⟨hs.size,rfl,hs.val⟩ G G (λ_=>True) (λ_ _ _ _ _ _ _=>trivial) (λ_ _ _=>trivial) Bx trivial Bm sd) ?_;rintro e W2 ⟨⟨v,rfl⟩,s,hJ,ph,un,_⟩;have ud:=run_endLoop (P:=P) un (by rw[lj];simp);have Tv:(rec .ready).pending=none:=by rw[lj]
  refine⟨none,W2.putObj w.heap.size (.loop {rec .ready with state:= .exhausted}),ud.trans (bq (λp=>Result.ok p _) Tv),?_⟩;have e8:=hs.defers;exact⟨L,Rx N s,⟨hs.size,by simp only[je,e8],hs.val⟩,ph.putObj un rfl _ G G,after s hJ⟩
theorem aRx {σ0 σ1 σ2 σ3:Type} {m l0:Nat} {g:Operand} {pl:List Nat} {assign body:Code} {gf:Nat} {lb:Array Value} {rv:World->Prop} {N:Nat} {f:Nat->AG} {Q:fC} (hg:ev L g=some (.func (.func gf) #[] lb))
  (j7: ∀args w,(callFunc gf args).run P w= .ok (.enter gf args) w) (it:Iter P gf lb rv N f)
  (ua:pl.all (λp=>Nat.blt p m)=true) (ux: ∀k,(f k).length=pl.length) (Ft: ∃rc,w0.heap[l0]? =some (.loop rc)) (Rx:Nat->σ0->σ1->σ2->σ3->List Row) (J:Nat->σ0->σ1->σ2->σ3->Prop)
  (h0: ∃x0 x1 x2 x3,J 0 x0 x1 x2 x3/\ ∀w,Hp B w0 w R->Hp B w0 w (Rx 0 x0 x1 x2 x3)) (qt: ∀k x0 x1 x2 x3 w,J k x0 x1 x2 x3->Hp B w0 w (Rx k x0 x1 x2 x3)->rv w)
  (round: ∀l k x0 x1 x2 x3 W2,k<N->J k x0 x1 x2 x3->Below B w0 W2->W P ⟨m,[],some l⟩ B W2 assign ⟨λL' R'=> ∀W3,Below B w0 W3->(∃rc,W3.heap[l]? =some (.loop rc))->W P ⟨m,[],some l⟩ B W3 body ⟨λ_ rn=> ∃y0 y1 y2 y3,J (k+1) y0 y1 y2 y3/\ ∀W4 w,Hp B W4 w rn->Hp B W4 w (Rx (k+1) y0 y1 y2 y3),λ_ _=>False,λ_ _ _=>False⟩ L' R',λ_ _=>False,λ_ _ _=>False⟩ (prm pl (f k) L) (Rx k x0 x1 x2 x3))
  (after: ∀x0 x1 x2 x3,J N x0 x1 x2 x3->Q.nrm L (Rx N x0 x1 x2 x3)):
  W P ⟨m,[],some l0⟩ B w0 (.rangeFunc g pl.toArray assign body) Q L R:=by
 obtain⟨x0,x1,x2,x3,h1,h2⟩:=h0;refine bAo (σ:=σ0 × σ1 × σ2 × σ3) hg j7 it ua ux Ft (λk p=>Rx k p.1 p.2.1 p.2.2.1 p.2.2.2) (λk p=>J k p.1 p.2.1 p.2.2.1 p.2.2.2) ⟨(x0,x1,x2,x3),h1,h2⟩ (λk p=>qt k p.1 p.2.1 p.2.2.1 p.2.2.2) (λl k p W2 hk hp hb=>iG (round l k p.1 p.2.1 p.2.2.1 p.2.2.2 W2 hk hp hb) ?_ (λ_ _ h=>h) (λ_ _ _ h=>h)) (λp=>after p.1 p.2.1 p.2.2.1 p.2.2.2);intro L' R' h W3 Ls j4;refine iG (h W3 Ls j4) ?_ (λ_ _ h=>h) (λ_ _ _ h=>h);rintro _ rn ⟨y0,y1,y2,y3,g1,g2⟩;exact⟨(y0,y1,y2,y3),g1,g2⟩
def SlR (k:IntKind) (Rs:List Row) (vals:AG) (ls:AD):Prop:=vals.length=ls.length/\ ∀j:Nat,j<ls.length-> ∃(A:AF) (c:Nat),vals[j]? =some (.slice A (ls.getD j []).length c)/\ ∀(B:Nat) (w0 w:World),Hp B w0 w Rs->Rd w A (ls.getD j []).length c 1 (ints k (ls.getD j []))
theorem SlR.nil (k:IntKind):SlR k [] [] []:=⟨rfl,λj hj=>by simp at hj⟩
theorem SlR.snoc {k:IntKind} {Rs:List Row} {vals:AG} {ls:AD} {A:AF} {n c e:Nat} {l:AH} {ro:Bool} (h:SlR k Rs vals ls) (hn:n=l.length):SlR k (⟨e,1,A,n,c,ints k l,ro⟩::Rs) (vals++[.slice A n c]) (ls++[l]):=by
 subst hn;refine⟨by simp[h.1],λj hj=> ?_⟩;rcases fo j ls.length with g|g
 ·obtain ⟨A',c',h1,h2⟩:=h.2 j g
  have e1:(ls++[l]).getD j []=ls.getD j []:=by
   rw[ak,ak,ji g]
  rw[e1];exact⟨A',c',by rw[ji (by rw[h.1];exact g)];exact h1,λB w0 w hw=>h2 B w0 w hw.tail⟩
 ·have r9:j=ls.length:=by simp at hj;omega
  subst r9;have e1:(ls++[l]).getD ls.length []=l:=by simp[ak]
  rw[e1];refine⟨A,c,by rw[<-h.1];simp,λB w0 w hw=> ?_⟩;exact rdr (R:=⟨e,1,A,l.length,c,ints k l,ro⟩::Rs) 0 rfl w hw
theorem SlR.at {k:IntKind} {Rs:List Row} {vals:AG} {ls:AD} (h:SlR k Rs vals ls) {i:Int} (h0:0<=i) (h1:i<ls.length): ∃(A:AF) (c:Nat),vals[i.toNat]? =some (.slice A (rdl ls i).length c)/\ ∀(B:Nat) (w0 w:World),Hp B w0 w Rs->Rd w A (rdl ls i).length c 1 (ints k (rdl ls i)):=h.2 i.toNat G
theorem Hp.left {w:World} {X T:List Row} (h:Hp B w0 w (X++T)):Hp B w0 w X:=h.sublist (List.sublist_append_left X T)
theorem Hp.toTail0 {w:World} {X Rs Y:List Row} (h:Hp B w0 w ((X++Rs)++Y)):Hp B w0 w (X++(Y++Rs)):=by
 refine h.perm ?_;rw[gy];exact Bg X yg
theorem bQe {Q:fC} {c:Code} {d:Nat} {v:Value} (h:lk L d=some v) (k:W P n B w0 c Q ((d,v)::L) R):W P n B w0 c Q L R:=λa w hs hp=>k a w ⟨hs.size,hs.defers,λt u ht=>by
 unfold lk at ht;cases e:Nat.beq d t with
 |true=>rw[e] at ht;simp only[cond_true] at ht;obtain rfl:=yh e;exact hs.val _ _ (h.trans ht)
 |false=>rw[e] at ht;simp only[cond_false] at ht;exact hs.val _ _ ht⟩ hp
end
end Go.Eng
namespace Go.Eng
open Go Go.RowKit Go.Proofs Go.Sort
section
variable {P:Program} {B:Nat} {w0:World} {R:List Row}
def bAg (P:Program) (f g:Nat) (cb:Array Value) (k:Nat):Prop:=
 ∀(α:Type) [Inhabited α] (enc:α->AG) (_: ∀x,(enc x).length=k) (_: ∀x,∀v∈enc x,v.oneCell'=true) (cf:α->α->Int) (_:SWO (ltOf cf)) (gr off cap:Nat) (d:Array α) (w:World)
  (_:CmpLays P g cb enc k cf gr off d.size w) (_:HoldsK enc k w gr off d) (_:gr<w.heap.size) (_:d.size<4611686018427387904),
  Calls P f #[.slice (some ⟨gr,off,none⟩) d.size cap, .func (.func g) #[] cb] w λe w'=>e= .returned (.tuple #[])/\ ∃d' n os,PermIn 0 d.size d d'/\SortedIn (ltOf cf) 0 d.size d'/\w'=sortWorldK enc k w gr off n d' os
def UE (P:Program) (f:Nat):Prop:= ∀(p:AF) (cap:Nat) (fv:Value) (w:World),Calls P f #[.slice p 0 cap,fv] w λe w'=>e= .returned (.tuple #[])/\w'=w
theorem Hp.putRow {w:World} (hw:Hp B w0 w R) {i T k m c gr:Nat} {vs:AG} (hi:R[i]? =some ⟨T,k,some ⟨gr,0,none⟩,m,c,vs,false⟩) (xs:Array Value) (Up:xs.size=m*k) (n:Nat) (os:Array Obj):
  Hp B w0 (grow (putRow id (Sort.ahead w n) gr 0 xs) os) (R.set i ⟨T,k,some ⟨gr,0,none⟩,m,c,xs.toList,false⟩)/\Hp B w0 (grow (putRow id (Sort.ahead w n) gr 0 xs) os) (R.eraseIdx i):=by
 have ge:=Row.lies_w (hw.own _ (fw hi)) rfl;rcases ge.2 with⟨hv,hn⟩|⟨g,cap,cur,hv,hb,hg,hnc,tk,lf,ht⟩
 ·simp at hv
 simp only[ku,lv,Aj,Au,Ag] at hv;obtain⟨rfl,rfl⟩:=hv;simp only at ht lf hg hnc hb;have bc:gr<w.heap.size:=(gm.1 hg).1
 have hsz:w.heap.size<=(grow (Go.Sort.putRow id (Sort.ahead w n) gr 0 xs) os).heap.size:=by
  rw[size_grow,Go.Sort.size_putRow];exact Bv _ _
 have hk: ∀k,k<w.heap.size->gr≠k->(grow (Go.Sort.putRow id (Sort.ahead w n) gr 0 xs) os).heap[k]? =w.heap[k]? :=by
  intro k hk Eq;rw[heap_grow_old _ _ (by rw[Go.Sort.size_putRow];exact hk)];simp[Go.Sort.putRow,mapBlock,vw,Eq,Sort.ahead]
 have Fm:(grow (Go.Sort.putRow id (Sort.ahead w n) gr 0 xs) os).heap[gr]? =some (.cells (putCells id 0 xs cur) T (0,0)):=by
  rw[heap_grow_old _ _ (by rw[Go.Sort.size_putRow];exact bc)];simp[Go.Sort.putRow,mapBlock,vw,Sort.ahead,hg,onCells]
 refine⟨?_,hw.but hi rfl rfl rfl (by show w.drawn<=w.drawn+n;omega) hsz λk h1 h2=>hk k h1 (h2 _ rfl)⟩;refine hw.upd hi (row:=some gr) ⟨rfl,rfl,rfl,hsz,λk h1 fd=>hk k h1 λe=>fd (by rw[e])⟩ ?_ (λk hk=> ?_) ?_ (λa' oe=> .inl ⟨a',oe,rfl⟩)
 ·show w.drawn<=w.drawn+n;omega
 ·obtain rfl:=jc hk;exact⟨_,rfl,rfl⟩
 ·unfold Row.lies;simp only;refine⟨by rw[jr,Up], .inr ⟨gr,c,_,rfl,hb,Fm,hnc,tk,?_,?_⟩⟩
  ·simp only[putCells,Array.size_mapIdx];exact lf
  ·apply uo;intro t;rw[og];split
   ·rename_i It
    have Vz:t<cur.size:=by
     have:m*k<=c*k:=ut _ hnc;omega
    rw[ry,ry,qd (by simp[putCells];exact Vz),qd (by rw[Up];exact It)];simp only[putCells,Array.getElem_mapIdx,id];rw[df ⟨qp _,by rw[nu,Up];exact It⟩,yo,uq _ t (by rw[Up];exact It)]
   ·rename_i It;rw[mo (by rw[jr,Up];omega)]
theorem NM {α:Type} [Inhabited α] {enc:α->AG} {k:Nat} (hk: ∀x,(enc x).length=k) (d:Array α):(flatK enc k d).toList=d.toList.flatMap enc:=by
 have hlen: ∀l:List α,(l.flatMap enc).length=l.length*k:=λl=>by
  induction l with
  |nil=>simp
  |cons x l ih=>rw[Dj,ah,ih,hk,dh,yf];omega
 have Yo: ∀(l:List α) (t:Nat) (x:α),0<k->l[t/k]? =some x->(l.flatMap enc)[t]? =(enc x)[t%k]? :=λl=>by
  induction l with
  |nil=>intro t x _ h;simp at h
  | cons y l ih=>
   intro t x k0 h;rw[Dj];rcases fo t k with g|g
   ·rw [Eb g] at h;simp only[List.getElem?_cons_zero,lv] at h;subst h;rw[ji (by rw[hk];exact g),lh g]
   ·have e:t/k=(t-k)/k+1:=by
     rw[<-rf g,Nat.add_div_right _ k0];simp
    rw[e,Cy] at h;rw[ig (by rw[hk];exact g),hk,ih (t-k) x k0 h,<-zm g]
 apply uo;intro t;have hs:(flatK enc k d).size=d.size*k:=size_flatK _ _ _;rcases fo t (d.size*k) with h|h
 ·have k0:0<k:=Nat.pos_of_ne_zero λe=>by subst e;simp at h
  have Sr:t/k<d.size:=Nat.div_lt_of_lt_mul (by rw[Ay];exact h)
  have e1:(flatK enc k d)[t]? =some ((flatK enc k d)[t]!):=by
   rw[qd (by rw[hs];exact h),uq _ t (by rw[hs];exact h)]
  rw[ry,e1,get_flatK enc k d t h,Yo d.toList t d[t/k] k0 (by rw[ry,qd Sr]),uq d _ Sr];have hm:t%k<(enc d[t/k]).length:=by rw[hk];exact ze _ k0
  rw[av hm,uq (enc d[t/k]) (t%k) hm]
 ·rw[mo (by rw[jr,hs];exact h),mo (by rw[hlen,jr];exact h)]
theorem aWx {α:Type} {enc:α->AG} {k:Nat} (hk: ∀x,(enc x).length=k) (l:List α):(l.flatMap enc).length=l.length*k:=by
 induction l with
 |nil=>simp
 |cons x l ih=>rw[Dj,ah,ih,hk,dh,yf];omega
theorem MJ {α:Type} [Inhabited α] {d d':Array α} (h:PermIn 0 d.size d d'):d'.toList.Perm d.toList:=by
 obtain⟨hs,_,hp⟩:=h;have e1:(d'.extract 0 d.size).toList=d'.toList:=by rw[<-hs];simp
 have e2:(d.extract 0 d.size).toList=d.toList:=cD
 rw[e1,e2] at hp;exact hp
theorem PT {α:Type} [Inhabited α] {cf:α->α->Int} {d':Array α} {n:Nat} (h:SortedIn (ltOf cf) 0 n d') (hn:d'.size=n):d'.toList.Pairwise λx y=> ¬cf y x<0:=by
 refine dn.2 λa b ha My wc=> ?_;rw[jr] at ha My;have h1:=h a b (qp _) wc G;rw[uq d' a ha,uq d' b My] at h1;simp only[ltOf,sj] at h1;simpa using h1
theorem bCu {w:World} (hw:Hp B w0 w R) {i T k c:Nat} {A:AF} {vs:AG} (hi:R[i]? =some ⟨T,k,A,0,c,vs,false⟩):R.set i ⟨T,k,A,0,c,[],false⟩=R/\vs=[]:=by
 have ge:=Row.lies_w (hw.own _ (fw hi)) rfl;have hl:=ge.1;simp only[Dr] at hl;obtain rfl:=ek hl;refine⟨?_,rfl⟩;apply uo;intro j;rw[xx];split
 ·rename_i h;subst h;split
  ·exact hi.symm
  ·rename_i h2;rw[mo G]
 ·rfl
theorem aEx {α:Type} {f g k:Nat} {cb:Array Value} {enc:α->AG} (Xq:bAg P f g cb k) (Xo:UE P f) (hk: ∀x,(enc x).length=k) (h1: ∀x,∀v∈enc x,v.oneCell'=true) {T c:Nat} {A:AF} {l:List α} (i:Nat) (hi:R[i]? =some ⟨T,k,A,l.length,c,l.flatMap enc,false⟩) (hsz:l.length<4611686018427387904) (cmp:α->α->Int) (hO:SWO (ltOf cmp))
  (Ou: ∀W,Hp B w0 W (R.eraseIdx i)-> ∀x∈l,∀y∈l,
   Ct P g (#[.agg (enc x).toArray, .agg (enc y).toArray]++cb) W.heap.size W [] (λv _=>v= .int .i64 (cmp x y))):
  Ct P f #[.slice A l.length c, .func (.func g) #[] cb] B w0 R (λv R'=>v= .tuple #[]/\ ∃l':List α,l'.Perm l/\l'.Pairwise (λx y=> ¬cmp y x<0)/\R'=R.set i ⟨T,k,A,l'.length,c,l'.flatMap enc,false⟩):=by
 intro w hw;rcases l with _|⟨x0,l0⟩
 ·refine (Xo A c _ w).mono ?_;rintro e w' ⟨rfl,rfl⟩;obtain⟨h1,h2⟩:=bCu hw hi;exact⟨_,_,rfl,hw,rfl,[], .refl _, .nil,h1.symm⟩
 generalize hl:x0::l0=l at*;have fg:0<l.length:=by rw[<-hl];simp
 have ge:=Row.lies_w (hw.own _ (fw hi)) rfl;rcases ge.2 with⟨_,hn⟩|⟨gr,cap,cur,hv,hb,hg,hnc,tk,lf,ht⟩
 ·simp only at hn;omega
 simp only[ku,Ag] at hv;obtain⟨rfl,rfl⟩:=hv;simp only at ht lf hg hnc
 haveI:Inhabited {p:α//p∈l}:=⟨⟨l[0],mf _⟩⟩
 obtain⟨d,hd⟩: ∃d:Array {p:α//p∈l},d=l.attach.toArray:=⟨_,rfl⟩;have e8:d.size=l.length:=by rw[hd];simp
 have St:d.toList.map Subtype.val=l:=by rw[hd];exact Fu l
 have Lz: ∀x: {p:α//p∈l},(enc x.1).length=k:=λx=>hk x.1;have hfm: ∀e:List {p:α//p∈l},e.flatMap (λx=>enc x.1)=(e.map Subtype.val).flatMap enc:=λe=>by rw[List.flatMap_map]
 have bc:gr<w.heap.size:=(gm.1 hg).1
 have hH:HoldsK (λx: {p:α//p∈l}=>enc x.1) k w gr 0 d:=by
  intro j hj
  have yd:j<l.length*k:=by
   have:j<(flatK (λx: {p:α//p∈l}=>enc x.1) k d).size:=hj;rw[size_flatK,e8] at this;exact this
  have hf:=NM Lz d;rw[hfm,St] at hf
  have e:(l.flatMap enc)[j]? =some ((flatK (λx: {p:α//p∈l}=>enc x.1) k d)[j]!):=by
   rw[<-hf,ry,qd hj,uq _ j hj]
  refine⟨?_,?_⟩
  ·rw [nu];exact hw.cellAt i hi rfl e
  ·exact hw.openAt i (0+j) hi rfl rfl
 have zc:CmpLays P g cb (λx: {p:α//p∈l}=>enc x.1) k (λx y=>cmp x.1 y.1) gr 0 d.size w:=by
  intro m' os dk Sr x y;have hW:=(hw.putRow hi (flatK (λx: {p:α//p∈l}=>enc x.1) k dk) (by rw[size_flatK,Sr,e8]) m' os).2;refine(Ou (sortWorldK (λx: {p:α//p∈l}=>enc x.1) k w gr 0 m' dk os) hW x.1 x.2 y.1 y.2 _ (Hp.refl _)).mono ?_;rintro e w' ⟨v,R',rfl,hh,rfl⟩;exact⟨rfl,aBp hh.below hh.late.1⟩
 have Xm:SWO (ltOf λ(x y: {p:α//p∈l})=>cmp x.1 y.1):=⟨λx=>hO.irrefl x.1,λx y z=>hO.trans x.1 y.1 z.1,λx y z=>hO.ntrans x.1 y.1 z.1⟩;have e7:=Xq _ (λx: {p:α//p∈l}=>enc x.1) Lz (λx=>h1 x.1) _ Xm gr 0 c d w zc hH bc (by rw[e8];exact hsz);rw[e8] at e7;refine e7.mono ?_;rintro e w' ⟨rfl,d',n,os,sv,If,rfl⟩;rw[<-e8] at sv;have Fc:d'.size=l.length:=by rw[sv.1,e8]
 have hW:=(hw.putRow hi (flatK (λx: {p:α//p∈l}=>enc x.1) k d') (by rw[size_flatK,Fc]) n os).1;rw[NM Lz,hfm] at hW
 have cm:(d'.toList.map Subtype.val).Perm l:=by
  have:=(MJ sv).map Subtype.val;rwa[St] at this
 refine⟨_,_,rfl,hW,rfl,d'.toList.map Subtype.val,cm,?_,?_⟩
 ·exact iw.2 (PT If Fc)
 ·rw[cm.length_eq]
end
end Go.Eng
namespace Go.Pure
open Go Go.Eng
def Bd (u:AH) (n k:Nat):Prop:=k<n/\ ∀e,e<k->lt u e=lt u (n-k+e)
def MB (u:AH) (n:Nat) (k:Int):Prop:=0<=k/\Bd u n k.toNat/\ ∀q:Nat,Bd u n q->(q:Int)<=k
def KI (u:AH) (i:Nat) (n:Int):Prop:=0<=n/\Bd u i n.toNat/\ ∀q:Nat,Bd u i q->n<q->lt u q≠lt u i
variable {u:AH}
theorem MB.one:MB u 1 0:=⟨G,⟨G,λe he=>by simp at he⟩,λq h=>by have:=h.1;omega⟩
theorem MB.bd {n:Nat} {k:Int} (h:MB u n k):0<=k/\k<n:=⟨h.1,by have:=h.2.1.1;have:=h.1;omega⟩
theorem KI.bd {n:Nat} {k:Int} (h:KI u n k):0<=k/\k<n:=⟨h.1,by have:=h.2.1.1;have:=h.1;omega⟩
theorem KI.init {i:Nat} {n:Int} (h:MB u i n):KI u i n:=⟨h.1,h.2.1,λq hq hn=>by have:=h.2.2 q hq;omega⟩
theorem KI.step {i:Nat} {n m:Int} (h:KI u i n) (fd:lt u n.toNat≠lt u i) (hb:MB u n.toNat m):KI u i m:=by
 obtain⟨h0,⟨h1,h2⟩,h3⟩:=h;obtain⟨g0,⟨g1,g2⟩,g3⟩:=hb;refine⟨g0,⟨G,λe he=> ?_⟩,λq hq Za=> ?_⟩
 ·rw [g2 e he,h2 (n.toNat-m.toNat+e) G];congr 1;omega
 ·rcases vo q n.toNat with a|a|a
  ·have:Bd u n.toNat q:=⟨a,λe he=>by
    rw[hq.2 e he,h2 (n.toNat-q+e) G];congr 1
    omega⟩
   have:=g3 q this;omega
  ·subst a;exact fd
  ·exact h3 q hq G
theorem KI.hit {i:Nat} {n:Int} (h:KI u i n) (he:lt u n.toNat=lt u i):MB u (i+1) (n+1):=by
 obtain⟨h0,⟨h1,h2⟩,h3⟩:=h;refine⟨G,⟨G,λe hE=> ?_⟩,λq hq=> ?_⟩
 ·rcases fo e n.toNat with a|a
  ·rw[h2 e a];congr 1;omega
  ·obtain rfl:e=n.toNat:=G
   rw[he];congr 1;omega
 ·rcases q with _|q
  ·omega
  ·have hb:Bd u i q:=⟨by have:=hq.1;omega,λe hE=>by rw[hq.2 e G];congr 1;omega⟩;have hl:=hq.2 q G;have:=hq.1;rw[show i+1-(q+1)+q=i by omega] at hl;rcases bn n q with a|a
   ·exact absurd hl (h3 q hb a)
   ·omega
theorem KI.miss {i:Nat} {n:Int} (h:KI u i n) (hn:n<=0) (he:lt u n.toNat≠lt u i):MB u (i+1) n:=by
 obtain⟨h0,⟨h1,h2⟩,h3⟩:=h;obtain rfl:n=0:=G
 refine⟨G,⟨G,λe hE=>by simp at hE⟩,λq hq=> ?_⟩;rcases q with _|q
 ·omega
 ·have hb:Bd u i q:=⟨by have:=hq.1;omega,λe hE=>by rw[hq.2 e G];congr 1;omega⟩;have hl:=hq.2 q G;have:=hq.1;rw[show i+1-(q+1)+q=i by omega] at hl;rcases ed q with a|a
  ·subst a;exact absurd hl he
  ·exact absurd hl (h3 q hb G)
theorem aLv {n k:Nat} (hn:n=u.length) (hk:k<n):Bd u n k↔PL u (n-k):=by
 subst hn;rw[MK];constructor
 ·intro h i hi;have:=h.2 i G;unfold lt at this;rw[this];congr 1;omega
 ·intro h;refine⟨hk,λe he=> ?_⟩;have:=h e G;unfold lt;rw[<-this];congr 1;omega
theorem MB.least {k:Int} (hn:0<u.length) (h:MB u u.length k):(u.length:Int)-k=lp u:=by
 obtain⟨r,e,r1,r2,hp,Yx⟩:=JR hn;obtain⟨k0,hb,vb⟩:=h;have xt:=hb.1;have h1:=vb (u.length-r) ((aLv rfl G).2 (by rw[show u.length-(u.length-r)=r by omega];exact hp));have h2:=(aLv rfl hb.1).1 hb;rcases fo (u.length-k.toNat) r with a|a
 ·exact absurd h2 (Yx _ G a)
 ·omega
theorem GJ: ∀a b:AH,cmpL b a= -cmpL a b
 |[],[]=>rfl
 |[],_::_=>rfl
 |_::_,[]=>rfl
 |x::a,y::b=>by
  rw[cmpL,cmpL,GJ a b];split<;>split<;>omega
theorem cmpL_eq: ∀a b:AH,cmpL a b=0↔a=b
 |[],[]=>by simp[cmpL]
 |[],_::_=>by simp[cmpL]
 |_::_,[]=>by simp[cmpL]
 | x::a,y::b=>by
  have ih:=cmpL_eq a b;rw[cmpL];split
  ·simp;omega
  ·split
   ·simp;omega
   ·rw[ih];simp;omega
theorem aLm: ∀a b c:AH,cmpL a b<=0->cmpL b c<=0->cmpL a c<=0
 |[],[],_,_,h=>h
 |[],_::_,[],_,h=>by simp[cmpL] at h
 |[],_::_,_::_,_,_=>by simp[cmpL]
 |_::_,[],_,h,_=>by simp[cmpL] at h
 |_::_,_::_,[],_,h=>by simp[cmpL] at h
 | x ::a,y::b,z::c,h1,h2=>by
  have ih:=aLm a b c;rw[cmpL] at h1 h2 ⊢;split at h1
  ·split at h2
   ·rw[df G];omega
   ·split at h2
    ·omega
    ·rw[df G];omega
  ·split at h1
   ·omega
   ·split at h2
    ·rw[df G];omega
    ·split at h2
     ·omega
     ·rw[bz G,bz G];exact ih h1 h2
abbrev RT:=AH × Int
def lX (a b:RT):Int:=if cmpL a.1 b.1≠0 then cmpL a.1 b.1 else iI a.2 b.2
theorem qE (a b:RT):lX b a= -lX a b:=by
 unfold lX;rw[GJ a.1 b.1,aQo a.2 b.2];split<;>split<;>omega
theorem WE (a b:RT):lX a b=0↔a=b:=by
 unfold lX;have h1:=cmpL_eq a.1 b.1;have h2:= @kD a.2 b.2;rw[Prod.ext_iff];split
 ·rename_i c;constructor
  ·intro h;exact absurd h c
  ·intro h;exact absurd (h1.2 h.1) c
 ·rename_i c;rw[h2];constructor
  ·intro h;exact⟨h1.1 G,h⟩
  ·intro h;exact h.2
theorem bEl {a b:Int}:iI a b<=0↔a<=b:=by unfold iI;split<;>(try split)<;>omega
theorem aBj {a b:RT}:lX a b<=0↔cmpL a.1 b.1<0\/a.1=b.1/\a.2<=b.2:=by
 unfold lX;have h1:=cmpL_eq a.1 b.1;have h2:= @bEl a.2 b.2;split
 ·rename_i c;constructor
  ·intro h;left;omega
  ·rintro (h|h)
   ·omega
   ·exact absurd (h1.2 h.1) c
 ·rename_i c;rw[h2];constructor
  ·intro h;exact .inr ⟨h1.1 G,h⟩
  ·rintro (h|h)
   ·omega
   ·exact h.2
theorem JS (a b c:RT) (h1:lX a b<=0) (h2:lX b c<=0):lX a c<=0:=by
 rw[aBj] at h1 h2 ⊢;have h:=aLm a.1 b.1 c.1;have e1:=cmpL_eq a.1 b.1;have e2:=cmpL_eq b.1 c.1;have e3:=cmpL_eq a.1 c.1;rcases h1 with h1|h1
 ·rcases h2 with h2|h2
  ·have a1:=h G G;rcases Gf a1 with g|g
   ·exact .inl g
   ·have e:=e3.1 g;rw[e,GJ b.1 c.1] at h1;omega
  ·exact .inl (by rw[<-h2.1];exact h1)
 ·rcases h2 with h2|h2
  ·exact .inl (by rw[h1.1];exact h2)
  ·exact .inr ⟨h1.1.trans h2.1,G⟩
theorem IX {l m:List RT} (hp:l.Perm m) (hl:l.Pairwise λa b=>lX a b<=0) (hm:m.Pairwise λa b=>lX a b<=0):l=m:=
 hp.eq_of_pairwise (λa b _ _ h1 h2=>(WE a b).1 (by rw[qE a b] at h2;omega)) hl hm
def lw (u:AH):AH:=yN u (rZ u)
def lI (c:AH):AH:=c.take (rl c).toNat
def jA (c:AH):Int:=(c.length:Int)/rl c
def FE (u:AH):RT:=(lI (lw u),jA (lw u))
def fB (ws:AD):List RT:=(ws.filter λw=>decide (0<w.length)).map FE
def yP (ws:AD):List RT:=(fB ws).mergeSort λa b=>decide (lX a b<=0)
def bHj (r:RT):AH:=rep r.1 r.2
def canon (ws:AD):AD:=(yP ws).map bHj
theorem uG (ws:AD):(yP ws).Perm (fB ws):=List.mergeSort_perm _ _
theorem VH (ws:AD):(yP ws).Pairwise λa b=>lX a b<=0:=by
 have:=List.pairwise_mergeSort (le:=λa b:RT=>decide (lX a b<=0)) (λa b c h1 h2=>mh (JS a b c (Bj h1) (Bj h2))) (λa b=>by
  rw[zu,yx,yx,qE a b];omega) (fB ws)
 exact this.imp λh=>Bj h
theorem RZ {ws:AD} {l:List RT} (hp:l.Perm (fB ws)) (hs:l.Pairwise λa b=>lX a b<=0):l=yP ws:=IX (hp.trans (uG ws).symm) hs (VH ws)
theorem NB (u:AH):(lw u).length=u.length:=xM u _
theorem bIs:lw []=[]:=rfl
theorem bIl {a b:AH} (hl:a.length=b.length) (h:om a=om b):a=b:=by
 refine bM hl λj h0 h1=> ?_;have:=congrFun h j.toNat;rw[HY G,HY G] at this;exact this
theorem bHs {c:AH} (h:0<c.length):(c.length:Int)%rl c=0:=by
 obtain⟨r,e,r1,r2,_,_⟩:=JR h;unfold rl;split
 ·exact Int.emod_self
 ·omega
theorem ZH {c:AH} (h:0<c.length):((lI c).length:Int)=rl c:=by
 have:=BP h;unfold lI;rw[ax];omega
theorem RA {c:AH} (h:0<c.length):jA c*rl c=c.length:=Int.ediv_mul_cancel (Int.dvd_of_emod_eq_zero (bHs h))
theorem ES {c:AH} (h:0<c.length):0<jA c:=by
 have h1:=RA h;have h2:=BP h;rcases bn 0 (jA c) with a|a
 ·exact a
 ·have:=Int.mul_nonneg_of_nonpos_of_nonpos a (show -(rl c)<=0 by omega);rw[Int.mul_neg] at this;omega
theorem bBn {c:AH} (h:0<c.length):om (lI c)=om c:=by
 obtain⟨r,e,r1,r2,ho,_⟩:=aJo h;funext i;rw[ho i];unfold lI;rw[e];rfl
theorem GQ {c:AH} (h:0<c.length):rep (lI c) (jA c)=c:=by
 have hr:=ZH h;have hp:=BP h;have ht:=ES h
 have hl:(rep (lI c) (jA c)).length=c.length:=by
  rw[qP];have h1:=RA h
  have:((jA c).toNat*(lI c).length:Int)=c.length:=by
   rw[qf G,hr,h1]
  exact_mod_cast this
 refine bIl hl ?_;rw[show jA c=((jA c).toNat:Int) by omega];funext i;rw[bIk G G,bBn h]
theorem aOi {ws:AD} {r:RT} (h:r∈fB ws): ∃w∈ws,0<w.length/\r=FE w:=by
 unfold fB at h;obtain⟨w,hw,e⟩:=iy.1 h;obtain⟨h1,h2⟩:=ol.1 hw;exact⟨w,h1,Bj h2,e.symm⟩
theorem aOj {ws:AD} {r:RT} (h:r∈yP ws): ∃w∈ws,0<w.length/\r=FE w:=aOi ((uG ws).subset h)
theorem mY (a b:AD):fB (a++b)=fB a++fB b:=by unfold fB;rw[ui,jo]
theorem aQs (ws:AD):(canon ws).length=(fB ws).length:=by
 unfold canon;rw[cu,(uG ws).length_eq]
end Go.Pure
namespace Go.Eng
open Go Go.RowKit Go.Pure
section
variable {P:Program} {n:Nd} {B:Nat} {w0:World} {L:Env} {R:List Row} {ty:TypeId}
theorem aNy {w:World} {A:AF} {m c:Nat} {k:IntKind} {u:AH} (h:Rd w A m c 1 (ints k u)) (hA:A.isNone=true):u=[]:=by
 cases u with
 |nil=>rfl
 |cons y l=>
  obtain⟨b,g,_⟩:=h.at_ 0 (.int k y) (by simp[ints]);rw[g] at hA;cases hA
theorem SlR.weak {k:IntKind} {Rs Rf:List Row} {vals:AG} {ls:AD} (h:SlR k Rs vals ls) (hr: ∀B w0 w,Hp B w0 w Rf->Hp B w0 w Rs):SlR k Rf vals ls:=
 ⟨h.1,λj hj=>by
  obtain⟨A,c,h1,h2⟩:=h.2 j hj
  exact⟨A,c,h1,λB w0 w hw=>h2 B w0 w (hr B w0 w hw)⟩⟩
theorem SlR.right {k:IntKind} {Rs:List Row} {vals:AG} {ls:AD} (h:SlR k Rs vals ls) (X:List Row):SlR k (X++Rs) vals ls:=h.weak λ_ _ _ hw=>hw.right
theorem SlR.left {k:IntKind} {Rs:List Row} {vals:AG} {ls:AD} (h:SlR k Rs vals ls) (T:List Row):SlR k (Rs++T) vals ls:=h.weak λ_ _ _ hw=>hw.left
theorem aBq {l m:AD} {j:Nat} (h:j<l.length):(l++m).getD j []=l.getD j []:=by
 rw[ak,ak,ji h]
theorem SlR.app {k:IntKind} {Rs:List Row} {v1 v2:AG} {l1 l2:AD} (h:SlR k Rs v1 l1) (g:SlR k Rs v2 l2):SlR k Rs (v1++v2) (l1++l2):=by
 refine⟨by simp[h.1,g.1],λj hj=> ?_⟩;rcases fo j l1.length with q|q
 ·obtain ⟨A,c,h1,h2⟩:=h.2 j q;rw[aBq q,ji (by rw[h.1];exact q)];exact⟨A,c,h1,h2⟩
 ·rw [ah] at hj;obtain⟨A,c,h1,h2⟩:=g.2 (j-l1.length) G
  have e:(l1++l2).getD j []=l2.getD (j-l1.length) []:=by
   rw[ak,ak,ig q]
  rw[e,ig (by rw[h.1];exact q),h.1];exact⟨A,c,h1,h2⟩
theorem SlR.take {k:IntKind} {Rs:List Row} {vals:AG} {ls:AD} (h:SlR k Rs vals ls) (i:Nat):SlR k Rs (vals.take i) (ls.take i):=by
 refine⟨by simp[h.1],λj hj=> ?_⟩;rw[ax] at hj;obtain⟨A,c,h1,h2⟩:=h.2 j G
 have e:(ls.take i).getD j []=ls.getD j []:=by
  rw[ak,ak,ow G]
 rw[e,ow G];exact⟨A,c,h1,h2⟩
theorem SlR.drop {k:IntKind} {Rs:List Row} {vals:AG} {ls:AD} (h:SlR k Rs vals ls) (i:Nat):SlR k Rs (vals.drop i) (ls.drop i):=by
 refine⟨by simp[h.1],λj hj=> ?_⟩;rw[az] at hj;obtain⟨A,c,h1,h2⟩:=h.2 (i+j) G
 have e:(ls.drop i).getD j []=ls.getD (i+j) []:=by
  rw[ak,ak,qm]
 rw[e,qm];exact⟨A,c,h1,h2⟩
theorem SlR.single {k:IntKind} {Rs:List Row} {A:AF} {m c:Nat} {l:AH} (hm:m=l.length) (h: ∀B w0 w,Hp B w0 w Rs->Rd w A m c 1 (ints k l)):SlR k Rs [.slice A m c] [l]:=by
 subst hm;refine⟨rfl,λj hj=> ?_⟩;simp only[gq] at hj;obtain rfl:j=0:=G
 exact⟨A,c,rfl,h⟩
theorem SlR.push {k:IntKind} {Rs:List Row} {vals:AG} {ls:AD} {A:AF} {m c:Nat} {l:AH} (h:SlR k Rs vals ls) (hm:m=l.length) (hr: ∀B w0 w,Hp B w0 w Rs->Rd w A m c 1 (ints k l)):SlR k Rs (vals++[.slice A m c]) (ls++[l]):=h.app (SlR.single hm hr)
theorem SlR.one {k:IntKind} {Rs:List Row} {vals:AG} {ls:AD} (h:SlR k Rs vals ls): ∀v∈vals,v.oneCell'=true:=λv hv=>by
 obtain⟨j,hj,e⟩:=gz.1 hv;obtain⟨A,c,h1,_⟩:=h.2 j (by rw[<-h.1];exact hj);rw[av hj,e] at h1;obtain rfl:=jc h1;simp[Value.oneCell']
def OkB (ls:AD):Prop:= ∀l∈ls,aP l/\l.length<=140737488355327
theorem SlW.take {k:IntKind} {w:World} {vals:AG} {ls:AD} (h:SlW k w vals ls) (i:Nat):SlW k w (vals.take i) (ls.take i):=by
 refine⟨by simp[h.1],λj hj=> ?_⟩;rw[ax] at hj
 have e:(ls.take i).getD j []=ls.getD j []:=by
  rw[ak,ak,ow G]
 rw[e,ow G];exact h.2 j G
theorem SlW.one {k:IntKind} {w:World} {vals:AG} {ls:AD} (h:SlW k w vals ls): ∀v∈vals,v.oneCell'=true:=λv hv=>by
 obtain⟨j,hj,e⟩:=gz.1 hv;obtain⟨A,c,h1,_⟩:=h.2 j (by rw[<-h.1];exact hj);rw[av hj,e] at h1;obtain rfl:=jc h1;simp[Value.oneCell']
theorem SlW.app {k:IntKind} {w:World} {v1 v2:AG} {l1 l2:AD} (h:SlW k w v1 l1) (g:SlW k w v2 l2):SlW k w (v1++v2) (l1++l2):=by
 refine⟨by simp[h.1,g.1],λj hj=> ?_⟩;rcases fo j l1.length with q|q
 ·rw [aBq q,ji (by rw[h.1];exact q)];exact h.2 j q
 ·rw [ah] at hj
  have e:(l1++l2).getD j []=l2.getD (j-l1.length) []:=by
   rw[ak,ak,ig q]
  rw[e,ig (by rw[h.1];exact q),h.1];exact g.2 (j-l1.length) G
theorem SlW.okB {w:World} {vals:AG} {ls:AD} (h:SlW .u8 w vals ls):OkB ls:=λl hl=>by
 obtain⟨j,hj,e⟩:=gz.1 hl;obtain⟨A,c,_,_,h3,h4⟩:=h.2 j hj;have e2:ls.getD j []=l:=by rw[ak,av hj,e];rfl
 rw[e2] at h3 h4;exact⟨xD h3,h4⟩
structure RC where
 A:AF
 c:Nat
 root:AH
 times:Int
def encR (r:RC):AG:=[.slice r.A r.root.length r.c, .int .i64 r.times]
def RC.rt (r:RC):RT:=(r.root,r.times)
def rdG (l:List RC) (i:Int):RC:=l.getD i.toNat ⟨none,0,[],0⟩
def rgs (l:List RC):AG:=l.flatMap encR
def RgR (Rs:List Row) (l:List RC):Prop:= ∀r∈l,aP r.root/\ ∀(B:Nat) (w0 w:World),Hp B w0 w Rs->Rd w r.A r.root.length r.c 1 (ints .u8 r.root)
theorem RgR.nil (Rs:List Row):RgR Rs []:=λr h=>by cases h
theorem RgR.weak {Rs Rf:List Row} {l:List RC} (h:RgR Rs l) (hr: ∀B w0 w,Hp B w0 w Rf->Hp B w0 w Rs):RgR Rf l:=λr h'=>⟨(h r h').1,λB w0 w hw=>(h r h').2 B w0 w (hr B w0 w hw)⟩
theorem RgR.right {Rs:List Row} {l:List RC} (h:RgR Rs l) (X:List Row):RgR (X++Rs) l:=h.weak λ_ _ _ hw=>hw.right
theorem RgR.snoc {Rs:List Row} {l:List RC} {e m:Nat} {A:AF} {c:Nat} {u:AH} {t:Int} {ro:Bool} (h:RgR Rs l) (hm:m=u.length) (hb:aP u):RgR (⟨e,1,A,m,c,ints .u8 u,ro⟩::Rs) (l++[⟨A,c,u,t⟩]):=λr hr=>by
 subst hm;rcases gp.1 hr with hr|hr
 ·exact⟨(h r hr).1,λB w0 w hw=>(h r hr).2 B w0 w hw.tail⟩
 ·obtain rfl:=ib.1 hr;exact⟨hb,λB w0 w hw=>rdr (R:=⟨e,1,A,u.length,c,ints .u8 u,ro⟩::Rs) 0 rfl w hw⟩
theorem RgR.perm {Rs:List Row} {l m:List RC} (h:RgR Rs l) (hp:m.Perm l):RgR Rs m:=λr hr=>h r (hp.subset hr)
theorem aJs (l:List RC):(rgs l).length=l.length*2:=aWx (enc:=encR) (λ_=>rfl) l
theorem aJt (l m:List RC):rgs (l++m)=rgs l++rgs m:=List.flatMap_append
theorem bBt (l:List RC): ∀v∈rgs l,v.oneCell'=true:=λv hv=>by
 obtain⟨r,_,h⟩:=Ik.1 hv;simp only[encR,jm,zi,or_false] at h;rcases h with rfl|rfl<;>rfl
theorem aXg (x:RC): ∀v∈encR x,v.oneCell'=true:=λv hv=>by
 simp only[encR,jm,zi,or_false] at hv;rcases hv with rfl|rfl<;>rfl
theorem aJv {l:List RC} {i:Int} (h0:0<=i) (h1:i<l.length):rdG l i∈l:=by
 unfold rdG;rw[ak,av G];exact mf _
theorem bHx {l:List RC} {i:Int} (h0:0<=i) (h1:i<l.length):((rgs l).drop (i.toNat*2)).take 2=encR (rdG l i):=by
 have e:l=l.take i.toNat++rdG l i::l.drop (i.toNat+1):=by
  conv=>lhs;rw[<-gu i.toNat l]
  congr 1;rw[kv G];congr 1;unfold rdG;rw[ak,av G];rfl
 have hl:(rgs (l.take i.toNat)).length=i.toNat*2:=by rw[aJs,ax,za G]
 have e2:rgs l=rgs (l.take i.toNat)++(encR (rdG l i)++rgs (l.drop (i.toNat+1))):=by
  conv=>lhs;rw[e]
  rw[aJt];rfl
 rw[e2,Ez hl];rfl
theorem bKv {x:Operand} {t:TypeId} {d:TypeDesc} {A:AF} {m c:Nat} {l:List RC} {i:Int} (hu:P.underlying t=some d) (hd:AA d=true) (gs:(P.info? t).map (·.size)=some 2) (hx:ev L x=some (.pointer (pat A (i.toNat*2)))) (hr:RdC B w0 R A m c 2 (rgs l)) (h0:0<=i) (h1:i<l.length):
  Yl P n B w0 (.load t x) ty L R (.agg #[.slice (rdG l i).A (rdG l i).root.length (rdG l i).c, .int .i64 (rdG l i).times]):=by
 have:=aIv (P:=P) (n:=n) (B:=B) (w0:=w0) (R:=R) (ty:=ty) hu hd gs hx rfl hr (by rw[aJs];omega) G;rwa[bHx h0 h1] at this
theorem aRl {s x:Operand} {t e:TypeId} {z:Value} {bytes m p c c2:Nat} {A A2:AF} {l news:List RC} (i:Nat) (hi:R[i]? =some ⟨e,2,A,p,c,rgs l,false⟩) (ht:P.underlying t=some (.slice e)) (dg:(P.info? e).map (λi=>(i.zero,i.size,i.bytes))=some (some z,2,bytes)) (hz:z.cells.size=2) (o9:Nat.blt 0 bytes=true)
  (hs:ev L s=some (.slice A p c)) (hx:ev L x=some (.slice A2 m c2)) (jj:RdC B w0 R A2 m c2 2 (rgs news)) (mc:(p+m)*bytes<=140737488355328):
  Ac P n B w0 (.call {callee:= .builtin .append,args:= #[s,x],argTypes:= #[t,t]}) ty L R (λv R'=> ∃A' c',v= .slice A' (p+m) c'/\R'=R.set i ⟨e,2,A',p+m,c',rgs (l++news),false⟩):=by
 have:=pJ (P:=P) (n:=n) (B:=B) (w0:=w0) (ty:=ty) i hi rfl ht dg hz rfl o9 hs hx jj (bBt news) mc;simp only[<-aJt] at this;exact this
theorem bKa {t e:TypeId} {x:Operand} (r:RC) (ht:P.underlying t=some (.slice e)) (dg:(P.info? e).map (λi=>(i.zero,i.size))=some (some (.agg #[.slice none 0 0, .int .i64 0]),2)) (hx:ev L x=some (.agg #[.slice r.A r.root.length r.c, .int .i64 r.times])):
  Ac P n B w0 (.buildSlice t 1 #[(0,x)]) ty L R (λv R'=> ∃g,v= .slice (some ⟨g,0,none⟩) 1 1/\R'=⟨e,2,some ⟨g,0,none⟩,1,1,rgs [r],false⟩::R):=by
 have hv:evp L [(0,x)]=some [(0, .agg #[.slice r.A r.root.length r.c, .int .i64 r.times])]:=by simp[evp,hx]
 exact qA (P:=P) (n:=n) (B:=B) (w0:=w0) (L:=L) (R:=R) (ty:=ty) (len:=1) (ps:=[(0,x)]) (cells:= #[.slice r.A r.root.length r.c, .int .i64 r.times]) ht dg hv cC cC cA (by rfl)
end
end Go.Eng
namespace Go.Proofs.YtdbebmmhdefgdaaGreat
open Go Go.Eng Go.Pure
open Tryz
set_option maxRecDepth 100000
variable {w:World} {x:Int} {ap po:AF} {ar ao sp pr:Nat} {u t:AH}
theorem TD:
  CF 194 #[I x] w (λv R'=>v=bf):=by
 refine fn1 Jd Z Z Z ?_;refine wq<|wn Z<|wq<|wm Z<|wm Z<|wy (Yl.f (fE Z Z))<|wn Z<|bS ?_;refine⟨_,Z,?_⟩;rfl
theorem pI {y:Int}:
  CF 121 #[I x,I y] w (λv R'=>v=I (iI x y)):=by
 refine fn1 Tryz.func121 Z Z Z ?_;refine wq<|wn Z<|wq<|wm Z<|wa (aD bGl Z (Ct.quiet (λw hw=>TD))) ?_;rintro _ _⟨rfl,rfl⟩;refine wn Z<|wq<|wm Z<|wa (aD bGl Z (Ct.quiet (λw hw=>TD))) ?_;rintro _ _⟨rfl,rfl⟩;refine wn Z<|aC<|wq<|wm Z<|aA<|aJ Z<|aI<|aC<|wq<|wm Z<|aA<|aJ Z ?_;refine aI<|aC<|wq<|wm Z<|wm Z<|wL Z Z<|aA<|bA Z (λaq=> ?_) (λaq=> ?_)
 ·refine wq<|wn Z<|bS ?_;refine⟨_,Z,?_⟩;exact bq (Value.int .i64) (by unfold iI;rw[df G])
 ·refine aI<|aC<|wq<|wm Z<|wm Z<|wy (dE Z Z)<|aA<|bA Z (λbp=> ?_) (λbp=> ?_)
  ·refine wq<|wn Z<|bS ?_;refine⟨_,Z,?_⟩;exact bq (Value.int .i64) (by unfold iI;rw[bz G,df G])
  ·refine aI<|wq<|wn Z<|bS ?_;refine⟨_,Z,?_⟩;exact bq (Value.int .i64) (by unfold iI;rw[bz G,bz G])
theorem QP (ac:Rd w ap ar ao 1 (ints .u8 u)) (te:Rd w po sp pr 1 (ints .u8 t)):
  CF 96 #[sl ap ar ao,sl po sp pr] w (λv R'=>v=I (cmpL u t)):=by
 obtain rfl:=ac.lenI;obtain rfl:=te.lenI;refine fn1 Tryz.func96 Z Z Z ?_;have li:=ac.max;have Wg:=te.max;refine wq<|wn Z<|aC<|wq<|wn Z<|aH ?_;refine fM (λ(i:Int)=>[(0,sl ap u.length ao),(1,sl po t.length pr),(5,I i)]) (λi=>[]) (λi=>(0<=i)/\(i<=u.length)/\(i<=t.length)/\(cmpL u t=cmpL (u.drop i.toNat) (t.drop i.toNat))) (λi=>(u.length-i).toNat) ?_ ?_
 ·exact⟨0,⟨G,G,G,cD⟩,KP⟩
 intro i ⟨aw,Pd,hit,hc⟩;refine aC<|wq<|wm Z<|wm Z<|wy (aN af Z)<|wL Z Z<|wm Z<|cK 5 [(0,sl ap u.length ao),(1,sl po t.length pr),(5,I i),(15, .bool (decide ((i<(u.length:Int))/\(i<(t.length:Int)))))] [] ?_ ?_
 ·refine bR 10 Z (λaq=> ?_) (λaq=> ?_)
  ·refine aB Z Z<|wm Z<|aB Z Z<|wm Z<|aB Z Z<|wy (aN af Z)<|aB Z Z<|wL Z Z<|wy (aT Z Z)<|aA ?_;exact KP
  ·refine aM Z Z Z Z<|aM Z Z Z Z<|aM Z Z Z Z<|aM Z Z Z Z<|wy (aO Z Z)<|aA ?_;exact KP
 refine aA<|bA Z (λbp=> ?_) (λbp=> ?_)
 ·refine aI<|aC<|aH<|aC<|bI mixed<|wD 0 Z (aK Z)<|wD 1 Z (aK Z)<|wD 2 Z (aG af sz5 Z Z (ac.c _))<|wD 3 Z (aR ay Z Z (ac.c _))<|wD 4 Z (aK Z)<|wD 5 Z (aK Z)<|wD 6 Z (aG af sz5 Z Z (te.c _))<|wD 7 Z (aR ay Z Z (te.c _))<|wD 8 Z (fE Z Z)<|wN ?_;refine bA Z (λew=> ?_) (λew=> ?_)
  ·refine aC<|aC<|bI mixed<|wD 0 Z (aK Z)<|wD 1 Z (aK Z)<|wD 2 Z (aG af sz5 Z Z (ac.c _))<|wD 3 Z (aR ay Z Z (ac.c _))<|wD 4 Z (aK Z)<|wD 5 Z (aK Z)<|wD 6 Z (aG af sz5 Z Z (te.c _))<|wD 7 Z (aR ay Z Z (te.c _))<|wD 8 Z (eD Z Z)<|wN<|bA Z (λkd=> ?_) (λkd=> ?_)
   ·refine wq<|wn Z<|bS ?_;refine⟨_,Z,?_⟩;exact bq (Value.int .i64) (by rw[hc,qJ aw G G,df G])
   ·refine aI<|wq<|wn Z<|bS ?_;refine⟨_,Z,?_⟩;exact bq (Value.int .i64) (by rw[hc,qJ aw G G,bz G,df G])
  ·refine aI<|aL<|wm Z<|wA Z Z<|wn Z ?_;exact⟨i+1,⟨G,G,G,(by rw[hc,qJ aw G G,bz G,bz G])⟩,G,KP⟩
 ·refine aU<|aC<|aH<|wq<|wm Z<|wy (aN af Z)<|wm Z<|wy (aN af Z)<|wL Z Z<|wn Z<|bA Z (λme=> ?_) (λme=> ?_)
  ·refine wq<|wn Z<|bS ?_;refine⟨_,Z,?_⟩;exact bq (Value.int .i64) (by rw[hc,tC aw Pd hit G,df G])
  ·refine wq<|wm Z<|wy (aN af Z)<|wm Z<|wy (aN af Z)<|wy (dE Z Z)<|wn Z<|bA Z (λvq=> ?_) (λvq=> ?_)
   ·refine wq<|wn Z<|bS ?_;refine⟨_,Z,?_⟩;exact bq (Value.int .i64) (by rw[hc,tC aw Pd hit G,bz G,df G])
   ·refine aI<|wq<|wn Z<|bS ?_;refine⟨_,Z,?_⟩;exact bq (Value.int .i64) (by rw[hc,tC aw Pd hit G,bz G,bz G])
theorem WT (ac:Rd w ap ar ao 1 (ints .u8 u)) (te:Rd w po sp pr 1 (ints .u8 t)) (Vq:u.length<=1000000) (bc:t.length<=1000000):
  CF 258 #[sl ap ar ao,sl po sp pr] w (λv R'=>v=I (OH u t)):=by
 obtain rfl:=ac.lenI;obtain rfl:=te.lenI;refine fn1 Tryz.func258 Z Z Z ?_;have li:=ac.max;have Wg:=te.max;refine wq<|wn Z<|aC<|wq<|wm Z<|wy (aN af Z)<|wy (dR Z Z)<|wm Z<|cK 4 [(0,sl ap u.length ao),(1,sl po t.length pr),(15, .bool (decide (((u.length:Int)=0)\/((t.length:Int)=0))))] [] ?_ ?_
 ·refine bR 11 Z (λaq=> ?_) (λaq=> ?_)
  ·refine aM Z Z Z Z<|aM Z Z Z Z<|aM Z Z Z Z<|wy (aT Z Z)<|aA ?_;exact KP
  ·refine aB Z Z<|wm Z<|aB Z Z<|wy (aN af Z)<|aB Z Z<|wy (dR Z Z)<|wy (aO Z Z)<|aA ?_;exact KP
 refine aA<|bA Z (λbp=> ?_) (λbp=> ?_)
 ·refine aC<|bI mixed<|wD 0 Z (aK Z)<|wD 1 Z (aK Z)<|wD 2 Z (aN af Z)<|wD 3 Z (sJ Z Z)<|wD 4 Z (dQ af sz5 Z Z (ac.c _) (by first|omega|exact ko _ G|exact ja _ G) (by first|omega|exact ko _ G|exact ja _ G)) ?_;refine wD 5 Z (aK Z)<|wD 6 Z (aK Z)<|wD 7 Z (aN af Z)<|wD 8 Z (sJ Z Z)<|wD 9 Z (dQ af sz5 Z Z (te.c _) (by first|omega|exact ko _ G|exact ja _ G) (by first|omega|exact ko _ G|exact ja _ G)) ?_;refine wC 10 Z (aD bLk Z (Ct.quiet (λw hw=>QP ((RdC.toI (ac.c _) G) w hw) ((RdC.toI (te.c _) G) w hw)))) ?_;rintro _ _⟨rfl,rfl⟩;refine⟨.inr hiZ,?_⟩;refine wD 11 Z (bC Z)<|wN<|bS ?_;refine⟨_,Z,?_⟩;exact bq (Value.int .i64) (by rw[aHl u t G];unfold OH;rw[df G])
 ·refine aI<|aC<|wq<|wn Z<|aH ?_;refine fM (λ(k:Int)=>[(0,sl ap u.length ao),(1,sl po t.length pr),(5,I k)]) (λk=>[]) (λk=>(0<=k)/\(k<=u.length+t.length)/\(OH u t=OG u t ((u.length:Int)+t.length-k).toNat k)) (λk=>((u.length:Int)+t.length-k).toNat) ?_ ?_
  ·exact⟨0,⟨G,G,(by unfold OH;rw[bz G];congr 1<;>omega)⟩,KP⟩
  intro k ⟨md,vd,hO⟩;refine aC<|wq<|wm Z<|wm Z<|wy (aN af Z)<|wm Z<|wy (aN af Z)<|wy (bX Z Z (by first|omega|exact ko _ G|exact ja _ G)) ?_;refine wL Z Z<|aA<|bA Z (λew=> ?_) (λew=> ?_)
  ·refine aI<|aC<|aH<|aC<|bI mixed<|wD 0 Z (aK Z)<|wD 1 Z (aK Z)<|wD 2 Z (aK Z)<|wD 3 Z (aN af Z)<|wD 4 Z (uV Z Z (by first|omega|exact ko _ G|exact ja _ G) (by first|omega|exact ko _ G|exact ja _ G)) ?_;refine wD 5 Z (aG af sz5 Z Z (ac.c _) (by first|omega|exact ko _ G|exact ja _ G) (by first|omega|exact ko _ G|exact ja _ G)) ?_;refine wD 6 Z (aR ay Z Z (ac.c _) (by first|omega|exact ko _ G|exact ja _ G) (by first|omega|exact ko _ G|exact ja _ G)) ?_;refine wD 7 Z (aK Z)<|wD 8 Z (aK Z)<|wD 9 Z (aK Z)<|wD 10 Z (aN af Z)<|wD 11 Z (uV Z Z (by first|omega|exact ko _ G|exact ja _ G) (by first|omega|exact ko _ G|exact ja _ G)) ?_;refine wD 12 Z (aG af sz5 Z Z (te.c _) (by first|omega|exact ko _ G|exact ja _ G) (by first|omega|exact ko _ G|exact ja _ G)) ?_;refine wD 13 Z (aR ay Z Z (te.c _) (by first|omega|exact ko _ G|exact ja _ G) (by first|omega|exact ko _ G|exact ja _ G)) ?_;refine wD 14 Z (bC Z)<|wD 15 Z (bC Z)<|wN<|aC<|wq<|wm Z<|wm Z<|wL Z Z<|aA<|bA Z (λkd=> ?_) (λkd=> ?_)
   ·refine wq<|wn Z<|bS ?_;refine⟨_,Z,?_⟩;exact bq (Value.int .i64) (by rw[hO,OE G (by unfold iI;rw[df G];decide)];unfold iI;rw[df G])
   ·refine aI<|wq<|wm Z<|wm Z<|wy (dE Z Z)<|aA<|bA Z (λme=> ?_) (λme=> ?_)
    ·refine wq<|wn Z<|bS ?_;refine⟨_,Z,?_⟩;exact bq (Value.int .i64) (by rw[hO,OE G (by unfold iI;rw[bz G,df G];decide)];unfold iI;rw[bz G,df G])
    ·refine aI<|aL<|wm Z<|wy (bX Z Z (by first|omega|exact ko _ G|exact ja _ G)) ?_;refine wn Z ?_;exact⟨k+1,⟨G,G,(by rw[hO,bEk G (by unfold iI;rw[bz G,bz G])];congr 1<;>omega)⟩,G,KP⟩
  ·refine aU<|wq<|wn Z<|bS ?_;refine⟨_,Z,?_⟩;exact bq (Value.int .i64) (by rw[hO,show((u.length:Int)+t.length-k).toNat=0 by omega];rfl)
variable {w:World} {ap:AF} {ar ao:Nat} {u:AH}
theorem bIn (ac:Rd w ap ar ao 1 (ints .u8 u)) (an:aP u) (hN:u.length<=1000000):
  CF 116 #[sl ap ar ao] w (λv R'=> ∃A c,v=sl A (lw u).length c/\R'=[(ru 5 A ((lw u).length) c (lw u))]):=by
 obtain rfl:=ac.lenI;refine fn1 Tryz.func116 Z Z Z ?_;have li:=ac.max;have Tl:=bDh u;have hfe:([u.drop (rZ u).toNat,u.take (rZ u).toNat]:AD).flatten=lw u:=by simp[lw,yN]
 have hlw:=NB u;refine wq<|wn Z<|wq<|wm Z<|wa (aD bOa Z (Ct.quiet (λw hw=>bJy ((ac.c _) w hw) cE))) ?_;rintro _ _⟨rfl,rfl⟩;refine wn Z<|aC<|bI mixed<|wD 0 Z (aK Z)<|wD 1 Z (aK Z)<|wD 2 Z (dK af sz5 Z Z)<|wD 3 Z (aK Z)<|wD 4 Z (aK Z)<|wD 5 Z (dQ af sz5 Z Z (ac.c _)) ?_;have m6:SlW .u8 w [sl (jE ap (rZ u).toNat ao 1) (u.length-(rZ u).toNat) (ao-(rZ u).toNat),sl ap ((rZ u).toNat) ao] [u.drop (rZ u).toNat,u.take (rZ u).toNat]:=((jI _ _).snoc (ac.fromI (l:=(rZ u).toNat) G) (λx hx=>fZ (an x (pq hx))) (by rw[az];omega)).snoc (ac.toI G) (λx hx=>fZ (an x (mg hx))) (by rw[ax];omega);refine wC 6 Z (mK [Value.slice (jE ap (rZ u).toNat ao 1) (u.length-(rZ u).toNat) (ao-(rZ u).toNat),Value.slice ap ((rZ u).toNat) ao] dm yK Z Z Z Z) ?_;rintro _ _⟨bx,rfl,rfl⟩;refine⟨.inr hrZ,?_⟩;refine wC 7 Z (aD QG Z (Ct.fresh (λw hw=>kL ((rdr 0 Z) w hw) (m6.c hw) (by rw[hfe];exact⟨G,cD⟩)))) ?_;rintro _ _⟨_,rfl,fi,fj,rfl,rfl⟩;refine⟨.inr hrZ,?_⟩;refine wD 8 Z (bC Z)<|wN<|aQ [0] 99 cC Z ?_;refine⟨_,Z,?_⟩;rw[hfe];exact⟨_,_,Z,Z⟩
theorem mI (ac:Rd w ap ar ao 1 (ints .u8 u)) (hN:u.length<=1000000):
  CF 57 #[sl ap ar ao] w (λv R'=> ∃A c,v=sl A (u).length c/\R'=[(ru 5 A ((u).length) c (u))]):=by
 obtain rfl:=ac.lenI;refine fn1 Tryz.func57 Z Z Z ?_;have li:=ac.max;refine wq<|dB (R1:=[(ru 5 none 0 0 ([]))]) (Sub.refl _) (λ_ h=>h.nil 5 1)<|wn Z<|aC<|wq<|wm Z<|wy (aIt af Z Z)<|aA<|KN Z (λaq=> ?_) (λaq=> ?_)
 ·refine wq<|wn Z<|aQ [0] 99 cC Z ?_;refine⟨_,Z,?_⟩;obtain rfl:=aNy ac aq;exact⟨_,_,Z,Z⟩
 ·refine aI<|wq<|wa (bH .u8 [] af zs5 Z Z Z) ?_;rintro _ _⟨bx,rfl,rfl⟩;refine wm Z<|wa (aS 0 Z af zb5 Z Z Z (ac.c _)) ?_;rintro _ _⟨fi,fj,rfl,rfl⟩;refine bF (v:=sl fi (0+u.length) fj) Z<|wn Z<|aQ [0] 99 cC Z ?_;refine⟨_,Z,?_⟩;simp only[je,nu];exact⟨_,_,Z,Z⟩
theorem WU {po:AF} {sp pr:Nat} {t:AH} (ac:Rd w ap ar ao 1 (ints .u8 u)) (te:Rd w po sp pr 1 (ints .u8 t)) (an:aP u) (Oc:aP t):
  CF 120 #[sl ap ar ao,sl po sp pr] w (λv R'=>v=I (cmpL u t)):=by
 obtain rfl:=ac.lenI;obtain rfl:=te.lenI;refine fn1 Tryz.func120 Z Z Z ?_;have li:=ac.max;have Wg:=te.max;refine wq<|wn Z<|wq<|wm Z<|wm Z<|wa (bPu Tryz.func193 cA cA cA cA Z Z (ac.c _) (te.c _) an Oc) ?_;rintro _ _⟨rfl,rfl⟩;refine wn Z<|bS ?_;refine⟨_,Z,?_⟩;rfl
theorem TT {L:AH} {i z:Int} (i1:1<=i) (hi:i<u.length) (hl:L.length=u.length) (hM: ∀j:Int,0<=j->j<i->j<u.length->MB u (j+1).toNat (rd L j)) (h:MB u (i.toNat+1) z): ∀j:Int,0<=j->j<i+1->j<u.length->MB u (j+1).toNat (rd (upd L i z) j):=λj h0 h1 h2=>by
 by_cases e:j=i
 ·subst e;rw[eT G G,show(j+1).toNat=j.toNat+1 by omega];exact h
 ·rw [fO G h0 (λq=>e q.symm)];exact hM j h0 G h2
theorem aIb (ac:Rd w ap ar ao 1 (ints .u8 u)) (hN:u.length<=1000000):
  CF 242 #[sl ap ar ao] w (λv R'=> ∃(A:AF) (c:Nat) (L:AH),v=sl A L.length c/\L.length=u.length/\(∀j:Int,0<=j->j<u.length->j<u.length->MB u (j+1).toNat (rd L j))/\R'=[(ri 3 A L.length c L)]):=by
 obtain rfl:=ac.lenI;refine fn1 Tryz.func242 Z Z Z ?_;have li:=ac.max;refine wq<|wn Z<|wq<|wm Z<|wy (aN af Z)<|wa (dD aa zb3 Z Z) ?_;rintro _ _⟨am,rfl,rfl⟩;refine jG (R1:=[(ri 3 (GG am) u.length u.length (List.replicate u.length (0:Int)))]) Z<|bF (v:=sl (GG am) u.length u.length) Z<|wn Z<|wq<|wn Z<|aC<|wq<|wn Z<|aH ?_;refine fA (λ(i:Int) (z:Int) (L:AH)=>[(0,sl ap u.length ao),(3,sl (GG am) u.length u.length),(4,I z),(5,I i)]) (λi z L=>[(ri 3 (GG am) u.length u.length L)]) (λi z L=>(1<=i)/\(i<=u.length\/i=1)/\(L.length=u.length)/\(∀j:Int,0<=j->j<i->j<u.length->MB u (j+1).toNat (rd L j))/\(MB u i.toNat z)) (λi z L=>(u.length-i).toNat) ?_ ?_
 ·exact⟨1,0,List.replicate u.length (0:Int),⟨G,G,(by rw[bu]),(λj h0 h1 h2=>by obtain rfl:j=0:=G;have e:rd (List.replicate u.length (0:Int)) 0=0:=(by unfold rd;rw[ak,Aq];split<;>rfl);rw[e];exact MB.one),(MB.one)⟩,KP⟩
 intro i z L ⟨ia,Ly,u6,hM,hn⟩;refine aC<|wq<|wm Z<|wm Z<|wy (aN af Z)<|wL Z Z<|aA<|bA Z (λaq=> ?_) (λaq=> ?_)
 ·refine aI<|aC<|aH<|aC<|aH ?_;refine fM (λ(m:Int)=>[(0,sl ap u.length ao),(3,sl (GG am) u.length u.length),(4,I m),(5,I i)]) (λm=>[(ri 3 (GG am) u.length u.length L)]) (λm=>(KI u i.toNat m)) (λm=>m.toNat) ?_ ?_
  ·exact⟨z,(KI.init hn),KP⟩
  intro m hK;have hKb:=hK.bd;refine aC ?_;refine lM [(0,sl ap u.length ao),(3,sl (GG am) u.length u.length),(4,I m),(5,I i),(27, .bool (decide ((0<m)/\((rd u i)≠(rd u m)))))] [(ri 3 (GG am) u.length u.length L)] ?_ ?_
  ·refine bI mixed<|wD 0 Z (aK Z)<|wD 1 Z (dE Z Z)<|wD 2 Z (aK Z)<|iL 17 Z (λbp=> ?_) (λbp=> ?_)
   ·refine wG 3 Z Z Z (aK Z)<|wG 4 Z Z Z (aK Z)<|wG 5 Z Z Z (aG af sz5 Z Z (ac.c _))<|wG 6 Z Z Z (aR ay Z Z (ac.c _))<|wG 7 Z Z Z (aK Z)<|wG 8 Z Z Z (aK Z)<|wG 9 Z Z Z (aG af sz5 Z Z (ac.c _))<|wG 10 Z Z Z (aR ay Z Z (ac.c _))<|wG 11 Z Z Z (fE Z Z)<|wD 12 Z (aT Z Z)<|wN ?_;exact KP
   ·refine wO 3 Z Z Z<|wO 4 Z Z Z<|wO 5 Z Z Z<|wO 6 Z Z Z<|wO 7 Z Z Z<|wO 8 Z Z Z<|wO 9 Z Z Z<|wO 10 Z Z Z<|wO 11 Z Z Z<|wD 12 Z (aO Z Z)<|wN ?_;exact KP
  refine bA Z (λew=> ?_) (λew=> ?_)
  ·have gs:rd u m≠rd u i:=λe=>ew.2 e.symm;have Xj:=hM (m-1) G G G;rw[show(m-1+1).toNat=m.toNat by omega] at Xj;refine aI<|aH<|aL<|wm Z<|wm Z<|wS Z Z<|wy (aG aa sz3 Z Z (rdr 0 Z))<|wy (aR ai Z Z (rdr 0 Z))<|wn Z ?_;exact⟨rd L (m-1),(hK.step (by rw[<-NC,<-NC];exact gs) Xj),(by have:=Xj.bd;omega),KP⟩
  ·refine aU<|aC<|aC<|bI mixed<|wD 0 Z (aK Z)<|wD 1 Z (aK Z)<|wD 2 Z (aG af sz5 Z Z (ac.c _))<|wD 3 Z (aR ay Z Z (ac.c _))<|wD 4 Z (aK Z)<|wD 5 Z (aK Z)<|wD 6 Z (aG af sz5 Z Z (ac.c _))<|wD 7 Z (aR ay Z Z (ac.c _))<|wD 8 Z (dR Z Z)<|wN<|bA Z (λkd=> ?_) (λkd=> ?_)
   ·have Nm:=hK.hit (by rw[<-NC,<-NC];exact kd.symm);refine aL<|wm Z<|wA Z Z<|wn Z<|aL<|wm Z<|wm Z<|wm Z<|wy (aG aa sz3 Z Z (rdr 0 Z))<|bV (bD 0 Z sz3 Z Z) ?_;rintro _ _ rfl;refine jG (R1:=[(ri 3 (GG am) u.length u.length (upd L i (m+1)))]) Z<|aA<|aL<|wm Z<|wA Z Z<|wn Z ?_;exact⟨i+1,m+1,upd L i (m+1),⟨G,G,(by rw[aY];exact u6),(TT ia G u6 hM Nm),(by rw[show(i+1).toNat=i.toNat+1 by omega];exact Nm)⟩,G,KP⟩
   ·have Nm:=hK.miss G (by rw[<-NC,<-NC];exact λe=>kd e.symm);refine aI<|aL<|wm Z<|wm Z<|wm Z<|wy (aG aa sz3 Z Z (rdr 0 Z))<|bV (bD 0 Z sz3 Z Z) ?_;rintro _ _ rfl;refine jG (R1:=[(ri 3 (GG am) u.length u.length (upd L i m))]) Z<|aA<|aL<|wm Z<|wA Z Z<|wn Z ?_;exact⟨i+1,m,upd L i m,⟨G,G,(by rw[aY];exact u6),(TT ia G u6 hM Nm),(by rw[show(i+1).toNat=i.toNat+1 by omega];exact Nm)⟩,G,KP⟩
 ·refine aU<|wq<|wm Z<|wn Z<|bN (R1:=[(ri 3 (GG am) u.length u.length L)]) (λ_ h=>h.sel [0] cC Z) ?_;exact⟨_,Z,_,_,L,by rw[u6],u6,λj h0 h1 _=>hM j h0 G h1,by rw[u6]⟩
theorem aOu (ac:Rd w ap ar ao 1 (ints .u8 u)) (hN:u.length<=1000000):
  CF 189 #[sl ap ar ao] w (λv R'=>v=I (lp u)):=by
 obtain rfl:=ac.lenI;refine fn1 Tryz.func189 Z Z Z ?_;have li:=ac.max;refine wq<|wn Z<|aC<|wq<|wm Z<|wy (aN af Z)<|wy (dR Z Z)<|aA<|bA Z (λaq=> ?_) (λaq=> ?_)
 ·refine wq<|wn Z<|bS ?_;refine⟨_,Z,?_⟩;exact bq (Value.int .i64) (by rw[ek (show u.length=0 by omega)];rfl)
 ·refine aI<|wq<|wm Z<|wy (aN af Z)<|wm Z<|wa (aD bNc Z (Ct.fresh (λw hw=>aIb ((ac.c _) w hw) cE))) ?_;rintro _ _⟨_,rfl,bm,bl,L_3,rfl,u6,hLM,rfl⟩;refine wm Z<|wy (aN af Z)<|wS Z Z<|wy (aG aa sz3 Z Z (rdr 0 Z))<|wy (aR ai Z Z (rdr 0 Z))<|wy (gZ Z Z (by have hq:=(hLM (u.length-1) G G G).bd;omega)) ?_;refine wn Z<|aQ [] 99 cC Z ?_;refine⟨_,Z,?_⟩;exact bq (Value.int .i64) (MB.least G (by have:=hLM (u.length-1) G G G;rw[show((u.length:Int)-1+1).toNat=u.length by omega] at this;exact this))
theorem aTg (ac:Rd w ap ar ao 1 (ints .u8 u)) (hN:u.length<=1000000):
  CF 115 #[sl ap ar ao] w (λv R'=> ∃(A:AF) (c:Nat),v= .tuple #[sl A (lI u).length c,I (jA u)]/\R'=[(ru 5 A ((lI u).length) c (lI u))]):=by
 obtain rfl:=ac.lenI;refine fn2 Tryz.func115 Z Z Z ?_;have li:=ac.max;refine wq<|dB (R1:=[(ru 5 none 0 0 ([]))]) (Sub.refl _) (λ_ h=>h.nil 5 1)<|wg Z<|wn Z<|aC<|wq<|wm Z<|wy (aN af Z)<|wy (dR Z Z)<|aA<|bA Z (λaq=> ?_) (λaq=> ?_)
 ·refine wq<|wg Z<|wn Z<|aQ [0] 99 cC Z ?_;refine⟨_,_,Z,Z,?_⟩;obtain rfl:=ek (show u.length=0 by omega);exact⟨_,_,Z,Z⟩
 ·have Nk:=aVn (u:=u) G;refine aI<|wq<|wm Z<|wa (aD bOb Z (Ct.quiet (λw hw=>aOu ((ac.c _) w hw) cE))) ?_;rintro _ _⟨rfl,rfl⟩;refine wn Z<|aC<|wq<|wm Z<|wy (aN af Z)<|wm Z<|wy (uV Z Z)<|wy (fE Z Z)<|aA<|bA Z (λbp=> ?_) (λbp=> ?_)
  ·refine aL<|wm Z<|wy (aN af Z)<|wn Z<|aC<|bI mixed<|wD 0 Z (aK Z)<|wD 1 Z (aK Z)<|wD 2 Z (dQ af sz5 Z Z (ac.c _))<|wD 4 Z (aK Z)<|wD 5 Z (aN af Z)<|wD 6 Z (aK Z)<|wD 7 Z (EP Z Z G G G)<|wC 3 Z (aD aCe Z (Ct.fresh (λw hw=>mI ((RdC.toI (ac.c _) G) w hw) (by rw[ax];omega)))) ?_;rintro _ _⟨_,rfl,bm,bl,rfl,rfl⟩;refine⟨.inr hrZ,?_⟩;refine wD 8 Z (bC Z)<|wD 9 Z (bC Z)<|wN<|aQ [0] 99 cC Z ?_;refine⟨_,_,Z,Z,?_⟩;have e:rl u=u.length:=by unfold rl;rw[df cF]
   unfold lI jA;rw[e];exact⟨_,_,Z,Z⟩
  ·refine aI<|aC<|bI mixed<|wD 0 Z (aK Z)<|wD 1 Z (aK Z)<|wD 2 Z (dQ af sz5 Z Z (ac.c _))<|wD 4 Z (aK Z)<|wD 5 Z (aN af Z)<|wD 6 Z (aK Z)<|wD 7 Z (EP Z Z G G G)<|wC 3 Z (aD aCe Z (Ct.fresh (λw hw=>mI ((RdC.toI (ac.c _) G) w hw) (by rw[ax];omega)))) ?_;rintro _ _⟨_,rfl,iu,js,rfl,rfl⟩;refine⟨.inr hrZ,?_⟩;refine wD 8 Z (bC Z)<|wD 9 Z (bC Z)<|wN<|aQ [0] 99 cC Z ?_;refine⟨_,_,Z,Z,?_⟩;have e:rl u=lp u:=by unfold rl;rw[bz cF]
   unfold lI jA;rw[e];exact⟨_,_,Z,Z⟩
variable {w w0:World} {ap:AF} {ar ao B g:Nat} {u:AH} {R:List Row} {V:Int}
theorem WS (ac:Rd w ap ar ao 1 (ints .u8 u)) (hN:u.length<=1000000):
  CF 50 #[sl ap ar ao] w (λv R'=> ∃g A c,v=PG g/\R'=[(rc 146 1 g [sl A u.length c]),(ru 5 A u.length c u)]):=by
 obtain rfl:=ac.lenI;refine fn1 Tryz.func50 Z Z Z ?_;have li:=ac.max;refine wq<|wn Z<|wq<|wm Z<|wa (aD aCe Z (Ct.fresh (λw hw=>mI ((ac.c _) w hw) hN))) ?_;rintro _ _⟨_,rfl,bm,bl,rfl,rfl⟩;refine wy (dW (v:= .agg #[sl bm u.length bl]) Z (λw=>cA))<|wa (bO (sz:=1) rfl rfl) ?_;rintro _ _⟨du,rfl,rfl⟩;refine wn Z<|bN (R1:=[(rc 146 1 du [sl bm u.length bl]),(ru 5 bm u.length bl u)]) hiZ ?_;exact⟨_,Z,_,_,_,Z,Z⟩
theorem zF {k:Int} (ac:RdC B w0 R ap ar ao 1 (ints .u8 u)) (ce:ar=u.length) (hN:u.length<=1000000) (hk:0<=k/\k<=u.length):
  CT 156 #[PG g,I k] B w0 ((rc 146 1 g [sl ap ar ao])::R) (λv R'=> ∃A1 c1,v= .tuple #[sl A1 k.toNat c1,bt]/\R'=(ru 5 A1 k.toNat c1 (u.take k.toNat))::(rc 146 1 g [sl ((jE ap k.toNat ao 1)) (ar-k.toNat) (ao-k.toNat)])::R):=by
 subst ce;refine fn2 Tryz.func156 Z Z Z ?_;refine wq<|wg Z<|wn Z<|aC<|wq<|wm Z<|wy (dL Ai Z Z)<|wm Z<|aB Z Z<|wm Z<|aB Z Z<|wy (Yl.f (eD Z Z)) ?_;refine wy (aO Z Z)<|wm Z<|aB Z Z<|wm Z<|aB Z Z<|wm Z<|aB Z Z<|wy (aF Z)<|aB Z Z<|wy (yF 0 0 Ak dA Z)<|aB Z Z<|wy (yL 0 af Z Z Z)<|aB Z Z<|wy (aN af Z)<|aB Z Z ?_;refine wy (Yl.f (dE Z Z))<|wy (aO Z Z)<|aA<|aJ Z<|aI<|wq<|wm Z<|wy (aF Z)<|wy (yF 0 0 Ak dA Z)<|wy (yL 0 af Z Z Z)<|wm Z<|wy (dQ af sz5 Z Z (RdC.right ac [_]))<|wa (aD aCe Z (Ct.fresh (λw hw=>mI ((RdC.toI (RdC.right ac [_]) G) w hw) (by rw[ax];omega)))) ?_;rintro _ _⟨_,rfl,bm,bl,rfl,rfl⟩;refine wn Z<|wq<|wm Z<|wm Z<|wy (aF Z)<|wy (yF 0 0 Ak dA Z)<|wy (yL 1 af Z Z Z)<|wm Z<|wy (dK af sz5 Z Z)<|wy (aF Z)<|wy (yF 0 0 Ak dA Z)<|bV (aX 1 Z Z Z dA Z Z Z Z (au Z)) ?_;rintro _ _ rfl;refine aA<|wq<|wm Z<|wg Z<|wn Z<|bN (R1:=((ru 5 bm (((u).take (k).toNat).length) bl ((u).take (k).toNat))::(rc 146 1 g [sl (jE ap (k).toNat ao 1) (u.length-(k).toNat) (ao-(k).toNat)])::R)) hiZ ?_;refine⟨_,_,Z,Z,?_⟩;have e:(u.take k.toNat).length=k.toNat:=by rw[ax];omega
 rw[e];exact⟨_,_,Z,Z⟩
theorem aPi {mu:AF} {sn mv:Nat} {b:AH} {k:Nat} (jp:Rd w mu sn mv 1 (ints .u8 b)) (cr:aP b) (hN:b.length<=1000000) (h:vC b V k):CF 227 #[sl mu sn mv] w (λv R'=>v= .tuple #[.int .u64 V,I (k:Int),bt]):=
 (bDs jp cr hN).mono λv R' hv=>by
  rcases hv with⟨V',k',g,rfl⟩|⟨g,rfl⟩
  ·obtain ⟨rfl,rfl⟩:=g.one h;rfl
  ·exact(g ⟨V,k,h⟩).elim
theorem UN {fa:Int} {m:Nat} (ac:RdC B w0 R ap ar ao 1 (ints .u8 u)) (ce:ar=u.length) (hN:u.length<=1000000) (an:aP u) (hG:vC u V m) (hm:V<=fa) (hb:fa<=9223372036854775807):
  CT 157 #[PG g,I fa] B w0 ((rc 146 1 g [sl ap ar ao])::R) (λv R'=>v= .tuple #[I V,bt]/\R'=(rc 146 1 g [sl (jE ap m ao 1) (ar-m) (ao-m)])::R):=by
 subst ce;have Yn:=hG.1;have hgm:m<=u.length:=by obtain⟨_,h2,t,h3⟩:=hG;have h4:=bq List.length h3;rw[ah] at h4;omega
 refine fn2 Tryz.func157 Z Z Z ?_;refine wq<|wg Z<|wn Z<|aC<|wq<|wm Z<|wy (dL Ai Z Z)<|wm Z<|aB Z Z<|wm Z<|aB Z Z<|wy (Yl.f (eD Z Z)) ?_;refine wy (aO Z Z)<|aA<|aJ Z<|aI<|wq<|wm Z<|wy (aF Z)<|wy (yF 0 0 Ak dA Z)<|wy (yL 0 af Z Z Z)<|wa (aD bNk Z (Ct.quiet (λw hw=>aPi ((RdC.right ac [_]) w hw) an hN hG))) ?_;rintro _ _⟨rfl,rfl⟩;refine wm Z<|wX Z Z<|wX Z Z<|wX Z Z<|wg Z<|wg Z<|wn Z<|aC<|wq<|wm Z<|wy (dI Z)<|wm Z<|aB Z Z ?_;refine wm Z<|aB Z Z<|wm Z<|aB Z Z<|wy (gP ai dx Z)<|aB Z Z<|wy (Yl.f (dE Z Z))<|wy (aO Z Z)<|aA<|aJ Z<|aI<|wq<|wm Z<|wm Z ?_;refine wy (aF Z)<|wy (yF 0 0 Ak dA Z)<|wy (yL 0 af Z Z Z)<|wm Z<|wy (dK af sz5 Z Z)<|wy (aF Z)<|wy (yF 0 0 Ak dA Z)<|bV (aX 0 Z Z Z dA Z Z Z Z (au Z)) ?_;rintro _ _ rfl;refine aA<|wq<|wm Z<|wy (iK dx ai Z)<|wg Z<|wn Z<|bN (R1:=((rc 146 1 g [sl (jE ap ((m:Int)).toNat ao 1) (u.length-((m:Int)).toNat) (ao-((m:Int)).toNat)])::R)) hiZ ?_;refine⟨_,_,Z,Z,?_⟩;exact⟨Z,Z⟩
variable {w:World} {k:Int}
theorem pG {z6:AF} {Ut An:Nat} {ks:AH} (Lo:Rd w z6 Ut An 1 (ints .i64 ks)) (dq:(0<=k/\k<=1048576)/\ ∀x∈ks,0<=x/\x<k):
  CF 264 #[sl z6 Ut An,I k] w (λv R'=> ∃A c,v= .tuple #[sl A k.toNat c,bt]/\R'=[(ri 3 A k.toNat c (eG ks k))]):=by
 obtain rfl:=Lo.lenI;refine fn2 Tryz.func264 Z Z Z ?_;have m_ks:=Lo.max;have hk:=dq.1;refine wq<|wg Z<|wn Z<|aC<|wq<|wm Z<|wL Z Z<|wm Z<|cK 3 [(0,sl z6 ks.length An),(1,I k),(14, .bool (decide ((k<0)\/(1048576<k))))] [] ?_ ?_
 ·refine bR 11 Z (λaq=> ?_) (λaq=> ?_)
  ·refine aM Z Z Z Z<|aM Z Z Z Z<|wy (aT Z Z)<|aA ?_;exact KP
  ·refine aB Z Z<|wm Z<|aB Z Z<|wy (dE Z Z)<|wy (aO Z Z)<|aA ?_;exact KP
 refine oL 14 Z G<|aA<|aJ Z<|aI<|wq<|wm Z<|wa (dD aa zb3 Z Z) ?_;rintro _ _⟨am,rfl,rfl⟩;refine bF (v:=sl (GG am) ((k).toNat) ((k).toNat)) Z<|wn Z<|aC<|wq<|wm Z<|wy (aN aa Z)<|wm Z<|aA<|aH ?_;refine dM (λ(m:Int) (V:AH)=>[(1,I k),(6,sl (GG am) ((k).toNat) ((k).toNat)),(17,sl z6 ks.length An),(18,I (ks.length:Int)),(19,I m)]) (λm V=>[(ri 3 (GG am) ((k).toNat) ((k).toNat) V)]) (λm V=>(0<=m)/\(m<=ks.length)/\(V=eG (ks.take m.toNat) k)) (λm V=>(ks.length-m).toNat) ?_ ?_
 ·exact⟨0,List.replicate ((k).toNat) (0:Int),⟨G,G,((aDd k).symm)⟩,KP⟩
 intro m V ⟨px,oc,hV⟩;refine wq<|wL Z Z<|aA<|aC<|bA Z (λbp=> ?_) (λbp=> ?_)
 ·have hx:=dq.2 _ (bJ (L:=ks) px G)
  have hb:0<=rd V (rd ks m)/\rd V (rd ks m)<=m:=by
   have a:=OC (ks:=ks.take m.toNat) (k:=k) (x:=rd ks m);rw[<-hV,ax] at a;omega
  refine aI<|aC<|aH<|wq<|wy (aG aa sz3 Z Z (Lo.c _))<|wy (aR ai Z Z (Lo.c _))<|wn Z<|aC<|wq<|wm Z<|wL Z Z<|wm Z ?_;refine cK 4 [(1,I k),(6,sl (GG am) ((k).toNat) ((k).toNat)),(8,I (rd ks m)),(17,sl z6 ks.length An),(18,I (ks.length:Int)),(19,I m),(29, .bool (decide (((rd ks m)<0)\/(k<=(rd ks m)))))] [(ri 3 (GG am) ((k).toNat) ((k).toNat) V)] ?_ ?_
  ·refine bR 25 Z (λew=> ?_) (λew=> ?_)
   ·refine aM Z Z Z Z<|aM Z Z Z Z<|aM Z Z Z Z<|wy (aT Z Z)<|aA ?_;exact KP
   ·refine aB Z Z<|wm Z<|aB Z Z<|wm Z<|aB Z Z<|wy (iA Z Z)<|wy (aO Z Z)<|aA ?_;exact KP
  refine oL 29 Z G<|aA<|aJ Z<|aI<|aL<|wm Z<|wm Z<|wy (aG aa sz3 Z Z (rdr 0 Z))<|wy (aR ai Z Z (rdr 0 Z))<|wA Z Z<|wy (aG aa sz3 Z Z (rdr 0 Z))<|bV (bD 0 Z sz3 Z Z) ?_;rintro _ _ rfl;refine aA<|aL<|wA Z Z<|wm Z<|aA ?_;exact⟨m+1,upd V (rd ks m) ((rd V (rd ks m))+1),⟨G,G,(by rw[dH px G,<-TN hx.1 hx.2,<-hV])⟩,G,KP⟩
 ·refine aU<|wq<|wm Z<|wg Z<|wn Z<|aQ [0] 99 cC Z ?_;refine⟨_,_,Z,Z,?_⟩;have e:ks.take m.toNat=ks:=bg G;rw[e] at hV;subst hV;exact⟨_,_,Z,Z⟩
theorem xO {Oa:AF} {Us Od:Nat} {cs:AH} (Ln:Rd w Oa Us Od 1 (ints .i64 cs)) (lf: ∀x∈cs,0<=x) (Is:cs.sum<=1000000000) (mj:cs.length<=1048576):
  CF 280 #[sl Oa Us Od] w (λv R'=> ∃A c,v=sl A (dF cs).length c/\R'=[(ri 3 A ((dF cs).length) c (dF cs))]):=by
 obtain rfl:=Ln.lenI;refine fn1 Tryz.func280 Z Z Z ?_;have m_cs:=Ln.max;refine wq<|wn Z<|wq<|wm Z<|wy (aN aa Z)<|wa (dD aa zb3 Z Z) ?_;rintro _ _⟨am,rfl,rfl⟩;refine bF (v:=sl (GG am) cs.length cs.length) Z<|wn Z<|wq<|wn Z<|aC<|wq<|wm Z<|wy (aN aa Z)<|wm Z<|aA<|aH ?_;refine fA (λ(i:Int) (n:Int) (V:AH)=>[(3,sl (GG am) cs.length cs.length),(4,I n),(10,sl Oa cs.length Od),(11,I (cs.length:Int)),(12,I i)]) (λi n V=>[(ri 3 (GG am) cs.length cs.length V)]) (λi n V=>(0<=i)/\(i<=cs.length)/\(n=ps cs i)/\(V.length=cs.length)/\(∀j:Int,0<=j->j<i->rd V j=ps cs j)) (λi n V=>(cs.length-i).toNat) ?_ ?_
 ·exact⟨0,0,List.replicate cs.length (0:Int),⟨G,G,(Z),(by rw[bu]),(λj h1 h2=>G)⟩,KP⟩
 intro i n V ⟨aw,ia,hn,hl,hV⟩;refine wq<|wL Z Z<|aA<|aC<|bA Z (λaq=> ?_) (λaq=> ?_)
 ·have xt:=wF lf i;have i8:=wF lf (i+1);rw[lN aw G] at i8;refine aI<|aC<|aH<|wq<|wm Z<|wy (aG aa sz3 Z Z (Ln.c _))<|wy (aR ai Z Z (Ln.c _))<|wg Z<|wn Z<|wq<|wm Z<|wm Z ?_;refine wm Z<|wy (aG aa sz3 Z Z (rdr 0 Z))<|bV (bD 0 Z sz3 Z Z) ?_;rintro _ _ rfl;refine aA<|aL<|wm Z<|wm Z<|wA Z Z<|wn Z<|aL<|wA Z Z<|wm Z<|aA ?_;exact⟨i+1,n+(rd cs i),upd V i n,⟨G,G,(by rw[lN aw G,hn]),(by rw[aY];exact hl),(eP aw G hV hn)⟩,G,KP⟩
 ·refine aU<|wq<|wm Z<|wn Z<|aQ [0] 99 cC Z ?_;refine⟨_,Z,?_⟩;obtain rfl:V=dF cs:=bM (hl.trans (fG cs).symm) λj h1 h2=>by rw[nU h1 G];exact hV j h1 G
  rw[fG];exact⟨_,_,Z,Z⟩
theorem uJ {ox:AF} {m8 pc:Nat} {order:AH} {vj:AF} {Kf vl:Nat} {keys:AH} (re:Rd w ox m8 pc 1 (ints .i64 order)) (pd:Rd w vj Kf vl 1 (ints .i64 keys)) (hk:0<=k/\k<=1048576) (Nh: ∀x∈keys,0<=x/\x<k) (ho: ∀i∈order,0<=i/\i<keys.length) (hlen:order.length<=1000000):
  CF 239 #[sl ox m8 pc,sl vj Kf vl,I k] w (λv R'=> ∃A c,v= .tuple #[sl A order.length c,bt]/\R'=[(ri 3 A order.length c (dC order keys k.toNat))]):=by
 obtain rfl:=re.lenI;obtain rfl:=pd.lenI;refine fn2 Tryz.func239 Z Z Z ?_;have Wf:=re.max;have m_keys:=pd.max;have Qj: ∀i∈order,0<=rd keys i/\rd keys i<k:=λi hi=>Nh _ (bJ (ho i hi).1 (ho i hi).2);refine wq<|wg Z<|wn Z<|aC<|wq<|wm Z<|wm Z<|wa (aD aCi Z (Ct.fresh (λw hw=>pG ((pd.c _) w hw) ⟨hk,Nh⟩))) ?_;rintro _ _⟨_,rfl,bm,bl,rfl,rfl⟩;refine wm Z<|wX Z Z<|wX Z Z<|wg Z<|wn Z<|wq<|wm Z<|wy (dI Z)<|aA<|aJ Z<|aI<|wq ?_;refine wm Z<|wa (dD aa zb3 Z Z) ?_;rintro _ _⟨fb,rfl,rfl⟩;refine bF (v:=sl (GG fb) ((k).toNat) ((k).toNat)) Z<|wn Z<|aC<|wq<|wm Z<|wy (aN aa Z)<|wm Z<|aA<|aH ?_;refine dM (λ(m:Int) (V:AH)=>[(0,sl ox order.length pc),(1,sl vj keys.length vl),(10,sl (GG fb) ((k).toNat) ((k).toNat)),(27,sl ox order.length pc),(28,I (order.length:Int)),(29,I m)]) (λm V=>[(ri 3 (GG fb) ((k).toNat) ((k).toNat) V),(ri 3 bm ((k).toNat) bl (eG keys k))]) (λm V=>(0<=m)/\(m<=order.length)/\(V=eG ((order.take m.toNat).map (rd keys)) k)) (λm V=>(order.length-m).toNat) ?_ ?_
 ·exact⟨0,List.replicate ((k).toNat) (0:Int),⟨G,G,((aDd k).symm)⟩,KP⟩
 intro m V ⟨px,oc,hV⟩;refine wq<|wL Z Z<|aA<|aC<|bA Z (λaq=> ?_) (λaq=> ?_)
 ·have hi:=ho _ (bJ (L:=order) px G);have hx:=Qj _ (bJ (L:=order) px G)
  have hb:0<=rd V (rd keys (rd order m))/\rd V (rd keys (rd order m))<=m:=by
   have a:=OC (ks:=(order.take m.toNat).map (rd keys)) (k:=k) (x:=rd keys (rd order m));rw[<-hV,cu,ax] at a;omega
  have ld:V.length=k.toNat:=by rw[hV,eB]
  refine aI<|aC<|aH<|wq<|wy (aG aa sz3 Z Z (re.c _))<|wy (aR ai Z Z (re.c _))<|wn Z<|aC<|wq<|wm Z<|wL Z Z<|wm Z ?_;refine cK 5 [(0,sl ox order.length pc),(1,sl vj keys.length vl),(10,sl (GG fb) ((k).toNat) ((k).toNat)),(12,I (rd order m)),(27,sl ox order.length pc),(28,I (order.length:Int)),(29,I m),(40, .bool (decide (((rd order m)<0)\/((keys.length:Int)<=(rd order m)))))] [(ri 3 (GG fb) ((k).toNat) ((k).toNat) V),(ri 3 bm ((k).toNat) bl (eG keys k))] ?_ ?_
  ·refine bR 35 Z (λbp=> ?_) (λbp=> ?_)
   ·refine aM Z Z Z Z<|aM Z Z Z Z<|aM Z Z Z Z<|aM Z Z Z Z<|wy (aT Z Z)<|aA ?_;exact KP
   ·refine aB Z Z<|wm Z<|aB Z Z<|wm Z<|aB Z Z<|wy (aN aa Z)<|aB Z Z<|wy (iA Z Z)<|wy (aO Z Z)<|aA ?_;exact KP
  refine oL 40 Z G<|aA<|aJ Z<|aI<|aL<|wm Z<|wm Z<|wm Z<|wy (aG aa sz3 Z Z (pd.c _))<|wy (aR ai Z Z (pd.c _))<|wy (aG aa sz3 Z Z (rdr 0 Z))<|wy (aR ai Z Z (rdr 0 Z))<|wA Z Z<|wy (aG aa sz3 Z Z (rdr 0 Z))<|bV (bD 0 Z sz3 Z Z) ?_;rintro _ _ rfl;refine aA<|aL<|wA Z Z<|wm Z<|aA ?_;exact⟨m+1,upd V (rd keys (rd order m)) ((rd V (rd keys (rd order m)))+1),⟨G,G,(by rw[dH px G,jo,List.map_singleton,<-TN hx.1 hx.2,<-hV])⟩,G,KP⟩
 ·have Cl:V=(eG (order.map (rd keys)) k):=by rw[hV,bg G]
  have Lm:(dF V).length=k.toNat:=by rw[fG,hV,eB]
  refine aU<|wq<|wm Z<|wa (aD aLa Z (Ct.fresh (λw hw=>xO ((rdr 0 Z) w hw) (by rw[Cl];exact mH _ _) (by rw[Cl,OB G Qj];omega) (by rw[Cl,eB];omega)))) ?_;rintro _ _⟨_,rfl,ef,kc,rfl,rfl⟩;refine wn Z<|wq<|wm Z<|wy (aN aa Z)<|wa (dD aa zb3 Z Z) ?_;rintro _ _⟨kp,rfl,rfl⟩;refine bF (v:=sl (GG kp) order.length order.length) Z<|wn Z<|aC<|wq<|wm Z<|wy (aN aa Z)<|wm Z<|aA<|aH ?_;refine fA (λ(q:Int) (S:AH) (Lr:AH)=>[(1,sl vj keys.length vl),(13,sl ef ((dF V).length) kc),(14,sl (GG kp) order.length order.length),(56,sl ox order.length pc),(57,I (order.length:Int)),(58,I q)]) (λq S Lr=>[(ri 3 (GG kp) order.length order.length Lr),(ri 3 ef ((dF V).length) kc S),(ri 3 (GG fb) ((k).toNat) ((k).toNat) V),(ri 3 bm ((k).toNat) bl (eG keys k))]) (λq S Lr=>(0<=q)/\(q<=order.length)/\(EM order keys S Lr k q)) (λq S Lr=>(order.length-q).toNat) ?_ ?_
  ·exact⟨0,dF V,List.replicate order.length (0:Int),⟨G,G,(by rw[Cl];exact aFs)⟩,KP⟩
  intro q S Lr ⟨kj,yi,hP⟩;refine wq<|wL Z Z<|aA<|aC<|bA Z (λew=> ?_) (λew=> ?_)
  ·have hi:=ho _ (bJ (L:=order) kj G);have hx:=Qj _ (bJ (L:=order) kj G);have bc:=hP.lt Qj kj G;have zj:=hP.len;have un:=hP.alen;refine aI<|aC<|aH<|wq<|wy (aG aa sz3 Z Z (re.c _))<|wy (aR ai Z Z (re.c _))<|wn Z<|wq<|wm Z<|wm Z<|wm Z<|wm Z ?_;refine wy (aG aa sz3 Z Z (pd.c _))<|wy (aR ai Z Z (pd.c _))<|wy (aG aa sz3 Z Z (rdr 1 Z))<|wy (aR ai Z Z (rdr 1 Z))<|wm Z<|wy (aG aa sz3 Z Z (rdr 0 Z))<|bV (bD 0 Z sz3 Z Z) ?_;rintro _ _ rfl;refine aA<|aL<|wm Z<|wm Z<|wm Z<|wy (aG aa sz3 Z Z (pd.c _))<|wy (aR ai Z Z (pd.c _))<|wy (aG aa sz3 Z Z (rdr 1 Z))<|wy (aR ai Z Z (rdr 1 Z))<|wA Z Z<|wy (aG aa sz3 Z Z (rdr 1 Z))<|bV (bD 1 Z sz3 Z Z) ?_;rintro _ _ rfl;refine aA<|aL<|wA Z Z<|wm Z<|aA ?_;exact⟨q+1,upd S (rd keys (rd order q)) ((rd S (rd keys (rd order q)))+1),upd Lr (rd S (rd keys (rd order q))) (rd order q),⟨G,G,(hP.step Qj kj G)⟩,G,KP⟩
  ·refine aU<|wq<|wm Z<|wg Z<|wn Z<|aQ [0] 99 cC Z ?_;refine⟨_,_,Z,Z,?_⟩;have e:=hP.done Qj G;subst e;exact⟨_,_,Z,Z⟩
variable {w:World} {n i j k:Int} {cy:AF} {ij cx:Nat} {s:AH}
theorem mE {r:Int} (hr:0<=r/\r<=2) (hn:0<=n/\n<=1000000):
  CF 293 #[I n,I r] w (λv R'=> ∃A c,v=sl A (plc n.toNat r.toNat).length c/\R'=[(ri 3 A ((plc n.toNat r.toNat).length) c (plc n.toNat r.toNat))]):=by
 refine fn1 Tryz.func293 Z Z Z ?_;refine wq<|wn Z<|wq<|dB (R1:=[(ri 3 none 0 0 ([]))]) (Sub.refl _) (λ_ h=>h.nil 3 1)<|wn Z<|aC<|wq<|wm Z<|wn Z ?_;refine aH ?_;refine mU (λ(A1:AF) (n1:Nat) (c1:Nat) (a1:AH) (i:Int) (k:Nat)=>[(0,I n),(5,sl A1 n1 c1),(6,I i)]) (λA1 n1 c1 a1 i k=>[(ri 3 A1 n1 c1 a1)]) (λA1 n1 c1 a1 i k=>(n1=a1.length)/\(i=r+3*k)/\(a1=QC r.toNat k)/\(r+3*(k:Int)<n+3)) (λA1 n1 c1 a1 i k=>(n-i).toNat) ?_ ?_
 ·exact⟨none,0,0,[],r,0,⟨(Z),G,(Z),G⟩,KP⟩
 intro A1 n1 c1 a1 i k ⟨cv,hi,ba,hk⟩;have qk:=bq List.length ba;rw[aAd] at qk;refine aC<|wq<|wm Z<|wm Z<|wL Z Z<|aA<|bA Z (λaq=> ?_) (λaq=> ?_)
 ·refine aI<|aC<|aH<|aL<|wm Z<|wm Z<|wa (bH .i64 [i] aa zs3 Z Z Z) ?_;rintro _ _⟨bx,rfl,rfl⟩;refine wa (aS 1 Z aa zb3 Z Z Z (rdr 0 Z)) ?_;rintro _ _⟨fi,fj,rfl,rfl⟩;refine bF (v:=sl fi (n1+1) fj) Z<|wn Z<|aL<|wm Z<|wA Z Z<|wn Z ?_;exact⟨fi,n1+1,fj,a1++([i]),i+3,(k+1),⟨(by simp only[ah,cv];try rfl),G,(by rw[aOc,<-ba,show(r.toNat:Int)+3*(k:Int)=i by omega]),G⟩,G,SA,λ_ h=>h.sel [1] cC Z⟩
 ·refine aU<|wq<|wm Z<|wn Z<|aQ [0] 99 cC Z ?_;refine⟨_,Z,?_⟩;obtain rfl:k=(n.toNat+2-r.toNat)/3:=G
  subst ba;obtain rfl:=cv;exact⟨_,_,Z,Z⟩
theorem YZ (hn:0<=n/\n<=100000):
  CF 322 #[I n] w (λv R'=> ∃A c,v=sl A (smp n.toNat).length c/\R'=[(ri 3 A ((smp n.toNat).length) c (smp n.toNat))]):=by
 refine fn1 Tryz.func322 Z Z Z ?_;refine wq<|wn Z<|aC<|wq<|wm Z<|wL Z Z<|wm Z<|cK 3 [(0,I n),(8, .bool (decide ((n<0)\/(100000<n))))] [] ?_ ?_
 ·refine bR 5 Z (λaq=> ?_) (λaq=> ?_)
  ·refine aM Z Z Z Z<|aM Z Z Z Z<|wy (aT Z Z)<|aA ?_;exact KP
  ·refine aB Z Z<|wm Z<|aB Z Z<|wy (dE Z Z)<|wy (aO Z Z)<|aA ?_;exact KP
 refine oL 8 Z G<|aA<|aJ Z<|aI<|wq<|wm Z<|wa (aD TJ Z (Ct.fresh (λw hw=>mE cE G))) ?_;rintro _ _⟨_,rfl,bm,bl,rfl,rfl⟩;refine jG (R1:=[(ri 3 bm ((plc n.toNat 1).length) bl (plc n.toNat 1))]) Z<|bF (v:=sl bm ((plc n.toNat 1).length) bl) Z<|wm Z<|wa (aD TJ Z (Ct.fresh (λw hw=>mE cE G))) ?_;rintro _ _⟨_,rfl,iu,js,rfl,rfl⟩;refine jG (R1:=[(ri 3 iu ((plc n.toNat 2).length) js (plc n.toNat 2)),(ri 3 bm ((plc n.toNat 1).length) bl (plc n.toNat 1))]) Z<|bF (v:=sl iu ((plc n.toNat 2).length) js) Z<|wa (aS 1 Z aa zb3 Z Z Z (rdr 0 Z) (by have:=jV n.toNat 1;have:=jV n.toNat 2;omega)) ?_;rintro _ _⟨fc,dv,rfl,rfl⟩;refine jG (R1:=[(ri 3 iu ((plc n.toNat 2).length) js (plc n.toNat 2)),(ri 3 fc (((plc n.toNat 1).length)+((plc n.toNat 2).length)) dv ((plc n.toNat 1)++(plc n.toNat 2)))]) Z<|bF (v:=sl fc (((plc n.toNat 1).length)+((plc n.toNat 2).length)) dv) Z<|wn Z<|aQ [1] 99 cC Z ?_;refine⟨_,Z,?_⟩;have e:(plc n.toNat 1).length+(plc n.toNat 2).length=(smp n.toNat).length:=(ah ..).symm;rw[e];exact⟨_,_,Z,Z⟩
theorem wU {s:AH} (bb:Rd w cy ij cx 1 (ints .i64 s)) (hi:0<=i) (hs: ∀x∈s,0<=x/\x<=1000000):
  CF 324 #[sl cy ij cx,I i] w (λv R'=>v=I (iR s i)):=by
 obtain rfl:=bb.lenI;refine fn1 Tryz.func324 Z Z Z ?_;have yp:=bb.max;refine wq<|wn Z<|aC<|wq<|wm Z<|wm Z<|wy (aN aa Z)<|wy (iA Z Z)<|aA<|bA Z (λaq=> ?_) (λaq=> ?_)
 ·refine wq<|wn Z<|bS ?_;refine⟨_,Z,?_⟩;exact bq (Value.int .i64) (by unfold iR;rw[df G])
 ·have hm:=hs _ (bJ (L:=s) hi G);refine aI<|wq<|wm Z<|wm Z<|wy (aG aa sz3 Z Z (bb.c _))<|wy (aR ai Z Z (bb.c _))<|wA Z Z<|wn Z<|bS ?_;refine⟨_,Z,?_⟩;exact bq (Value.int .i64) (by unfold iR;rw[bz G])
theorem TB {s:AH} {b:Int} (bb:Rd w cy ij cx 1 (ints .i64 s)) (hb:0<=b/\b<=2) (hs: ∀x∈s,0<=x/\x<=1000000) (hN:s.length<=1000000):
  CF 295 #[sl cy ij cx,I b] w (λv R'=> ∃A c,v=sl A (s.length) c/\R'=[(ri 3 A s.length c (gF s b))]):=by
 obtain rfl:=bb.lenI;refine fn1 Tryz.func295 Z Z Z ?_;have yp:=bb.max;refine wq<|wn Z<|wq<|wm Z<|wy (aN aa Z)<|wa (dD aa zb3 Z Z) ?_;rintro _ _⟨am,rfl,rfl⟩;refine bF (v:=sl (GG am) s.length s.length) Z<|wn Z<|aC<|wq<|wm Z<|wy (aN aa Z)<|wm Z<|aA<|aH ?_;refine dM (λ(i:Int) (V:AH)=>[(0,sl cy s.length cx),(1,I b),(5,sl (GG am) s.length s.length),(11,I (s.length:Int)),(12,I i)]) (λi V=>[(ri 3 (GG am) s.length s.length V)]) (λi V=>(0<=i)/\(i<=s.length)/\(V.length=s.length)/\(∀j:Int,0<=j->j<i->rd V j=iR s (j+b))) (λi V=>(s.length-i).toNat) ?_ ?_
 ·exact⟨0,List.replicate s.length (0:Int),⟨G,G,(by rw[bu]),(λj h1 h2=>G)⟩,KP⟩
 intro i V ⟨aw,ia,ld,hV⟩;refine wq<|wL Z Z<|aA<|aC<|bA Z (λaq=> ?_) (λaq=> ?_)
 ·refine aI<|aC<|aH<|wq<|wm Z<|wn Z<|aL<|wm Z<|wm Z<|wm Z<|wm Z<|wm Z<|wA Z Z ?_;refine wa (aD aCg Z (Ct.quiet (λw hw=>wU ((bb.c _) w hw) G cE))) ?_;rintro _ _⟨rfl,rfl⟩;refine wy (aG aa sz3 Z Z (rdr 0 Z))<|bV (bD 0 Z sz3 Z Z) ?_;rintro _ _ rfl;refine aA<|aL<|wA Z Z<|wm Z<|aA ?_;exact⟨i+1,upd V i (iR s (i+b)),⟨G,G,(by rw[aY];exact ld),(eP (f:=λj=>iR s (j+b)) aw G hV Z)⟩,G,KP⟩
 ·refine aU<|wq<|wm Z<|wn Z<|aQ [0] 99 cC Z ?_;refine⟨_,Z,?_⟩;obtain rfl:V=gF s b:=aWa ld (λj h1 h2=>hV j h1 G);exact⟨_,_,Z,Z⟩
theorem aIj {s:AH} (bb:Rd w cy ij cx 1 (ints .i64 s)) (hi:0<=i/\i<=1000000) (hj:0<=j/\j<=1000000) (hs: ∀x∈s,0<=x/\x<=1000000):
  CF 323 #[sl cy ij cx,I i,I j] w (λv R'=>v= .bool (decide (QJ s i j))):=by
 obtain rfl:=bb.lenI;refine fn1 Tryz.func323 Z Z Z ?_;have yp:=bb.max;refine wq<|wn Z<|aC<|wq<|wm Z<|aA<|aH ?_;refine fM (λ(b:Int)=>[(0,sl cy s.length cx),(1,I i),(2,I j),(8,I b)]) (λb=>[]) (λb=>(0<=b)/\(b<=3)/\(∀c:Int,0<=c->c<b->iR s (i+c)=iR s (j+c))) (λb=>(3-b).toNat) ?_ ?_
 ·exact⟨0,⟨G,G,(λc h1 h2=>G)⟩,KP⟩
 intro b ⟨o9,Ls,hk⟩;refine wq<|wL Z Z<|aA<|aC<|bA Z (λaq=> ?_) (λaq=> ?_)
 ·refine aI<|aC<|aH<|wq<|wm Z<|wn Z<|wq<|wm Z<|wm Z<|wm Z<|wA Z Z<|wa (aD aCg Z (Ct.quiet (λw hw=>wU ((bb.c _) w hw) G cE))) ?_;rintro _ _⟨rfl,rfl⟩;refine wm Z<|wm Z<|wm Z<|wA Z Z<|wa (aD aCg Z (Ct.quiet (λw hw=>wU ((bb.c _) w hw) G cE))) ?_;rintro _ _⟨rfl,rfl⟩;refine wy (fE Z Z)<|aA<|bA Z (λbp=> ?_) (λbp=> ?_)
  ·refine wq<|wn Z<|bS ?_;refine⟨_,Z,?_⟩;exact bq Value.bool (mr (aZy o9 G bp)).symm
  ·refine aI<|aL<|wA Z Z<|wm Z<|aA ?_;exact⟨b+1,⟨G,G,(λc h1 h2=>(bn c b).elim (hk c h1) λg=>by rw[show c=b by omega];exact vk.1 bp)⟩,G,KP⟩
 ·refine aU<|wq<|wn Z<|bS ?_;refine⟨_,Z,?_⟩;exact bq Value.bool (mh (bEx λc h1 h2=>hk c h1 G)).symm
theorem aOt {s:AH} {rh:AF} {b5 rm:Nat} {rk:AH} {o:AH} (bb:Rd w cy ij cx 1 (ints .i64 s)) (ob:Rd w rh b5 rm 1 (ints .i64 rk)) (hR:RkO s o rk) (hi:(0<=i/\i<s.length)/\i%3≠0) (hj:(0<=j/\j<s.length)/\j%3=0) (hs: ∀x∈s,0<=x/\x<=1000000) (hN:s.length<=1000000):
  CF 296 #[sl cy ij cx,sl rh b5 rm,I i,I j] w (λv R'=>v= .bool (decide (cmpL (s.drop i.toNat) (s.drop j.toNat)<0))):=by
 obtain rfl:=bb.lenI;obtain rfl:=ob.lenI;refine fn1 Tryz.func296 Z Z Z ?_;have yp:=bb.max;have Pv:=ob.max;have nn:Nn s:=λx hx=>(hs x hx).1;refine wq<|wn Z<|aH ?_;refine fA (λ(p:Int) (q:Int) (c:Nat)=>[(0,sl cy s.length cx),(1,sl rh rk.length rm),(2,I p),(3,I q)]) (λp q c=>[]) (λp q c=>(p=i+c)/\(q=j+c)/\(EqH c (eu s i.toNat) (eu s j.toNat))/\(c=0\/c=1/\i%3=2)) (λp q c=>2-c) ?_ ?_
 ·exact⟨i,j,0,⟨G,G,(λd hd=>G),(.inl rfl)⟩,KP⟩
 intro p q c ⟨hp,hq,he,hc⟩;have hcc:c<=1:=G
 have ld:=hR.len;refine aH<|aC<|wq<|wm Z<|wm Z<|wa (aD aCg Z (Ct.quiet (λw hw=>wU ((bb.c _) w hw) G cE))) ?_;rintro _ _⟨rfl,rfl⟩;refine wm Z<|wm Z<|wa (aD aCg Z (Ct.quiet (λw hw=>wU ((bb.c _) w hw) G cE))) ?_;rintro _ _⟨rfl,rfl⟩;refine wg Z<|wn Z<|wq<|wm Z<|wm Z<|wy (fE Z Z)<|aA<|bA Z (λaq=> ?_) (λaq=> ?_)
 ·refine wq<|wm Z<|wm Z<|wL Z Z<|wn Z<|bS ?_;refine⟨_,Z,?_⟩;exact bq Value.bool (yj.2 (by subst hp hq;rw[gM];exact aVr nn hi.1.1 hj.1.1 he aq))
 ·have he2:=bDl nn hi.1.1 hj.1.1 he (by rw[<-hp,<-hq];exact vk.1 aq);refine aI<|wq<|wm Z<|wA Z Z<|wm Z<|wA Z Z<|wg Z<|wn Z<|wq<|wm Z<|wy (uV Z Z)<|wy (fE Z Z) ?_;refine wm Z<|cK 4 [(0,sl cy s.length cx),(1,sl rh rk.length rm),(2,I (p+1)),(3,I (q+1)),(34, .bool (decide ((((p+1)%3)≠0)/\(((q+1)%3)≠0))))] [] ?_ ?_
  ·refine bR 30 Z (λbp=> ?_) (λbp=> ?_)
   ·refine aB Z Z<|wm Z<|aB Z Z<|wy (uV Z Z)<|aB Z Z<|wy (fE Z Z)<|wy (aT Z Z)<|aA ?_;exact KP
   ·refine aM Z Z Z Z<|aM Z Z Z Z<|aM Z Z Z Z<|wy (aO Z Z)<|aA ?_;exact KP
  refine aA<|bA Z (λew=> ?_) (λew=> ?_)
  ·have Tl:=aOs hR hi.1 hj.1 G he2 G G;rw[show i+((c+1:Nat):Int)=p+1 by omega,show j+((c+1:Nat):Int)=q+1 by omega] at Tl;refine aC<|bI mixed<|wD 0 Z (aK Z)<|wD 1 Z (aK Z)<|wD 2 Z (aK Z)<|wD 3 Z (aN aa Z)<|wD 4 Z (sJ Z Z)<|wD 5 Z (aG aa sz3 Z Z (ob.c _))<|wD 6 Z (aR ai Z Z (ob.c _))<|wD 7 Z (aK Z)<|wD 8 Z (aK Z)<|wD 9 Z (aK Z)<|wD 10 Z (aN aa Z)<|wD 11 Z (sJ Z Z)<|wD 12 Z (aG aa sz3 Z Z (ob.c _)) ?_;refine wD 13 Z (aR ai Z Z (ob.c _))<|wD 14 Z (eD Z Z)<|wD 15 Z (bC Z)<|wN<|bS ?_;refine⟨_,Z,?_⟩;exact bq Value.bool (yj.2 (by rw[gM,Ex Tl.1.1,Ex Tl.1.2];exact Tl.2))
  ·refine aI ?_;exact⟨p+1,q+1,(c+1),⟨G,G,(he2),G⟩,G,KP⟩
theorem QB {w:World} {s:AH} (bb:Rd w cy ij cx 1 (ints .i64 s)) (IH: ∀ {w:World} {po:AF} {sp pr:Nat} {t:AH} {j:Int},Rd w po sp pr 1 (ints .i64 t)->t.length<s.length->((0<=j/\j<=1000000)/\ ∀x∈t,0<=x/\x<j)->t.length<=100000->CF 266 #[sl po sp pr,I j] w (λv R'=> ∃(b:AH) (A:AF) (c:Nat),v=sl A t.length c/\b.Perm (iota t.length)/\b.Pairwise (bU t)/\R'=[(ri 3 A t.length c b)])) (dq:(0<=k/\k<=1000000)/\ ∀x∈s,0<=x/\x<k) (hN:s.length<=100000) (h2:2<=s.length):
  CF 294 #[sl cy ij cx,I k] w (λv R'=> ∃(o V:AH) (A A':AF) (c c' m:Nat),v= .tuple #[sl A o.length c,sl A' m c']/\m=V.length/\RkO s o V/\(∀(B:Nat) (w0 w:World),Hp B w0 w R'->Rd w A o.length c 1 (ints .i64 o))/\ ∀(B:Nat) (w0 w:World),Hp B w0 w R'->Rd w A' V.length c' 1 (ints .i64 V)):=by
 obtain rfl:=bb.lenI;refine fn2 Tryz.func294 Z Z Z ?_;have yp:=bb.max;have nn:Nn s:=λx hx=>(dq.2 x hx).1;have wk: ∀x∈s,0<=x/\x<=1000000:=λx hx=>by have:=dq.2 x hx;omega
 have lp1:=jV s.length 1;have lp2:=jV s.length 2;have lsm:=BM s.length;refine wq<|dB (R1:=((ri 3 none 0 0 ([]))::[])) (Sub.refl _) (λ_ h=>h.nil 3 1)<|wg Z<|wn Z<|wq<|wm Z<|wy (aN aa Z)<|wa (aD bMc Z (Ct.fresh (λw hw=>YZ G))) ?_;rintro _ _⟨_,rfl,bm,bl,rfl,rfl⟩;refine bF (v:=sl bm ((smp s.length).length) bl) Z<|wn Z<|wq<|wm Z<|wn Z<|aC<|wq<|wn Z<|aH ?_;refine XU (λ(b:Int) (A1:AF) (n1:Nat) (c1:Nat) (O:AH) (A6:AF) (n6:Nat) (c6:Nat) (j:Nat) (Rs:List Row)=>[(0,sl cy s.length cx),(1,I k),(4,sl A1 n1 c1),(6,sl A6 n6 c6),(7,I b)]) (λb A1 n1 c1 O A6 n6 c6 j Rs=>((ri 3 none 0 0 ([]))::Rs)) (λb A1 n1 c1 O A6 n6 c6 j Rs=>(b=2-j)/\(j<=3)/\(O=bHk s k j)/\(n1=O.length)/\(n6=(smp s.length).length)/\(∀(B:Nat) (w0 w:World),Hp B w0 w Rs->Rd w A1 n1 c1 1 (ints .i64 O))/\(∀(B:Nat) (w0 w:World),Hp B w0 w Rs->Rd w A6 n6 c6 1 (ints .i64 (smp s.length)))) (λb A1 n1 c1 O A6 n6 c6 j Rs=>(b+1).toNat) ?_ ?_
 ·exact⟨2,bm,(smp s.length).length,bl,(smp s.length),bm,(smp s.length).length,bl,0,((ri 3 bm ((smp s.length).length) bl (smp s.length))::[]),⟨G,G,(Z),(Z),(Z),(λB w0 w h=>rdr 0 Z w h),(λB w0 w h=>rdr 0 Z w h)⟩,SA,λ_ h=>h.selR (F:=[_,_]) (F':=[_,_]) [1,0] cC Z⟩
 intro b A1 n1 c1 O A6 n6 c6 j Rs ⟨hj,hj3,hO,cv,hn6,h4,h6⟩;have u7:=ER dq.2 dq.1.1 j hj3;rw[<-hO] at u7;have Vf:=u7.length_eq;rw[BM] at Vf;refine aC<|wq<|wm Z<|wy (iA Z Z)<|aA<|bA Z (λaq=> ?_) (λaq=> ?_)
 ·have i8:0<=b/\b<=2:=G
  have ua:O.length=(dC O (gF s b) (k+1).toNat).length:=((qC dq.2 dq.1.1 i8.1 (λx hx=>nT (u7.subset hx))).length_eq).symm;refine aI<|aC<|aH<|aL<|wm Z<|wm Z<|wm Z<|wa (aD bGa Z (Ct.fresh (λw hw=>TB ((bb.c _) w hw) G wk G))) ?_;rintro _ _⟨_,rfl,fi,fj,rfl,rfl⟩;refine wm Z<|wA Z Z<|wa (aD NR Z (Ct.fresh (λw hw=>uJ ((λ_ h=>h4 _ _ _ (h.right (R':=[_,_]))) w hw) ((rdr 0 Z) w hw) G (aBi dq.2 dq.1.1 G) (λx hx=>by have:=nT (u7.subset hx);rw[FV];omega) G))) ?_;rintro _ _⟨_,rfl,ef,kc,rfl,rfl⟩;refine wm Z<|wX Z Z<|wX Z Z<|wn Z<|aL<|wm Z<|wS Z Z<|wn Z ?_;exact⟨b-1,ef,(O).length,kc,(dC O (gF s b) (k+1).toNat),A6,n6,c6,(j+1),((ri 3 ef ((O).length) kc (dC O (gF s b) ((k+1)).toNat))::Rs),⟨G,G,(by rw[hO,hj];rfl),(ua),(hn6),(λB w0 w h=>rdr 0 Z w h),(λB w0 w h=>h6 B w0 w h.tail)⟩,G,SA,λ_ h=>h.selR (F:=[_,_,_]) (F':=[_,_]) [2,0] cC Z⟩
 ·have hO3:O=bHl s k:=by rw[hO,show j=3 by omega];rfl
  have hOs:=aEp dq.2 dq.1.1;rw[<-hO3] at hOs;refine aU<|wq<|wm Z<|wy (aN aa Z)<|wA Z Z<|wa (dD aa zb3 Z Z) ?_;rintro _ _⟨pi,rfl,rfl⟩;refine bF (v:=sl (GG pi) (((s.length:Int)+3).toNat) (((s.length:Int)+3).toNat)) Z<|wn Z<|wq<|wn Z<|aC<|wq<|wm Z<|wy (aN aa Z)<|wm Z<|aA<|aH ?_;refine fA (λ(q:Int) (n:Int) (V:AH)=>[(0,sl cy s.length cx),(4,sl A1 n1 c1),(5,sl (GG pi) (((s.length:Int)+3).toNat) (((s.length:Int)+3).toNat)),(6,sl A6 n6 c6),(8,I n),(43,sl A1 n1 c1),(44,I (n1:Int)),(45,I q)]) (λq n V=>((ri 3 (GG pi) (((s.length:Int)+3).toNat) (((s.length:Int)+3).toNat) V)::(ri 3 none 0 0 ([]))::Rs)) (λq n V=>(0<=q)/\(q<=O.length)/\(RkI s O V q n)) (λq n V=>(O.length-q).toNat) ?_ ?_
  ·exact⟨0,0,List.replicate (((s.length:Int)+3).toNat) (0:Int),⟨G,G,(by rw[show((s.length:Int)+3).toNat=s.length+3 by omega];exact aTl)⟩,KP⟩
  intro q n V ⟨kj,yi,hI⟩;have ld:=hI.len;have hnq:=hI.nq;have Ma:=hI.n0;refine wq<|wL Z Z<|aA<|aC<|bA Z (λbp=> ?_) (λbp=> ?_)
  ·have Ko:0<=q-> ∀p:Int,0<=p->p<O.length->0<=rd O p/\rd O p<s.length:=λ_ p a b=>nT (u7.subset (bJ a b));refine aI<|aC<|aH<|wq<|wm Z<|wy (aG aa sz3 Z Z (λ_ h=>h4 _ _ _ (h.right (R':=[_,_]))))<|wy (aR ai Z Z (λ_ h=>h4 _ _ _ (h.right (R':=[_,_]))))<|wg Z<|wn Z<|aC<|wq<|wm Z ?_;refine wy (dR Z Z)<|wm Z<|cK 10 [(0,sl cy s.length cx),(4,sl A1 n1 c1),(5,sl (GG pi) (((s.length:Int)+3).toNat) (((s.length:Int)+3).toNat)),(6,sl A6 n6 c6),(8,I n),(10,I (rd O q)),(43,sl A1 n1 c1),(44,I (n1:Int)),(45,I q),(62, .bool (decide ((q=0)\/(¬(QJ s (rd O (q-1)) (rd O q))))))] ((ri 3 (GG pi) (((s.length:Int)+3).toNat) (((s.length:Int)+3).toNat) V)::(ri 3 none 0 0 ([]))::Rs) ?_ ?_
   ·refine bR 52 Z (λew=> ?_) (λew=> ?_)
    ·refine aM Z Z Z Z<|aM Z Z Z Z<|aM Z Z Z Z<|aM Z Z Z Z<|aM Z Z Z Z<|aM Z Z Z Z<|aM Z Z Z Z<|aM Z Z Z Z<|aM Z Z Z Z<|wy (aT Z Z)<|aA ?_;exact KP
    ·refine aB Z Z<|wm Z<|aB Z Z<|wm Z<|aB Z Z<|wm Z<|aB Z Z<|wS Z Z<|aB Z Z<|wy (aG aa sz3 Z Z (λ_ h=>h4 _ _ _ (h.right (R':=[_,_]))))<|aB Z Z<|wy (aR ai Z Z (λ_ h=>h4 _ _ _ (h.right (R':=[_,_]))))<|aB Z Z<|wm Z<|aB Z Z ?_;refine wa (aD bMb Z (Ct.quiet (λw hw=>aIj ((bb.c _) w hw) (by have:=Ko kj (q-1) G G;omega) (by have:=Ko kj q G G;omega) wk))) ?_;rintro _ _⟨rfl,rfl⟩;refine aB Z Z<|wy (EQ Z)<|wy (aO Z Z)<|aA ?_;exact KP
   refine aA<|bA Z (λkd=> ?_) (λkd=> ?_)
   ·refine aL<|wm Z<|wA Z Z<|wn Z<|aL<|wm Z<|wm Z<|wm Z<|wy (aG aa sz3 Z Z (rdr 0 Z) (by have:=Ko kj q G G;omega) (by have:=Ko kj q G G;omega)) ?_;refine bV (bD 0 Z sz3 Z Z (by have:=Ko kj q G G;omega) (by have:=Ko kj q G G;omega)) ?_;rintro _ _ rfl;refine aA<|aL<|wA Z Z<|wm Z<|aA ?_;exact⟨q+1,n+1,upd V (rd O q) (n+1),⟨G,G,(hI.step u7 kj G (.inl ⟨Z,bIo nn u7 hOs kj G kd⟩))⟩,G,KP⟩
   ·refine aI<|aL<|wm Z<|wm Z<|wm Z<|wy (aG aa sz3 Z Z (rdr 0 Z) (by have:=Ko kj q G G;omega) (by have:=Ko kj q G G;omega)) ?_;refine bV (bD 0 Z sz3 Z Z (by have:=Ko kj q G G;omega) (by have:=Ko kj q G G;omega)) ?_;rintro _ _ rfl;refine aA<|aL<|wA Z Z<|wm Z<|aA ?_;exact⟨q+1,n,upd V (rd O q) n,⟨G,G,(hI.step u7 kj G (.inr ⟨Z,bIm nn u7 kj G kd⟩))⟩,G,KP⟩
  ·have Vc:RkI s O V O.length n:=by have e:q=O.length:=G;rw[<-e];exact hI
   refine aU<|aC<|wq<|wm Z<|wm Z<|wy (aN aa Z)<|wy (dR Z Z)<|aA<|bA Z (λme=> ?_) (λme=> ?_)
   ·refine wq<|wm Z<|wm Z<|wg Z<|wn Z<|aQ [0] 2 cC Z ?_;refine⟨_,_,Z,Z,?_⟩;obtain rfl:=cv;have Sd:((s.length:Int)+3).toNat=V.length:=by have:=Vc.len;omega
    exact⟨O,V,_,_,_,_,_,Z,Sd,Vc.all u7 G,λB w0 w h=>h4 B w0 w h.tail,λB w0 w h=>by rw[<-Sd];exact rdr 0 rfl w h⟩
   ·have hF:=Vc.done u7;have h4l:4<=s.length:=Ir.1 λg=>me (by have:=Vc.short u7 h2 G;omega);refine aI<|wq<|wm Z<|wy (aN aa Z)<|wa (aD TJ Z (Ct.fresh (λw hw=>mE cE G))) ?_;rintro _ _⟨_,rfl,br,bw,rfl,rfl⟩;refine bF (v:=sl br ((plc s.length 1).length) bw) Z<|wn Z<|wq<|dB (R1:=((ri 3 none 0 0 ([]))::(ri 3 br ((plc s.length 1).length) bw (plc s.length 1))::(ri 3 (GG pi) (((s.length:Int)+3).toNat) (((s.length:Int)+3).toNat) V)::(ri 3 none 0 0 ([]))::Rs)) (Sub.refl _) (λ_ h=>h.nil 3 1)<|wn Z<|aC<|wq<|wm Z<|wy (aN aa Z)<|wm Z<|aA ?_;refine aH ?_;refine fK (λ(A2:AF) (n2:Nat) (c2:Nat) (a2:AH) (i:Int)=>[(0,sl cy s.length cx),(5,sl (GG pi) (((s.length:Int)+3).toNat) (((s.length:Int)+3).toNat)),(6,sl A6 n6 c6),(8,I n),(11,sl br ((plc s.length 1).length) bw),(12,sl A2 n2 c2),(79,sl br ((plc s.length 1).length) bw),(80,I (((plc s.length 1).length:Nat):Int)),(81,I i)]) (λA2 n2 c2 a2 i=>((ri 3 A2 n2 c2 a2)::(ri 3 br ((plc s.length 1).length) bw (plc s.length 1))::(ri 3 (GG pi) (((s.length:Int)+3).toNat) (((s.length:Int)+3).toNat) V)::(ri 3 none 0 0 ([]))::Rs)) (λA2 n2 c2 a2 i=>(n2=a2.length)/\(0<=i)/\(i<=(plc s.length 1).length)/\(a2=((plc s.length 1).take i.toNat).map (rd V))) (λA2 n2 c2 a2 i=>((plc s.length 1).length-i).toNat) ?_ ?_
    ·exact⟨none,0,0,[],0,⟨(Z),G,G,(Z)⟩,KP⟩
    intro A2 n2 c2 a2 i ⟨tg,aw,ia,Ol⟩;have Oo:=bq List.length Ol;rw[cu,ax] at Oo;refine wq<|wL Z Z<|aA<|aC<|bA Z (λvq=> ?_) (λvq=> ?_)
    ·have Qm:=(kG (n:=s.length) (r:=1) G).1 (bJ (L:=plc s.length 1) aw G);refine aI<|aC<|aH<|wq<|wy (aG aa sz3 Z Z (rdr 1 Z))<|wy (aR ai Z Z (rdr 1 Z))<|wn Z<|aL<|wm Z<|wm Z<|wm Z<|wy (aG aa sz3 Z Z (rdr 2 Z))<|wy (aR ai Z Z (rdr 2 Z)) ?_;refine wa (bH .i64 [rd V (rd (plc s.length 1) i)] aa zs3 Z Z Z) ?_;rintro _ _⟨ka,rfl,rfl⟩;refine wa (aS 1 Z aa zb3 Z Z Z (rdr 0 Z)) ?_;rintro _ _⟨en,es,rfl,rfl⟩;refine bF (v:=sl en (n2+1) es) Z<|wn Z<|aL<|wA Z Z<|wm Z<|aA ?_;exact⟨en,n2+1,es,a2++([rd V (rd (plc s.length 1) i)]),i+1,⟨(by simp only[ah,tg];try rfl),G,G,(by rw[dH aw G,jo,Ol];rfl)⟩,G,SA,λ_ h=>h.selR (F:=[_,_,_,_,_]) (F':=[_,_,_,_]) [1,2,3,4] cC Z⟩
    ·refine aU<|wq<|wm Z<|wa (bH .i64 [0] aa zs3 Z Z Z) ?_;rintro _ _⟨o7,rfl,rfl⟩;refine wa (aS 1 Z aa zb3 Z Z Z (rdr 0 Z)) ?_;rintro _ _⟨vi,gh,rfl,rfl⟩;refine bF (v:=sl vi (n2+1) gh) Z<|wn Z<|aC<|wq<|wm Z<|wy (aN aa Z)<|wa (aD TJ Z (Ct.fresh (λw hw=>mE cE G))) ?_;rintro _ _⟨_,rfl,ur,uv,rfl,rfl⟩;refine bF (v:=sl ur ((plc s.length 2).length) uv) Z<|wy (aN aa Z)<|wm Z<|aA<|aH ?_;refine fK (λ(A3:AF) (n3:Nat) (c3:Nat) (a3:AH) (u:Int)=>[(5,sl (GG pi) (((s.length:Int)+3).toNat) (((s.length:Int)+3).toNat)),(6,sl A6 n6 c6),(8,I n),(11,sl br ((plc s.length 1).length) bw),(12,sl A3 n3 c3),(98,sl ur ((plc s.length 2).length) uv),(99,I (((plc s.length 2).length:Nat):Int)),(100,I u)]) (λA3 n3 c3 a3 u=>((ri 3 ur ((plc s.length 2).length) uv (plc s.length 2))::(ri 3 (GG o7) 1 1 ([0]))::(ri 3 A3 n3 c3 a3)::(ri 3 br ((plc s.length 1).length) bw (plc s.length 1))::(ri 3 (GG pi) (((s.length:Int)+3).toNat) (((s.length:Int)+3).toNat) V)::(ri 3 none 0 0 ([]))::Rs)) (λA3 n3 c3 a3 u=>(n3=a3.length)/\(0<=u)/\(u<=(plc s.length 2).length)/\(a3=((plc s.length 1).map (rd V)++[0])++((plc s.length 2).take u.toNat).map (rd V))) (λA3 n3 c3 a3 u=>((plc s.length 2).length-u).toNat) ?_ ?_
     ·exact⟨vi,n2+1,gh,a2++([0]),0,⟨(by simp only[ah,tg];try rfl),G,G,(by rw[Ol,bg G];simp)⟩,KP⟩
     intro A3 n3 c3 a3 u ⟨Vu,md,vd,Om⟩;have Xu:=bq List.length Om;rw[ah,ah,cu,cu,ax,gq] at Xu;refine wq<|wL Z Z<|aA<|aC<|bA Z (λr7=> ?_) (λr7=> ?_)
     ·have Qm:=(kG (n:=s.length) (r:=2) G).1 (bJ (L:=plc s.length 2) md G);refine aI<|aC<|aH<|wq<|wy (aG aa sz3 Z Z (rdr 0 Z))<|wy (aR ai Z Z (rdr 0 Z))<|wn Z<|aL<|wm Z<|wm Z<|wm Z<|wy (aG aa sz3 Z Z (rdr 4 Z))<|wy (aR ai Z Z (rdr 4 Z)) ?_;refine wa (bH .i64 [rd V (rd (plc s.length 2) u)] aa zs3 Z Z Z) ?_;rintro _ _⟨Oe,rfl,rfl⟩;refine wa (aS 3 Z aa zb3 Z Z Z (rdr 0 Z)) ?_;rintro _ _⟨ov,oy,rfl,rfl⟩;refine bF (v:=sl ov (n3+1) oy) Z<|wn Z<|aL<|wA Z Z<|wm Z<|aA ?_;exact⟨ov,n3+1,oy,a3++([rd V (rd (plc s.length 2) u)]),u+1,⟨(by simp only[ah,Vu];try rfl),G,G,(by rw[dH md G,jo,Om,gy];rfl)⟩,G,SA,λ_ h=>h.selR (F:=[_,_,_,_,_,_,_]) (F':=[_,_,_,_,_,_]) [1,2,3,4,5,6] cC Z⟩
     ·have j6:a3=blw s V:=by rw[Om,bg G];rfl
      refine aU<|wq<|wn Z<|aC<|wq<|wm Z<|wm Z<|wA Z Z<|wa (aD bGd Z (Ct.fresh (λw hw=>IH ((rdr 2 Z) w hw) (by rw[j6,uS];omega) ⟨G,by rw[j6];exact aZo hF hI.n0⟩ (by rw[j6,uS];omega)))) ?_;rintro _ _⟨_,rfl,b1,pm,pn,rfl,cq,dj,rfl⟩;refine wy (aN aa Z)<|wm Z<|aA<|aH ?_;refine fK (λ(A4:AF) (n4:Nat) (c4:Nat) (a4:AH) (m:Int)=>[(4,sl A4 n4 c4),(5,sl (GG pi) (((s.length:Int)+3).toNat) (((s.length:Int)+3).toNat)),(6,sl A6 n6 c6),(11,sl br ((plc s.length 1).length) bw),(115,sl pm a3.length pn),(116,I (a3.length:Int)),(117,I m)]) (λA4 n4 c4 a4 m=>((ri 3 pm a3.length pn b1)::(ri 3 ur ((plc s.length 2).length) uv (plc s.length 2))::(ri 3 (GG o7) 1 1 ([0]))::(ri 3 A3 n3 c3 a3)::(ri 3 br ((plc s.length 1).length) bw (plc s.length 1))::(ri 3 (GG pi) (((s.length:Int)+3).toNat) (((s.length:Int)+3).toNat) V)::(ri 3 A4 n4 c4 a4)::Rs)) (λA4 n4 c4 a4 m=>(n4=a4.length)/\(0<=m)/\(m<=b1.length)/\(a4=ofB s (b1.take m.toNat))) (λA4 n4 c4 a4 m=>(b1.length-m).toNat) ?_ ?_
      ·exact⟨none,0,0,[],0,⟨(Z),G,G,(Z)⟩,KP⟩
      intro A4 n4 c4 a4 m ⟨Vv,px,oc,Dd⟩;have hbl1:b1.length=a3.length:=by rw[cq.length_eq,bB]
      have hal4:=bq List.length Dd;have Xv:=bCr (s:=s) (b1.take m.toNat);rw[ax] at Xv;refine wq<|wL Z Z<|aA<|aC<|bA Z (λOt=> ?_) (λOt=> ?_)
      ·have Vk:=aZ.1 (cq.subset (bJ (L:=b1) px G));rw[j6,uS] at Vk;refine aI<|aC<|aH<|wq<|wy (aG aa sz3 Z Z (rdr 0 Z))<|wy (aR ai Z Z (rdr 0 Z))<|wn Z<|aH<|wq<|wm Z<|wm Z<|wy (aN aa Z) ?_;refine wL Z Z<|wn Z<|bA Z (λSo=> ?_) (λSo=> ?_)
       ·refine aL<|wm Z<|wm Z<|wm Z<|wy (aG aa sz3 Z Z (rdr 4 Z))<|wy (aR ai Z Z (rdr 4 Z))<|wa (bH .i64 [rd (plc s.length 1) (rd b1 m)] aa zs3 Z Z Z) ?_;rintro _ _⟨g_30,rfl,rfl⟩;refine wa (aS 7 Z aa zb3 Z Z Z (rdr 0 Z)) ?_;rintro _ _⟨Ra,Rm,rfl,rfl⟩;refine bF (v:=sl Ra (n4+1) Rm) Z<|wn Z<|aL<|wA Z Z<|wm Z<|aA ?_;exact⟨Ra,n4+1,Rm,a4++([rd (plc s.length 1) (rd b1 m)]),m+1,⟨(by simp only[ah,Vv];try rfl),G,G,(by rw[dH px G,aAt G,Dd,bJu Vk.1 G])⟩,G,SA,λ_ h=>h.selR (F:=[_,_,_,_,_,_,_,_]) (F':=[_,_,_,_,_,_,_]) [1,2,3,4,5,6,7] cC Z⟩
       ·refine wq<|wm Z<|wm Z<|wy (aN aa Z)<|wy (dE Z Z)<|wn Z<|bA Z (λYc=> ?_) (λYc=> ?_)
        ·refine aL<|wm Z<|wm Z<|wm Z<|wS Z Z<|wy (aG aa sz3 Z Z (λ_ h=>h6 _ _ _ (h.right (R':=[_,_,_,_,_,_,_]))))<|wy (aR ai Z Z (λ_ h=>h6 _ _ _ (h.right (R':=[_,_,_,_,_,_,_]))))<|wa (bH .i64 [rd (smp s.length) ((rd b1 m)-1)] aa zs3 Z Z Z) ?_;rintro _ _⟨Ww,rfl,rfl⟩;refine wa (aS 7 Z aa zb3 Z Z Z (rdr 0 Z)) ?_;rintro _ _⟨Lb,Lf,rfl,rfl⟩;refine bF (v:=sl Lb (n4+1) Lf) Z<|wn Z<|aL<|wA Z Z<|wm Z<|aA ?_;exact⟨Lb,n4+1,Lf,a4++([rd (smp s.length) ((rd b1 m)-1)]),m+1,⟨(by simp only[ah,Vv];try rfl),G,G,(by rw[dH px G,aAt G,Dd,bJt G G])⟩,G,SA,λ_ h=>h.selR (F:=[_,_,_,_,_,_,_,_]) (F':=[_,_,_,_,_,_,_]) [1,2,3,4,5,6,7] cC Z⟩
        ·refine aI<|aL<|wA Z Z<|wm Z<|aA ?_;exact⟨A4,n4,c4,a4,m+1,⟨(by simp only[ah,Vv];try rfl),G,G,(by rw[dH px G,aAs G,Dd])⟩,G,KP⟩
      ·rw [j6] at cq dj;have hof:a4=ofB s b1:=by rw[Dd,bg G]
       have Pi:a4.Perm (smp s.length):=by rw[hof];exact aVc cq
       have Zk:a4.Pairwise (bU s):=by rw[hof];exact aFx hF hI.n0 cq dj
       refine aU<|aC<|wq<|wm Z<|wy (aN aa Z)<|wm Z<|aA<|aH ?_;refine dM (λ(z:Int) (V5:AH)=>[(4,sl A4 n4 c4),(5,sl (GG pi) (((s.length:Int)+3).toNat) (((s.length:Int)+3).toNat)),(147,sl A4 n4 c4),(148,I (n4:Int)),(149,I z)]) (λz V5=>((ri 3 pm a3.length pn b1)::(ri 3 ur ((plc s.length 2).length) uv (plc s.length 2))::(ri 3 (GG o7) 1 1 ([0]))::(ri 3 A3 n3 c3 a3)::(ri 3 br ((plc s.length 1).length) bw (plc s.length 1))::(ri 3 (GG pi) (((s.length:Int)+3).toNat) (((s.length:Int)+3).toNat) V5)::(ri 3 A4 n4 c4 a4)::Rs)) (λz V5=>(0<=z)/\(z<=a4.length)/\(RkN s a4 V5 z)) (λz V5=>(a4.length-z).toNat) ?_ ?_
       ·exact⟨0,V,⟨G,G,(hF.zero _)⟩,KP⟩
       intro z V5 ⟨wt,i5,Ve⟩;have hV5:=Ve.len;refine wq<|wL Z Z<|aA<|aC<|bA Z (λYd=> ?_) (λYd=> ?_)
       ·have hzi:=nT (Pi.subset (bJ (L:=a4) wt G));refine aI<|aC<|aH<|wq<|wm Z<|wy (aG aa sz3 Z Z (rdr 6 Z))<|wy (aR ai Z Z (rdr 6 Z))<|wg Z<|wn Z<|aL<|wm Z<|wm Z<|wm Z ?_;refine wA Z Z<|wy (aG aa sz3 Z Z (rdr 5 Z))<|bV (bD 5 Z sz3 Z Z) ?_;rintro _ _ rfl;refine aA<|aL<|wA Z Z<|wm Z<|aA ?_;exact⟨z+1,upd V5 (rd a4 z) (z+1),⟨G,G,(Ve.step Pi wt G)⟩,G,KP⟩
       ·refine aU<|wq<|wm Z<|wm Z<|wg Z<|wn Z<|bN (R1:=[(ri 3 A4 n4 c4 a4),(ri 3 (GG pi) (((s.length:Int)+3).toNat) (((s.length:Int)+3).toNat) V5)]) (λ_ h=>(h.selR (F:=[_,_,_,_,_,_,_]) (F':=[_,_]) [6,5] cC Z).left (X:=[_,_])) ?_;refine⟨_,_,Z,Z,?_⟩;obtain rfl:=Vv;have Sd:((s.length:Int)+3).toNat=V5.length:=by have:=Ve.len;omega
        have hNe:RkN s a4 V5 a4.length:=by have e:z=a4.length:=G;rw[<-e];exact Ve
        exact⟨a4,V5,_,_,_,_,_,Z,Sd,hNe.done Pi Zk,λB w0 w h=>rdr 0 Z w h,λB w0 w h=>by rw[<-Sd];exact rdr 1 rfl w h⟩
theorem aUf {l:AH} {a:Int} (h0:0<=a):rd (l.drop a.toNat) 0=rd l a:=by
 unfold rd;rw[ak,ak,qm];rfl
theorem IQ {w:World} {s:AH} (bb:Rd w cy ij cx 1 (ints .i64 s)) (IH: ∀ {w:World} {po:AF} {sp pr:Nat} {t:AH} {j:Int},Rd w po sp pr 1 (ints .i64 t)->t.length<s.length->((0<=j/\j<=1000000)/\ ∀x∈t,0<=x/\x<j)->t.length<=100000->CF 266 #[sl po sp pr,I j] w (λv R'=> ∃(b:AH) (A:AF) (c:Nat),v=sl A t.length c/\b.Perm (iota t.length)/\b.Pairwise (bU t)/\R'=[(ri 3 A t.length c b)])) (dq:(0<=k/\k<=1000000)/\ ∀x∈s,0<=x/\x<k) (hN:s.length<=100000):
  CF 266 #[sl cy ij cx,I k] w (λv R'=> ∃(b:AH) (A:AF) (c:Nat),v=sl A s.length c/\b.Perm (iota s.length)/\b.Pairwise (bU s)/\R'=[(ri 3 A s.length c b)]):=by
 obtain rfl:=bb.lenI;refine fn1 Tryz.func266 Z Z Z ?_;have yp:=bb.max;have wk: ∀x∈s,0<=x/\x<=1000000:=λx hx=>by have:=dq.2 x hx;omega
 have lp0:=jV s.length 0;have lsm:=BM s.length;refine wq<|wn Z<|aC<|wq<|wm Z<|wy (aN aa Z)<|wL Z Z<|aA<|bA Z (λaq=> ?_) (λaq=> ?_)
 ·refine wq<|wm Z<|wy (aN aa Z)<|wa (aD TJ Z (Ct.fresh (λw hw=>mE cE G))) ?_;rintro _ _⟨_,rfl,bm,bl,rfl,rfl⟩;refine bF (v:=sl bm ((plc s.length 0).length) bl) Z<|wm Z<|wy (aN aa Z)<|wy (dQ aa sz3 Z Z (rdr 0 Z))<|wn Z<|bN (R1:=[(ri 3 bm ((plc s.length 0).length) bl (plc s.length 0))]) (λ_ h=>(h.selR (F:=[_]) (F':=[_]) [0] cC Z).left (X:=[_])) ?_;refine⟨_,Z,?_⟩;rw[aOb (show s.length<2 by omega),bB];exact⟨_,_,_,Z, .refl _,bIa G,Z⟩
 ·refine aI<|wq<|wm Z<|wm Z<|wa (aD bMl Z (Ct.fresh (λw hw=>QB ((bb.c _) w hw) IH dq hN G))) ?_;rintro _ _⟨Rn,rfl,o1,V1,fi,ef,fj,kc,_,rfl,rfl,u9,Mh,j5⟩;refine dB (R1:=(Rn)) (Sub.refl _) (λ_ h=>Hp.toTail0 (X:=[]) (Y:=[]) h)<|wm Z<|wX Z Z<|wX Z Z<|wg Z<|wn Z<|wq<|wm Z<|wy (aN aa Z)<|wa (aD TJ Z (Ct.fresh (λw hw=>mE cE G))) ?_;rintro _ _⟨_,rfl,fc,dv,rfl,rfl⟩;refine bF (v:=sl fc ((plc s.length 0).length) dv) Z<|wn Z<|wq<|wm Z<|wy (aN aa Z)<|wa (dD aa zb3 Z Z) ?_;rintro _ _⟨pi,rfl,rfl⟩;refine bF (v:=sl (GG pi) s.length s.length) Z<|wn Z<|aC<|wq<|wm Z<|wy (aN aa Z)<|wm Z<|aA<|aH ?_;refine dM (λ(i:Int) (V:AH)=>[(0,sl cy s.length cx),(1,I k),(5,sl fi o1.length fj),(6,sl ef V1.length kc),(7,sl fc ((plc s.length 0).length) dv),(8,sl (GG pi) s.length s.length),(35,I (s.length:Int)),(36,I i)]) (λi V=>((ri 3 (GG pi) s.length s.length V)::(ri 3 fc ((plc s.length 0).length) dv (plc s.length 0))::Rn)) (λi V=>(0<=i)/\(i<=s.length)/\(V.length=s.length)/\(∀j:Int,0<=j->j<i->rd V j=rd V1 (j+1))) (λi V=>(s.length-i).toNat) ?_ ?_
  ·exact⟨0,List.replicate s.length (0:Int),⟨G,G,(by rw[bu]),(λj h1 h2=>G)⟩,KP⟩
  intro i V ⟨aw,ia,ld,hV⟩;refine wq<|wL Z Z<|aA<|aC<|bA Z (λbp=> ?_) (λbp=> ?_)
  ·have hV1:=u9.len;refine aI<|aC<|aH<|wq<|wm Z<|wn Z<|aL<|wm Z<|wm Z<|wm Z<|wm Z<|wA Z Z<|wy (aG aa sz3 Z Z (λ_ h=>j5 _ _ _ (h.right (R':=[_,_])))) ?_;refine wy (aR ai Z Z (λ_ h=>j5 _ _ _ (h.right (R':=[_,_]))))<|wy (aG aa sz3 Z Z (rdr 0 Z))<|bV (bD 0 Z sz3 Z Z) ?_;rintro _ _ rfl;refine aA<|aL<|wA Z Z<|wm Z<|aA ?_;exact⟨i+1,upd V i (rd V1 (i+1)),⟨G,G,(by rw[aY];exact ld),(eP (f:=λj=>rd V1 (j+1)) aw G hV Z)⟩,G,KP⟩
  ·have hB:V=bhd s V1:=bJx ld (λj h1 h2=>hV j h1 G);have Wz:=aUr u9;have Va:=MM u9 dq.2 dq.1.1;have Pk:=aFt u9 dq.2 dq.1.1;have Vw:=u9.perm.length_eq;refine aU<|wq<|wm Z<|wm Z<|wm Z<|wy (aN aa Z)<|wA Z Z<|wa (aD NR Z (Ct.fresh (λw hw=>uJ ((rdr 1 Z) w hw) ((rdr 0 Z) w hw) G (by rw[hB];exact aZp u9) (λx hx=>by rw[kG G] at hx;omega) G))) ?_;rintro _ _⟨_,rfl,br,bw,rfl,rfl⟩;generalize zd:dC (plc s.length 0) V (((s.length:Int)+1)).toNat=ot1;refine wm Z<|wX Z Z<|wX Z Z<|wn Z<|wq<|wm Z<|wm Z<|wa (aD bGa Z (Ct.fresh (λw hw=>TB ((bb.c _) w hw) G wk G))) ?_;rintro _ _⟨_,rfl,ln,co,rfl,rfl⟩;refine wm Z<|wA Z Z<|wa (aD NR Z (Ct.fresh (λw hw=>uJ ((rdr 1 Z) w hw) ((rdr 0 Z) w hw) G (aBi dq.2 dq.1.1 G) (λx hx=>by rw[<-zd,hB] at hx;have:=Wz.subset hx;rw[kG G] at this;rw[FV];omega) (by rw[<-zd,hB,Wz.length_eq];omega)))) ?_;rintro _ _⟨_,rfl,en,es,rfl,rfl⟩;generalize Pa:dC ot1 (gF s 0) ((k+1)).toNat=ot2;have Pm:oth s V1 k=ot2:=by unfold oth;rw[<-hB,zd,Pa]
   rw[Pm] at Va Pk;have un:=Va.length_eq;have zj:ot1.length=ot2.length:=by rw[un,<-zd,hB,Wz.length_eq]
   refine wm Z<|wX Z Z<|wX Z Z<|wn Z<|wq<|dB (R1:=((ri 3 none 0 0 ([]))::(ri 3 en ((ot1).length) es ot2)::(ri 3 ln ((s).length) co (gF s 0))::(ri 3 br (((plc s.length 0)).length) bw ot1)::(ri 3 (GG pi) s.length s.length V)::(ri 3 fc ((plc s.length 0).length) dv (plc s.length 0))::Rn)) (Sub.refl _) (λ_ h=>h.nil 3 1)<|wn Z<|aC<|wq<|wm Z<|wy (aN aa Z) ?_;refine wm Z<|aA<|aH ?_;refine UL (λ(q:Int) (x:Int) (AL:AF) (nL:Nat) (cL:Nat) (acc:AH) (AO:AF) (nO:Nat) (cO:Nat)=>[(0,sl cy s.length cx),(5,sl AO nO cO),(6,sl ef V1.length kc),(10,sl AL nL cL),(66,sl en ((ot1).length) es),(67,I (((ot1).length:Nat):Int)),(68,I q)]) (λq x AL nL cL acc AO nO cO=>((ri 3 AL nL cL acc)::(ri 3 en ((ot1).length) es ot2)::(ri 3 ln ((s).length) co (gF s 0))::(ri 3 br (((plc s.length 0)).length) bw ot1)::(ri 3 (GG pi) s.length s.length V)::(ri 3 fc ((plc s.length 0).length) dv (plc s.length 0))::Rn)) (λq x AL nL cL acc AO nO cO=>(0<=q)/\(q<=ot2.length)/\(0<=x)/\(x<=o1.length)/\(MgI s o1 ot2 acc x q)/\(nL=acc.length)/\(nO=(o1.drop x.toNat).length)/\(∀(B:Nat) (w0 w:World),Hp B w0 w Rn->Rd w AO nO cO 1 (ints .i64 (o1.drop x.toNat)))) (λq x AL nL cL acc AO nO cO=>(ot2.length-q).toNat) ?_ ?_
   ·exact⟨0,0,none,0,0,[],fi,o1.length,fj,⟨G,G,G,G,(aVj),(Z),(Z),(Mh)⟩,KP⟩
   intro q x AL nL cL acc AO nO cO ⟨kj,yi,hx0,hx1,hM,hnL,hnO,h5⟩;have qk:=hM.len hx0 hx1 kj yi;refine wq<|wL Z Z<|aA<|aC<|bA Z (λew=> ?_) (λew=> ?_)
   ·have hqq:q<ot2.length:=G
    have hqm:=(kG G).1 (Va.subset (bJ (L:=ot2) kj hqq));have hqj:(0<=rd ot2 q/\rd ot2 q<s.length)/\rd ot2 q%3=0:=G
    refine aI<|aC<|aH<|wq<|wy (aG aa sz3 Z Z (rdr 1 Z))<|wy (aR ai Z Z (rdr 1 Z))<|wn Z<|aC<|aH ?_;refine uA (λ(y:Int) (AM:AF) (nM:Nat) (cM:Nat) (wv:AH) (AP:AF) (nP:Nat) (cP:Nat)=>[(0,sl cy s.length cx),(5,sl AP nP cP),(6,sl ef V1.length kc),(10,sl AM nM cM),(12,I (rd ot2 q)),(66,sl en ((ot1).length) es),(67,I (((ot1).length:Nat):Int)),(68,I q)]) (λy AM nM cM wv AP nP cP=>((ri 3 AM nM cM wv)::(ri 3 en ((ot1).length) es ot2)::(ri 3 ln ((s).length) co (gF s 0))::(ri 3 br (((plc s.length 0)).length) bw ot1)::(ri 3 (GG pi) s.length s.length V)::(ri 3 fc ((plc s.length 0).length) dv (plc s.length 0))::Rn)) (λy AM nM cM wv AP nP cP=>(0<=y)/\(y<=o1.length)/\(MgI s o1 ot2 wv y q)/\(nM=wv.length)/\(nP=(o1.drop y.toNat).length)/\(∀(B:Nat) (w0 w:World),Hp B w0 w Rn->Rd w AP nP cP 1 (ints .i64 (o1.drop y.toNat)))) (λy AM nM cM wv AP nP cP=>(o1.length-y).toNat) ?_ ?_
    ·exact⟨x,AL,nL,cL,acc,AO,nO,cO,⟨G,G,(hM),(hnL),(hnO),(h5)⟩,KP⟩
    intro y AM nM cM wv AP nP cP ⟨Uq,hy1,Sa,hnM,Zc,h6⟩;have Oo:=Sa.len Uq hy1 kj G;have Zd:=Zc;rw[az] at Zd;have e0:=aUf (l:=o1) Uq
    have hoi:y<o1.length->(0<=rd (o1.drop y.toNat) 0/\rd (o1.drop y.toNat) 0<s.length)/\rd (o1.drop y.toNat) 0%3≠0:=λh=>by
     have:=lS.1 (u9.perm.subset (bJ Uq h));rw[e0];omega
    refine aC<|wq<|wm Z<|wy (aN aa Z)<|wy (dE Z Z)<|wm Z<|cK 8 [(0,sl cy s.length cx),(5,sl AP nP cP),(6,sl ef V1.length kc),(10,sl AM nM cM),(12,I (rd ot2 q)),(66,sl en ((ot1).length) es),(67,I (((ot1).length:Nat):Int)),(68,I q),(83, .bool (decide ((0<(nP:Int))/\(cmpL ((s).drop ((rd (o1.drop y.toNat) 0)).toNat) ((s).drop ((rd ot2 q)).toNat)<0))))] ((ri 3 AM nM cM wv)::(ri 3 en ((ot1).length) es ot2)::(ri 3 ln ((s).length) co (gF s 0))::(ri 3 br (((plc s.length 0)).length) bw ot1)::(ri 3 (GG pi) s.length s.length V)::(ri 3 fc ((plc s.length 0).length) dv (plc s.length 0))::Rn) ?_ ?_
    ·refine bR 75 Z (λkd=> ?_) (λkd=> ?_)
     ·refine aB Z Z<|wm Z<|aB Z Z<|wm Z<|aB Z Z<|wm Z<|aB Z Z<|wy (aG aa sz3 Z Z (λ_ h=>h6 _ _ _ (h.right (R':=[_,_,_,_,_,_]))))<|aB Z Z<|wy (aR ai Z Z (λ_ h=>h6 _ _ _ (h.right (R':=[_,_,_,_,_,_]))))<|aB Z Z<|wm Z<|aB Z Z<|wa (aD bMk Z (Ct.quiet (λw hw=>aOt ((bb.c _) w hw) ((λ_ h=>j5 _ _ _ (h.right (R':=[_,_,_,_,_,_]))) w hw) u9 (hoi G) hqj wk G))) ?_;rintro _ _⟨rfl,rfl⟩;refine wy (aT Z Z)<|aA ?_;exact KP
     ·refine aM Z Z Z Z<|aM Z Z Z Z<|aM Z Z Z Z<|aM Z Z Z Z<|aM Z Z Z Z<|aM Z Z Z Z<|aM Z Z Z Z<|wy (aO Z Z)<|aA ?_;exact KP
    refine aA<|bA Z (λme=> ?_) (λme=> ?_)
    ·have Wc:y<o1.length:=G
     have w6:=gM.1 me.2;rw[e0] at w6;refine aI<|aH<|bI mixed<|wD 0 Z (aK Z)<|wD 1 Z (aK Z)<|wD 2 Z (aG aa sz3 Z Z (λ_ h=>h6 _ _ _ (h.right (R':=[_,_,_,_,_,_]))))<|wD 3 Z (aR ai Z Z (λ_ h=>h6 _ _ _ (h.right (R':=[_,_,_,_,_,_]))))<|wD 6 Z (aK Z)<|wD 7 Z (dK aa sz3 Z Z)<|wC 4 Z (bH .i64 [rd (o1.drop y.toNat) 0] aa zs3 Z Z Z) ?_;rintro _ _⟨o7,rfl,rfl⟩;refine⟨.inr hrZ,?_⟩;refine wC 5 Z (aS 1 Z aa zb3 Z Z Z (rdr 0 Z)) ?_;rintro _ _⟨vi,gh,rfl,rfl⟩;refine⟨.inl cA,?_⟩;refine iF (v:=sl vi (nM+1) gh) Z<|wD 8 Z (bC Z)<|wD 9 Z (bC Z)<|wN ?_
     exact⟨(y+1),vi,nM+1,gh,wv++([rd (o1.drop y.toNat) 0]),jE AP (1:Int).toNat cP 1,nP-(1:Int).toNat,cP-(1:Int).toNat,⟨G,G,(by rw[e0];exact Sa.left u9.sorted Pk Uq G kj hqq w6),(by rw[ah,hnM];rfl),(by rw[az] at Zc ⊢;omega),(λB w0 w h=>by
        have g:=RdC.fromI (l:=(1:Int).toNat) (h6 B w0) G w h;rw[Gg,show y.toNat+(1:Int).toNat=(y+1).toNat by omega] at g
        exact g)⟩,G,SA,λ_ h=>h.selR (F:=[_,_,_,_,_,_,_]) (F':=[_,_,_,_,_,_]) [1,2,3,4,5,6] cC Z⟩
    ·have s6:y<o1.length->bU s (rd ot2 q) (rd o1 y):=λh=>by
      have h1:=hoi h;rw[e0] at h1 me;rcases CO h1.1 hqj.1 G with g|g
      ·exact absurd ⟨G,gM.2 g⟩ me
      ·exact g
     refine aU<|aL<|wm Z<|wm Z<|wa (bH .i64 [rd ot2 q] aa zs3 Z Z Z) ?_;rintro _ _⟨gn,rfl,rfl⟩;refine wa (aS 1 Z aa zb3 Z Z Z (rdr 0 Z)) ?_;rintro _ _⟨gv,gw,rfl,rfl⟩;refine bF (v:=sl gv (nM+1) gw) Z<|wn Z<|aL<|wA Z Z<|wm Z<|aA ?_;exact⟨q+1,y,gv,nM+1,gw,wv++([rd ot2 q]),AP,nP,cP,⟨G,G,G,G,(Sa.right u9.sorted Pk Uq kj G s6),(by rw[ah,hnM];rfl),(Zc),(h6)⟩,G,SA,λ_ h=>h.selR (F:=[_,_,_,_,_,_,_]) (F':=[_,_,_,_,_,_]) [1,2,3,4,5,6] cC Z⟩
   ·refine aU<|wq<|wm Z<|wm Z<|wa (aS 0 Z aa zb3 Z Z Z (λ_ h=>h5 _ _ _ (h.right (R':=[_,_,_,_,_,_]))) (by have:=hnO;rw[az] at this;omega)) ?_;rintro _ _⟨ov,oy,rfl,rfl⟩;refine bF (v:=sl ov (nL+nO) oy) Z<|wn Z<|bN (R1:=[(ri 3 ov (nL+nO) oy (acc++(o1.drop x.toNat)))]) (λ_ h=>(h.selR (F:=[_,_,_,_,_,_]) (F':=[_]) [0] cC Z).left (X:=[_])) ?_;refine⟨_,Z,?_⟩;have hd:=hM.done u9.sorted G u9.perm Va;have e:nL+nO=s.length:=by have:=hd.1.length_eq;rw[bB,ah] at this;omega
    rw[e];exact⟨_,_,_,Z,hd.1,hd.2,Z⟩
theorem YU (m:Nat): ∀ {w:World} {cy:AF} {ij cx:Nat} {s:AH} {k:Int},Rd w cy ij cx 1 (ints .i64 s)->s.length<m->((0<=k/\k<=1000000)/\ ∀x∈s,0<=x/\x<k)->s.length<=100000->
  CF 266 #[sl cy ij cx,I k] w (λv R'=> ∃(b:AH) (A:AF) (c:Nat),v=sl A s.length c/\b.Perm (iota s.length)/\b.Pairwise (bU s)/\R'=[(ri 3 A s.length c b)]):=by
 induction m with
 |zero=>intro w A n c s k _ h;omega
 |succ m ih=>
  intro w A n c s k bb hm dq hN;exact IQ bb (λh1 h2 h3 h4=>ih h1 G h3 h4) dq hN
theorem PU {s:AH} (bb:Rd w cy ij cx 1 (ints .i64 s)) (dq:(0<=k/\k<=1000000)/\ ∀x∈s,0<=x/\x<k) (hN:s.length<=100000):
  CF 266 #[sl cy ij cx,I k] w (λv R'=> ∃(b:AH) (A:AF) (c:Nat),v=sl A s.length c/\b.Perm (iota s.length)/\b.Pairwise (bU s)/\R'=[(ri 3 A s.length c b)]):=YU (s.length+1) bb G dq hN
theorem PR {s:AH} (bb:Rd w cy ij cx 1 (ints .i64 s)) (hs: ∀x∈s,0<=x/\x<1048576) (hN:s.length<=100000):
  CF 267 #[sl cy ij cx] w (λv R'=> ∃(m:Int) (A:AF) (c:Nat),v=sl A s.length c/\(∀x∈s,0<=x/\x<=m)/\R'=[(ri 3 A s.length c (sqz s m))]):=by
 obtain rfl:=bb.lenI;refine fn1 Tryz.func267 Z Z Z ?_;have yp:=bb.max;refine wq<|wn Z<|wq<|wn Z<|aC<|wq<|wm Z<|wy (aN aa Z)<|wm Z<|aA ?_;refine aH ?_;refine dM (λ(i:Int) (m:Int)=>[(0,sl cy s.length cx),(3,I m),(13,sl cy s.length cx),(14,I (s.length:Int)),(15,I i)]) (λi m=>[]) (λi m=>(0<=i)/\(i<=s.length)/\(0<=m)/\(m<=1048575)/\(∀x∈s.take i.toNat,x<=m)) (λi m=>(s.length-i).toNat) ?_ ?_
 ·exact⟨0,0,⟨G,G,G,G,(λx hx=>by cases hx)⟩,KP⟩
 intro i m ⟨aw,ia,px,hmk,No⟩;refine wq<|wL Z Z<|aA<|aC<|bA Z (λaq=> ?_) (λaq=> ?_)
 ·have hsi:=hs _ (bJ (L:=s) aw G);refine aI<|aC<|aH<|wq<|wy (aG aa sz3 Z Z (bb.c _))<|wy (aR ai Z Z (bb.c _))<|wn Z<|aL<|wm Z<|wm Z<|wy (KE Z Z)<|wn Z ?_;refine aL<|wA Z Z<|wm Z<|aA ?_
  exact⟨i+1,max m (rd s i),⟨G,G,G,G,(λx hx=>by
    rw[dH aw G] at hx;rcases gp.1 hx with hx|hx
    ·have:=No x hx;omega
    ·rw[ib.1 hx];omega)⟩,G,KP⟩
 ·rw [bg G] at No;refine aU<|wq<|wm Z<|wA Z Z<|wa (dD aa zb3 Z Z) ?_;rintro _ _⟨am,rfl,rfl⟩;refine bF (v:=sl (GG am) ((m+1).toNat) ((m+1).toNat)) Z<|wn Z<|aC<|wq<|wm Z<|wy (aN aa Z)<|wm Z<|aA<|aH ?_;refine dM (λ(j:Int) (V:AH)=>[(0,sl cy s.length cx),(6,sl (GG am) ((m+1).toNat) ((m+1).toNat)),(26,sl cy s.length cx),(27,I (s.length:Int)),(28,I j)]) (λj V=>[(ri 3 (GG am) ((m+1).toNat) ((m+1).toNat) V)]) (λj V=>(0<=j)/\(j<=s.length)/\(V=thr (s.take j.toNat) m)) (λj V=>(s.length-j).toNat) ?_ ?_
  ·exact⟨0,List.replicate ((m+1).toNat) (0:Int),⟨G,G,((bAt m).symm)⟩,KP⟩
  intro j V ⟨ue,l7,hV⟩;refine wq<|wL Z Z<|aA<|aC<|bA Z (λbp=> ?_) (λbp=> ?_)
  ·have hsj:0<=rd s j/\rd s j<=m:=⟨(hs _ (bJ (L:=s) ue G)).1,No _ (bJ (L:=s) ue G)⟩;have ld:V.length=(m+1).toNat:=by rw[hV,kE]
   refine aI<|aC<|aH<|wq<|wy (aG aa sz3 Z Z (bb.c _))<|wy (aR ai Z Z (bb.c _))<|wn Z<|aL<|wm Z<|wm Z<|wy (aG aa sz3 Z Z (rdr 0 Z))<|bV (bD 0 Z sz3 Z Z) ?_;rintro _ _ rfl;refine aA<|aL<|wA Z Z<|wm Z<|aA ?_;exact⟨j+1,upd V (rd s j) 1,⟨G,G,(by rw[dH ue G,<-aSg hsj.1 hsj.2,<-hV])⟩,G,KP⟩
  ·have Se:V=thr s m:=by rw[hV,bg G]
   have Lm:(dF V).length=(m+1).toNat:=by rw[fG,Se,kE]
   refine aU<|wq<|wm Z<|wa (aD aLa Z (Ct.fresh (λw hw=>xO ((rdr 0 Z) w hw) (by rw[Se];exact aSh s m) (by rw[Se];have:=bAs s m;omega) (by rw[Se,kE];omega)))) ?_;rintro _ _⟨_,rfl,fk,fm,rfl,rfl⟩;refine wn Z<|wq<|wm Z<|wy (aN aa Z)<|wa (dD aa zb3 Z Z) ?_;rintro _ _⟨kx,rfl,rfl⟩;refine bF (v:=sl (GG kx) s.length s.length) Z<|wn Z<|aC<|wq<|wm Z<|wy (aN aa Z)<|wm Z<|aA<|aH ?_;refine dM (λ(z:Int) (U:AH)=>[(9,sl fk ((dF V).length) fm),(10,sl (GG kx) s.length s.length),(41,sl cy s.length cx),(42,I (s.length:Int)),(43,I z)]) (λz U=>[(ri 3 (GG kx) s.length s.length U),(ri 3 fk ((dF V).length) fm (dF V)),(ri 3 (GG am) ((m+1).toNat) ((m+1).toNat) V)]) (λz U=>(0<=z)/\(z<=s.length)/\(U.length=s.length)/\(∀j:Int,0<=j->j<z->rd U j=rd (dF (thr s m)) (rd s j))) (λz U=>(s.length-z).toNat) ?_ ?_
   ·exact⟨0,List.replicate s.length (0:Int),⟨G,G,(by rw[bu]),(λj h1 h2=>G)⟩,KP⟩
   intro z U ⟨wt,i5,Cd,hU⟩;refine wq<|wL Z Z<|aA<|aC<|bA Z (λew=> ?_) (λew=> ?_)
   ·have hsz:0<=rd s z/\rd s z<=m:=⟨(hs _ (bJ (L:=s) wt G)).1,No _ (bJ (L:=s) wt G)⟩;refine aI<|aC<|aH<|wq<|wm Z<|wy (aG aa sz3 Z Z (bb.c _))<|wy (aR ai Z Z (bb.c _))<|wg Z<|wn Z<|aL<|wm Z<|wm Z<|wm Z ?_;refine wm Z<|wy (aG aa sz3 Z Z (rdr 1 Z))<|wy (aR ai Z Z (rdr 1 Z))<|wy (aG aa sz3 Z Z (rdr 0 Z))<|bV (bD 0 Z sz3 Z Z) ?_;rintro _ _ rfl;refine aA<|aL<|wA Z Z<|wm Z<|aA ?_;exact⟨z+1,upd U z (rd (dF V) (rd s z)),⟨G,G,(by rw[aY];exact Cd),(eP (f:=λj=>rd (dF (thr s m)) (rd s j)) wt G hU (by rw[Se]))⟩,G,KP⟩
   ·refine aU<|wq<|wm Z<|wn Z<|aQ [0] 99 cC Z ?_;refine⟨_,Z,?_⟩;have ju: ∀x∈s,0<=x/\x<=m:=λx hx=>⟨(hs x hx).1,No x hx⟩;obtain rfl:U=sqz s m:=bHo ju Cd (λj h1 h2=>hU j h1 G);exact⟨m,_,_,Z,ju,Z⟩
theorem aVz {s:AH} (bb:Rd w cy ij cx 1 (ints .i64 s)) (dq:(0<=k/\k<=1048576)/\ ∀x∈s,0<=x/\x<k) (hN:s.length<=100000):
  CF 220 #[sl cy ij cx,I k] w (λv R'=> ∃(b:AH) (A:AF) (c:Nat),v= .tuple #[sl A s.length c,I 0]/\b.Perm (iota s.length)/\b.Pairwise (bU s)/\R'=[(ri 3 A s.length c b)]):=by
 obtain rfl:=bb.lenI;refine fn2 Tryz.func220 Z Z Z ?_;have yp:=bb.max;refine wq<|wg Z<|wn Z<|aC<|wq<|wm Z<|wy (aN aa Z)<|wy (Yl.f (dE Z Z))<|aA<|aJ Z<|aI<|aC ?_;refine wq<|wm Z<|wm Z<|wa (aD aCi Z (Ct.fresh (λw hw=>pG ((bb.c _) w hw) cE))) ?_;rintro _ _⟨_,rfl,bm,bl,rfl,rfl⟩;refine wm Z<|wX Z Z<|wX Z Z<|wg Z<|wn Z<|wq<|wm Z<|wy (dI Z)<|aA<|aJ Z<|aI<|wq ?_;refine wm Z<|wa (aD bMw Z (Ct.fresh (λw hw=>PR ((bb.c _) w hw) (λx hx=>by have:=dq.2 x hx;omega) hN))) ?_;rintro _ _⟨_,rfl,mq,iu,js,rfl,Za,rfl⟩;refine wm Z<|wy (aN aa Z)<|wA Z Z<|wa (aD bGd Z (Ct.fresh (λw hw=>PU ((rdr 0 Z) w hw) ⟨G,λx hx=>by have:=bHp Za x hx;omega⟩ (by rw[JI];exact hN)))) ?_;rintro _ _⟨_,rfl,b1,fc,dv,rfl,cq,dj,rfl⟩;refine wg Z<|wn Z<|aQ [0] 99 cC Z ?_;refine⟨_,_,Z,Z,?_⟩;have ho:=aMp Za cq dj;rw[JI];exact⟨b1,_,_,Z,ho.1,ho.2,Z⟩
theorem aOx {ap:AF} {ar ao:Nat} {u:AH} (ac:Rd w ap ar ao 1 (ints .u8 u)) (an:aP u) (hN:u.length<=100000):
  CF 147 #[sl ap ar ao] w (λv R'=> ∃(b:AH) (A:AF) (c:Nat),v= .tuple #[sl A u.length c,I 0]/\b.Perm (iota u.length)/\b.Pairwise (bU u)/\R'=[(ri 3 A u.length c b)]):=by
 obtain rfl:=ac.lenI;refine fn2 Tryz.func147 Z Z Z ?_;have li:=ac.max;refine wq<|wg Z<|wn Z<|aC<|wq<|wm Z<|wy (aN af Z)<|wy (Yl.f (dE Z Z))<|aA<|aJ Z<|aI<|aC ?_;refine aL<|wm Z<|wy (aN af Z)<|wa (dD aa zb3 Z Z) ?_;rintro _ _⟨am,rfl,rfl⟩;refine bF (v:=sl (GG am) u.length u.length) Z<|wn Z<|aC<|wq<|wm Z<|wy (aN af Z)<|wm Z<|aA<|aH ?_;refine dM (λ(i:Int) (V:AH)=>[(4,sl (GG am) u.length u.length),(13,sl ap u.length ao),(14,I (u.length:Int)),(15,I i)]) (λi V=>[(ri 3 (GG am) u.length u.length V)]) (λi V=>(0<=i)/\(i<=u.length)/\(V.length=u.length)/\(∀j:Int,0<=j->j<i->rd V j=rd u j)) (λi V=>(u.length-i).toNat) ?_ ?_
 ·exact⟨0,List.replicate u.length (0:Int),⟨G,G,(by rw[bu]),(λj h1 h2=>G)⟩,KP⟩
 intro i V ⟨aw,ia,ld,hV⟩;refine wq<|wL Z Z<|aA<|aC<|bA Z (λaq=> ?_) (λaq=> ?_)
 ·have tj:=an.rd i;refine aI<|aC<|aH<|wq<|wm Z<|wy (aG af sz5 Z Z (ac.c _))<|wy (aR ay Z Z (ac.c _))<|wg Z<|wn Z<|aL<|wm Z<|wm Z<|wm Z ?_;refine wy (iK ay ai Z)<|wy (aG aa sz3 Z Z (rdr 0 Z))<|bV (bD 0 Z sz3 Z Z) ?_;rintro _ _ rfl;refine aA<|aL<|wA Z Z<|wm Z<|aA ?_;exact⟨i+1,upd V i (rd u i),⟨G,G,(by rw[aY];exact ld),(eP (f:=λj=>rd u j) aw G hV Z)⟩,G,KP⟩
 ·have Sf:V=u:=bM ld (λj h1 h2=>hV j h1 G);refine aU<|wq<|wm Z<|wa (aD bNo Z (Ct.fresh (λw hw=>aVz ((rdr 0 Z) w hw) ⟨G,λx hx=>by rw[Sf] at hx;have:=an x hx;omega⟩ G))) ?_;rintro _ _⟨_,rfl,b1,fk,fm,rfl,cq,dj,rfl⟩;refine wX Z Z<|wX Z Z<|wg Z<|wn Z<|aQ [0] 99 cC Z ?_;refine⟨_,_,Z,Z,?_⟩;subst Sf;exact⟨b1,_,_,Z,cq,dj,Z⟩
end Go.Proofs.YtdbebmmhdefgdaaGreat
namespace Go.Proofs.YtdbebmmhdefgdaaGreat
open Go Go.Eng Go.RowKit Go.Shelf Go.Proofs
variable {c j g:Nat} {xs:AG} {zs:AH} {A:AF}
attribute [local go_sem] Oper.semAt_some
theorem iV {W:World} {a:Addr} {n:Nat} (h:Rd W (some a) n c 1 xs) (hj:j<xs.length):W.cell? (a.add j)=some (xs[j]'hj):=by
 obtain⟨b,h1,h2⟩:=h.at_ j _ (av hj);obtain rfl:=jc h1;exact h2
theorem _root_.Go.Eng.Iter.congr {P:Program} {gf:Nat} {lb:Array Value} {rv:World->Prop} {N:Nat} {f f':Nat->AG} (it:Iter P gf lb rv N f) (h: ∀k,k<N->f k=f' k):Iter P gf lb rv N f':=
 λl J W hR hD hY h0=>it l J W hR hD (λk W hk hJ=>by rw[h k hk];exact hY k W hk hJ) h0
theorem TE {k:IntKind} (h:j<zs.length):(ints k zs)[j]?.getD undef= .int k (rd zs (j:Int)):=by
 have:=Go.Eng.ints_at (k:=k) (l:=zs) (i:=(j:Int)) G G;rw[cz] at this;rw[this,oh]
set_option maxRecDepth 100000 in
theorem aZs (vb:xs.length<=1000000):Iter Tryz.prog 240 #[.pointer (some ⟨g,0,none⟩)] (λw=>Rd w (some ⟨g,0,none⟩) 1 1 1 [.slice A xs.length c]/\Rd w A xs.length c 1 xs) xs.length
  (λk=>[.int .i64 (((xs.length-1-k:Nat):Int)),xs[xs.length-1-k]?.getD undef]):=by
 intro l J W hR _ hY h0;rcases ed xs.length with hz|fg
 ·have hc:W.cell? ⟨g,0,none⟩=some (.slice A xs.length c):=iV (hR _ _ h0).1 (j:=0) cD;rw[hz] at hc;refine Bc Tryz.func240 rfl trivial ?_ rfl;simp only[Tryz.ntmps240,ql,dh,jl,Nat.reduceAdd,Nat.reduceSub,wz,xc,yw,uk,je,jh]
  gi_wp2
  gi_loopw [3] (λi wr=>i= .int .i64 (-1)/\J 0 wr) (λ_ _=>0)
  case atStart=>exact⟨rfl,h0⟩
  case round=>
   obtain⟨rfl,ti⟩:=hrel
   gi_wp2
   go_end0
   exact⟨⟨_,rfl⟩,by rw[hz];exact ti⟩
 ·obtain ⟨a,rfl⟩: ∃a,A=some a:=by
   obtain⟨a,h1,_⟩:=(hR _ _ h0).2.at_ 0 _ (av fg);exact⟨a,h1⟩
  have hc:W.cell? ⟨g,0,none⟩=some (.slice (some a) xs.length c):=iV (hR _ _ h0).1 (j:=0) cD;refine Bc Tryz.func240 rfl trivial ?_ rfl;simp only[Tryz.ntmps240,ql,dh,jl,Nat.reduceAdd,Nat.reduceSub,wz,xc,yw,uk,je,jh]
  gi_wp2
  gi_loopw [3] (λi wr=>(∃k j:Nat,k+j+1=xs.length/\i= .int .i64 (j:Int)/\J k wr)\/(i= .int .i64 (-1)/\J xs.length wr)) (λi _=>(intOf i+1).toNat)
  case atStart=>exact .inl ⟨0,xs.length-1,G,by rw[show((xs.length:Int)-1)=((xs.length-1:Nat):Int) by omega],h0⟩
  case round=>
   rcases hrel with⟨k,j,Qh,rfl,ti⟩|⟨rfl,ti⟩
   ·obtain ⟨fn,tmps,assign,body,hy,Oi⟩:=hY k wr G ti;rw[show xs.length-1-k=j by omega] at hy;have r9:j<xs.length:=G
    rw[av r9] at hy;simp only[oh] at hy;have aq:wr.cell? ⟨g,0,none⟩=some (.slice (some a) xs.length c):=iV (hR _ _ ti).1 (j:=0) cD;have bp:=iV (hR _ _ ti).2 r9
    gi_wp2
    refine⟨rfl,Oi.mono ?_⟩;rintro e W3 ⟨rfl,Kl⟩
    gi_wp2
    go_roundw
    case rel=>
     rcases ed j with rfl|hj
     ·exact .inr ⟨cD,by rw[<-Qh];exact Kl⟩
     ·exact .inl ⟨k+1,j-1,G,by rw[show((j:Int)-1)=((j-1:Nat):Int) by omega],Kl⟩
    case measure=>simp[intOf]
   ·gi_wp2
    go_end0
    exact⟨⟨_,rfl⟩,ti⟩
set_option maxRecDepth 100000 in
theorem aZt (vb:xs.length<=1000000):Iter Tryz.prog 241 #[.pointer (some ⟨g,0,none⟩)] (λw=>Rd w (some ⟨g,0,none⟩) 1 1 1 [.slice A xs.length c]/\Rd w A xs.length c 1 xs) xs.length
  (λk=>[.int .i64 (((xs.length-1-k:Nat):Int)),xs[xs.length-1-k]?.getD undef]):=by
 intro l J W hR _ hY h0;rcases ed xs.length with hz|fg
 ·have hc:W.cell? ⟨g,0,none⟩=some (.slice A xs.length c):=iV (hR _ _ h0).1 (j:=0) cD;rw[hz] at hc;refine Bc Tryz.func241 rfl trivial ?_ rfl;simp only[Tryz.ntmps241,ql,dh,jl,Nat.reduceAdd,Nat.reduceSub,wz,xc,yw,uk,je,jh]
  gi_wp2
  gi_loopw [3] (λi wr=>i= .int .i64 (-1)/\J 0 wr) (λ_ _=>0)
  case atStart=>exact⟨rfl,h0⟩
  case round=>
   obtain⟨rfl,ti⟩:=hrel
   gi_wp2
   go_end0
   exact⟨⟨_,rfl⟩,by rw[hz];exact ti⟩
 ·obtain ⟨a,rfl⟩: ∃a,A=some a:=by
   obtain⟨a,h1,_⟩:=(hR _ _ h0).2.at_ 0 _ (av fg);exact⟨a,h1⟩
  have hc:W.cell? ⟨g,0,none⟩=some (.slice (some a) xs.length c):=iV (hR _ _ h0).1 (j:=0) cD;refine Bc Tryz.func241 rfl trivial ?_ rfl;simp only[Tryz.ntmps241,ql,dh,jl,Nat.reduceAdd,Nat.reduceSub,wz,xc,yw,uk,je,jh]
  gi_wp2
  gi_loopw [3] (λi wr=>(∃k j:Nat,k+j+1=xs.length/\i= .int .i64 (j:Int)/\J k wr)\/(i= .int .i64 (-1)/\J xs.length wr)) (λi _=>(intOf i+1).toNat)
  case atStart=>exact .inl ⟨0,xs.length-1,G,by rw[show((xs.length:Int)-1)=((xs.length-1:Nat):Int) by omega],h0⟩
  case round=>
   rcases hrel with⟨k,j,Qh,rfl,ti⟩|⟨rfl,ti⟩
   ·obtain ⟨fn,tmps,assign,body,hy,Oi⟩:=hY k wr G ti;rw[show xs.length-1-k=j by omega] at hy;have r9:j<xs.length:=G
    rw[av r9] at hy;simp only[oh] at hy;have aq:wr.cell? ⟨g,0,none⟩=some (.slice (some a) xs.length c):=iV (hR _ _ ti).1 (j:=0) cD;have bp:=iV (hR _ _ ti).2 r9
    gi_wp2
    refine⟨rfl,Oi.mono ?_⟩;rintro e W3 ⟨rfl,Kl⟩
    gi_wp2
    go_roundw
    case rel=>
     rcases ed j with rfl|hj
     ·exact .inr ⟨cD,by rw[<-Qh];exact Kl⟩
     ·exact .inl ⟨k+1,j-1,G,by rw[show((j:Int)-1)=((j-1:Nat):Int) by omega],Kl⟩
    case measure=>simp[intOf]
   ·gi_wp2
    go_end0
    exact⟨⟨_,rfl⟩,ti⟩
theorem OZ (vb:zs.length<=1000000):Iter Tryz.prog 241 #[.pointer (some ⟨g,0,none⟩)] (λw=>Rd w (some ⟨g,0,none⟩) 1 1 1 [.slice A zs.length c]/\Rd w A zs.length c 1 (ints .i64 zs)) zs.length
  (λk=>[.int .i64 (((zs.length-1-k:Nat):Int)), .int .i64 (rd zs ((zs.length-1-k:Nat):Int))]):=by
 have h:=aZt (g:=g) (A:=A) (c:=c) (xs:=ints .i64 zs) (by rw[cZ];exact vb);rw[cZ] at h;exact h.congr λk hk=>by rw[TE G]
set_option maxRecDepth 100000 in
theorem aRz:Iter Tryz.prog 346 #[.pointer (some ⟨g,0,none⟩)] (λw=>Rd w (some ⟨g,0,none⟩) 1 1 1 [.slice A xs.length c]/\Rd w A xs.length c 1 xs) xs.length
  (λk=>[xs[k]?.getD undef]):=by
 intro l J W hR _ hY h0;have vb:=(hR _ _ h0).2.max;rcases ed xs.length with hz|fg
 ·have hc:W.cell? ⟨g,0,none⟩=some (.slice A xs.length c):=iV (hR _ _ h0).1 (j:=0) cD;rw[hz] at hc;refine Bc Tryz.func346 rfl trivial ?_ rfl;simp only[Tryz.ntmps346,ql,dh,jl,Nat.reduceAdd,Nat.reduceSub,wz,xc,yw,uk,je,jh]
  gi_wp2
  gi_loopw [7] (λi wr=>i= .int .i64 0/\J 0 wr) (λ_ _=>0)
  case atStart=>exact⟨rfl,h0⟩
  case round=>
   obtain⟨rfl,ti⟩:=hrel
   gi_wp2
   go_end0
   exact⟨⟨_,rfl⟩,by rw[hz];exact ti⟩
 ·obtain ⟨a,rfl⟩: ∃a,A=some a:=by
   obtain⟨a,h1,_⟩:=(hR _ _ h0).2.at_ 0 _ (av fg);exact⟨a,h1⟩
  have hc:W.cell? ⟨g,0,none⟩=some (.slice (some a) xs.length c):=iV (hR _ _ h0).1 (j:=0) cD;refine Bc Tryz.func346 rfl trivial ?_ rfl;simp only[Tryz.ntmps346,ql,dh,jl,Nat.reduceAdd,Nat.reduceSub,wz,xc,yw,uk,je,jh]
  gi_wp2
  gi_loopw [7] (λi wr=> ∃k:Nat,k<=xs.length/\i= .int .i64 k/\J k wr) (λi _=>xs.length-(intOf i).toNat)
  case atStart=>exact⟨0,qp _,rfl,h0⟩
  case round=>
   obtain⟨k,hk,rfl,ti⟩:=hrel;by_cases bc:k<xs.length
   ·obtain ⟨fn,tmps,assign,body,hy,Oi⟩:=hY k wr bc ti;rw[av bc] at hy;simp only[oh] at hy;have aq:wr.cell? ⟨g,0,none⟩=some (.slice (some a) xs.length c):=iV (hR _ _ ti).1 (j:=0) cD;have bp:=iV (hR _ _ ti).2 bc
    gi_wp2
    refine⟨rfl,Oi.mono ?_⟩;rintro e W3 ⟨rfl,Kl⟩
    gi_wp2
    go_roundw
    case rel=>exact⟨k+1,G,cD,Kl⟩
    case measure=>simp[intOf];omega
   ·obtain rfl:k=xs.length:=G
    gi_wp2
    go_end0
    exact⟨⟨_,rfl⟩,ti⟩
theorem aEk:Iter Tryz.prog 346 #[.pointer (some ⟨g,0,none⟩)] (λw=>Rd w (some ⟨g,0,none⟩) 1 1 1 [.slice A zs.length c]/\Rd w A zs.length c 1 (ints .i64 zs)) zs.length
  (λk=>[.int .i64 (rd zs (k:Int))]):=by
 have h:=aRz (g:=g) (A:=A) (c:=c) (xs:=ints .i64 zs);rw[cZ] at h;exact h.congr λk hk=>by rw[TE hk]
end Go.Proofs.YtdbebmmhdefgdaaGreat
namespace Go.Proofs
open Go.Shelf
def Tryz.lays189_ren:Go.Shelf.Ren:=⟨λ|189=>345|125=>192|257=>362|128=>251|129=>252|294=>367|295=>368|296=>369|297=>370|298=>371|299=>372|216=>348|300=>373|301=>374|328=>376|329=>282|330=>283|331=>377|332=>378|215=>194|343=>379|n=>n,λ|28=>52|3=>3|46=>167|0=>0|51=>123|53=>112|4=>4|183=>289|182=>288|131=>97|5=>5|9=>9|218=>316|222=>320|228=>337|229=>338|n=>n,λ|n=>n⟩
theorem Tryz.lays189:Go.Proofs.Lays.n189 Tryz.prog Tryz.lays189_ren:= {
 mixed:=cA
 f125:=Tryz.func192.trans (bq some cA)
 f128:=Tryz.func251.trans (bq some cA)
 f129:=Tryz.func252.trans (bq some cA)
 f189:=Tryz.func345.trans (bq some cA)
 f215:=Jd.trans (bq some cA)
 f216:=Tryz.func348.trans (bq some cA)
 f257:=Tryz.func362.trans (bq some cA)
 f294:=Tryz.func367.trans (bq some cA)
 f295:=Tryz.func368.trans (bq some cA)
 f296:=Tryz.func369.trans (bq some cA)
 f297:=Tryz.func370.trans (bq some cA)
 f298:=Tryz.func371.trans (bq some cA)
 f299:=Tryz.func372.trans (bq some cA)
 f300:=Tryz.func373.trans (bq some cA)
 f301:=Tryz.func374.trans (bq some cA)
 f328:=Tryz.func376.trans (bq some cA)
 f329:=Tryz.func282.trans (bq some cA)
 f330:=Tryz.func283.trans (bq some cA)
 f331:=Tryz.func377.trans (bq some cA)
 f332:=Tryz.func378.trans (bq some cA)
 f343:=Tryz.func379.trans (bq some cA)
 t0:=Ec
 a0:=Kc
 z0:=Je
 v0:=Fe
 t3:=Bz
 a3:=He
 z3:=Fy
 v3:=Cq
 t4:=Ed
 a4:=Ke
 z4:=Jf
 v4:=Ff
 t5:=Ee
 a5:=Kg
 z5:=Jg
 v5:=Fg
 t9:=Ef
 a9:=Kh
 z9:=Jh
 v9:=Fh
 t28:=Tryz.underlying52
 a28:=Tryz.isAgg52
 z28:=Tryz.sizeOf52
 v28:=Tryz.zeroValue52
 t46:=Az
 a46:=Ei
 z46:=Dt
 v46:=Bi
 t51:=Cx
 a51:=Hz
 z51:=Gl
 v51:=Dv
 t53:=Cw
 a53:=Hy
 z53:=Gj
 v53:=Du
 t131:=Hf
 a131:=Tryz.isAgg97
 z131:=Tryz.sizeOf97
 v131:=Il
 t182:=Gm
 a182:=Tryz.isAgg288
 z182:=Tryz.sizeOf288
 v182:=Hg
 t183:=Gn
 a183:=Tryz.isAgg289
 z183:=Tryz.sizeOf289
 v183:=Hl
 t218:=Gp
 a218:=Tryz.isAgg316
 z218:=Tryz.sizeOf316
 v218:=Hm
 t222:=Gq
 a222:=Tryz.isAgg320
 z222:=Tryz.sizeOf320
 v222:=Ho
 t228:=Gr
 a228:=Tryz.isAgg337
 z228:=Tryz.sizeOf337
 v228:=Hq
 t229:=Gs
 a229:=Tryz.isAgg338
 z229:=Tryz.sizeOf338
 v229:=Hr}
open Go.Sort Go.RowKit in
theorem Tryz.slices_Sort_int (gr off cap:Nat) (zs:AH) (w:World) (hH:Holds (Value.int .i64) w gr off zs.toArray) (hblk:gr<w.heap.size) (hsz:zs.length<4611686018427387904):
  Calls Tryz.prog 345 #[.slice (some ⟨gr,off,none⟩) zs.length cap] w λe w'=>
   e= .returned (.tuple #[])/\ ∃n os,w'=grow (putRow (Value.int .i64) (Sort.ahead w n) gr off (zs.mergeSort λx y=>decide (x<=y)).toArray) os:=Any.slices_Sort_int Tryz.lays189 gr off cap zs w hH hblk hsz
def Tryz.laysNm225_ren:Go.Shelf.Ren:=⟨λ|25=>325|31=>348|32=>349|37=>194|n=>n,λ|22=>52|3=>3|4=>4|40=>167|0=>0|n=>n,λ|n=>n⟩
theorem Tryz.laysNm225:Go.Proofs.Lays2.n25 Tryz.prog Tryz.laysNm225_ren:= {
 mixed:=cA
 f25:=Tryz.func325.trans (bq some cA)
 f31:=Tryz.func348.trans (bq some cA)
 f32:=Tryz.func349.trans (bq some cA)
 f37:=Jd.trans (bq some cA)
 t0:=Ec
 a0:=Kc
 z0:=Je
 v0:=Fe
 t3:=Bz
 a3:=He
 z3:=Fy
 v3:=Cq
 t4:=Ed
 a4:=Ke
 z4:=Jf
 v4:=Ff
 t22:=Tryz.underlying52
 a22:=Tryz.isAgg52
 z22:=Tryz.sizeOf52
 v22:=Tryz.zeroValue52
 t40:=Az
 a40:=Ei
 z40:=Dt
 v40:=Bi}
open Go.RowKit Go.Lib in
theorem Tryz.slices_BinarySearch_int (b off n c:Nat) (zs:AH) (x:Int) (w:World) (hz:n<=zs.length) (Lu:n<4611686018427387904) (hc: ∀j,j<zs.length->w.cell? ⟨b,off+j,none⟩=some (.int .i64 (zs.getD j 0))) (hs:(zs.take n).Pairwise (· <= ·)):
  Calls Tryz.prog 325 #[.slice (some ⟨b,off,none⟩) n c, .int .i64 x] w λe w'=>e= .returned (.tuple #[.int .i64 ((zs.take n).countP (· <x):Nat), .bool ((zs.take n).contains x)])/\ ∃q,w'=w.drewN q:=Any.slices_BinarySearch_int Tryz.laysNm225 b off n c zs x w hz Lu hc hs
open Go.RowKit Go.Sort in
theorem Tryz.slices_Sort_int_none (p:AF) (cap:Nat) (w:World):
  Calls Tryz.prog 345 #[.slice p 0 cap] w λe w'=>e= .returned (.tuple #[])/\w'=w:=Any.slices_Sort_int_none Tryz.lays189 p cap w
open Go.RowKit Go.Lib in
theorem Tryz.slices_BinarySearch_int_empty (a:AF) (c:Nat) (x:Int) (w:World):
  Calls Tryz.prog 325 #[.slice a 0 c, .int .i64 x] w λe w'=>e= .returned (.tuple #[.int .i64 0, .bool false])/\w'=w:=Any.slices_BinarySearch_int_empty Tryz.laysNm225 a c x w
end Go.Proofs
namespace Go.Eng
open Go Go.RowKit Go.Proofs Go.Sort
section
variable {P:Program} {B:Nat} {w0:World} {R:List Row}
def bKc (P:Program) (f:Nat):Prop:= ∀(gr off cap:Nat) (zs:AH) (w:World) (_:Holds (Value.int .i64) w gr off zs.toArray) (_:gr<w.heap.size) (_:zs.length<4611686018427387904),
 Calls P f #[.slice (some ⟨gr,off,none⟩) zs.length cap] w λe w'=>e= .returned (.tuple #[])/\ ∃n os,w'=grow (putRow (Value.int .i64) (Sort.ahead w n) gr off (zs.mergeSort λx y=>decide (x<=y)).toArray) os
def bEz (P:Program) (f:Nat):Prop:= ∀(p:AF) (cap:Nat) (w:World),Calls P f #[.slice p 0 cap] w λe w'=>e= .returned (.tuple #[])/\w'=w
def bKd (P:Program) (f:Nat):Prop:= ∀(b off n c:Nat) (zs:AH) (x:Int) (w:World) (_:n<=zs.length) (_:n<4611686018427387904) (_: ∀j,j<zs.length->w.cell? ⟨b,off+j,none⟩=some (.int .i64 (zs.getD j 0))) (_:(zs.take n).Pairwise (· <= ·)),
 Calls P f #[.slice (some ⟨b,off,none⟩) n c, .int .i64 x] w λe w'=>e= .returned (.tuple #[.int .i64 ((zs.take n).countP (· <x):Nat), .bool ((zs.take n).contains x)])/\ ∃q,w'=w.drewN q
def bFc (P:Program) (f:Nat):Prop:= ∀(a:AF) (c:Nat) (x:Int) (w:World),Calls P f #[.slice a 0 c, .int .i64 x] w λe w'=>e= .returned (.tuple #[.int .i64 0, .bool false])/\w'=w
def kX (l:AH):AH:=l.mergeSort λx y=>decide (x<=y)
theorem lV (l:AH):(kX l).Perm l:=List.mergeSort_perm _ _
theorem BL (l:AH):(kX l).Pairwise (· <= ·):=by
 have:=List.pairwise_mergeSort (le:=λx y:Int=>decide (x<=y)) (λa b c h1 h2=>by simp at*;omega) (λa b=>cH) l;exact this.imp λh=>by simpa using h
theorem aMr {f:Nat} (hS:bKc P f) (Xo:bEz P f) {T m c:Nat} {A:AF} {l:AH} (i:Nat) (hi:R[i]? =some ⟨T,1,A,m,c,ints .i64 l,false⟩) (hsz:l.length<4611686018427387904):
  Ct P f #[.slice A m c] B w0 R (λv R'=>v= .tuple #[]/\R'=R.set i ⟨T,1,A,m,c,ints .i64 (kX l),false⟩):=by
 intro w hw;have ge:=Row.lies_w (hw.own _ (fw hi)) rfl;have jj:=Row.rd (hw.own _ (fw hi));obtain rfl:m=l.length:=jj.lenI;rcases ge.2 with⟨hv,hn⟩|⟨gr,cap,cur,hv,hb,hg,hnc,tk,lf,ht⟩
 ·simp only at hn;have hl:l=[]:=ek hn;subst hl;refine(Xo A c w).mono ?_;rintro e w' ⟨rfl,rfl⟩;refine⟨_,_,rfl,?_,rfl,rfl⟩;have e:kX []=[]:=by simp[kX]
  rw[e]
  have:R.set i ⟨T,1,A,([]:AH).length,c,ints .i64 [],false⟩=R:=by
   apply uo;intro k;rw[xx];split
   ·rename_i h;subst h;split
    ·exact hi.symm
    ·rename_i h2;rw[mo G]
   ·rfl
  rw[this];exact hw
 ·simp only[ku,Ag] at hv;obtain⟨rfl,rfl⟩:=hv;simp only at ht lf hg hnc;have bc:gr<w.heap.size:=(gm.1 hg).1
  have hH:Holds (Value.int .i64) w gr 0 l.toArray:=by
   intro j hj;have yd:j<l.length:=by simpa using hj
   have e:(ints .i64 l)[j]? =some (.int .i64 (l.toArray[j]!)):=by
    rw[uq l.toArray j hj];simp[ints,yd]
   refine⟨?_,?_⟩
   ·rw [nu];exact hw.cellAt i hi rfl e
   ·exact hw.openAt i (0+j) hi rfl rfl
  refine(hS gr 0 c l w hH bc hsz).mono ?_;rintro e w' ⟨rfl,n,os,rfl⟩;refine⟨_,_,rfl,?_,rfl,rfl⟩;have Tp:=ownsRow_sorted_i (w:=w) (base:=B) (g:=gr) (cap:=c) (n:=n) (e:=T) (os:=os) (cur:=cur) (ss:=l) (ts:=kX l) (lV l).length_eq hb hg hnc tk lf;have hgb:=grownBy_sorted_i (w:=w) (g:=gr) (n:=n) (os:=os) (kX l).toArray;refine hw.upd hi (row:=some gr) hgb ?_ (λk hk=> ?_) ?_ (λa' oe=> .inl ⟨a',oe,rfl⟩)
  ·show w.drawn<=w.drawn+n;omega
  ·obtain rfl:=jc hk;exact⟨_,rfl,rfl⟩
  ·exact Tp
theorem aPo {f:Nat} (hF:bKd P f) (hF0:bFc P f) {T m c:Nat} {A:AF} {l:AH} {x:Int} (i:Nat) (hi:R[i]? =some ⟨T,1,A,m,c,ints .i64 l,false⟩) (hsz:l.length<4611686018427387904) (hs:l.Pairwise (· <= ·)):
  Ct P f #[.slice A m c, .int .i64 x] B w0 R (λv R'=>v= .tuple #[.int .i64 (l.countP (· <x):Nat), .bool (l.contains x)]/\R'=R):=by
 intro w hw;have ge:=Row.lies_w (hw.own _ (fw hi)) rfl;have jj:=Row.rd (hw.own _ (fw hi));obtain rfl:m=l.length:=jj.lenI;rcases ge.2 with⟨hv,hn⟩|⟨gr,cap,cur,hv,hb,hg,hnc,tk,lf,ht⟩
 ·simp only at hn;have hl:l=[]:=ek hn;subst hl;refine(hF0 A c x w).mono ?_;rintro e w' ⟨rfl,rfl⟩;exact⟨_,_,rfl,hw,rfl,rfl⟩
 ·simp only[ku,Ag] at hv;obtain⟨rfl,rfl⟩:=hv;have sk:l.take l.length=l:=ve
  have:=hF gr 0 l.length c l x w (di _) hsz (λj hj=>by
   rw[nu]
   exact hw.cellAt i hi rfl (by simp[ints,ak,hj])) (by rw[sk];exact hs)
  rw[sk] at this;refine this.mono ?_;rintro e w' ⟨rfl,q,rfl⟩;exact⟨_,_,rfl,hw.drawn _ (Bv _ _),rfl,rfl⟩
end
end Go.Eng
namespace Go.Proofs.YtdbebmmhdefgdaaGreat
open Go Go.Eng Go.Pure
open Tryz
set_option maxRecDepth 100000
variable {w:World} {io:AF} {mt iz:Nat} {l:AH} {h:Int}
theorem bCn {l:AH} {i:Int} (dr:Rd w io mt iz 1 (ints .i64 l)) (hb:(0<=i/\i<=1000000)/\(0<=h/\h<=1000000)) (hl: ∀x∈l,0<=x/\x<=1000000):
  CF 326 #[sl io mt iz,I i,I h] w (λv R'=>v=I (onF l i h)):=by
 obtain rfl:=dr.lenI;refine fn1 Tryz.func326 Z Z Z ?_;have Nw:=dr.max;refine wq<|wn Z<|aC<|wq<|wm Z<|wm Z<|wA Z Z<|wm Z<|wy (aN aa Z)<|wy (iA Z Z)<|aA<|bA Z (λaq=> ?_) (λaq=> ?_)
 ·refine wq<|wn Z<|bS ?_;refine⟨_,Z,?_⟩;exact bq (Value.int .i64) (by unfold onF;rw[df G])
 ·have hm:=hl _ (bJ (L:=l) (k:=i+h) G G);refine aI<|wq<|wm Z<|wm Z<|wm Z<|wA Z Z<|wy (aG aa sz3 Z Z (dr.c _))<|wy (aR ai Z Z (dr.c _))<|wA Z Z<|wn Z<|bS ?_;refine⟨_,Z,?_⟩;exact bq (Value.int .i64) (by unfold onF;rw[bz G])
theorem aOz {s:AH} {n b:Nat} (dr:Rd w io mt iz 1 (ints .i64 l)) (hl:l=rkL s n) (hh:h=b) (hn:0<n) (hb:b<=n) (hN:s.length<=100000/\n<=100000):
  CF 298 #[sl io mt iz,I h] w (λv R'=> ∃A c A' c',v= .tuple #[sl A s.length c,sl A' s.length c']/\R'=[(ri 3 A s.length c (rkL s (n+b))),(ri 3 A' s.length c' (dG s n b))]):=by
 obtain rfl:=dr.lenI;refine fn2 Tryz.func298 Z Z Z ?_;have Nw:=dr.max;have va:l.length=s.length:=by rw[hl,BS]
 refine wq<|wg Z<|wn Z<|wq<|wm Z<|wy (aN aa Z)<|wa (dD aa zb3 Z Z) ?_;rintro _ _⟨am,rfl,rfl⟩;refine bF (v:=sl (GG am) l.length l.length) Z<|wn Z<|wq<|wm Z<|wy (aN aa Z)<|wa (dD aa zb3 Z Z) ?_;rintro _ _⟨bx,rfl,rfl⟩;refine bF (v:=sl (GG bx) l.length l.length) Z<|wn Z<|aC<|wq<|wm Z<|wy (aN aa Z)<|wm Z<|aA<|aH ?_;refine fA (λ(i:Int) (O:AH) (K:AH)=>[(0,sl io l.length iz),(1,I h),(6,sl (GG am) l.length l.length),(7,sl (GG bx) l.length l.length),(19,I (l.length:Int)),(20,I i)]) (λi O K=>[(ri 3 (GG bx) l.length l.length K),(ri 3 (GG am) l.length l.length O)]) (λi O K=>(0<=i)/\(i<=s.length)/\(O.length=s.length)/\(∀j:Int,0<=j->j<i->rd O j=j)/\(K.length=s.length)/\(∀j:Int,0<=j->j<i->rd K j=sN s n (j.toNat+b))) (λi O K=>(s.length-i).toNat) ?_ ?_
 ·exact⟨0,List.replicate l.length (0:Int),List.replicate l.length (0:Int),⟨G,G,(by rw[bu,va]),(λj h1 h2=>G),(by rw[bu,va]),(λj h1 h2=>G)⟩,KP⟩
 intro i O K ⟨aw,ia,Vf,hO,Pz,hK⟩;refine wq<|wL Z Z<|aA<|aC<|bA Z (λaq=> ?_) (λaq=> ?_)
 ·refine aI<|aC<|aH<|wq<|wm Z<|wn Z<|aL<|wm Z<|wm Z<|wm Z<|wm Z<|wm Z<|wm Z ?_;refine wm Z<|wm Z<|wa (aD bLz Z (Ct.quiet (λw hw=>bCn ((dr.c _) w hw) ⟨G,G⟩ (λx hx=>by rw[hl] at hx;have:=aTk x hx;omega)))) ?_;rintro _ _⟨rfl,rfl⟩;refine wy (aG aa sz3 Z Z (rdr 1 Z))<|bV (bD 1 Z sz3 Z Z) ?_;rintro _ _ rfl;refine wy (aG aa sz3 Z Z (rdr 0 Z))<|bV (bD 0 Z sz3 Z Z) ?_;rintro _ _ rfl;refine aA<|aL<|wA Z Z<|wm Z<|aA ?_;exact⟨i+1,upd O i i,upd K i (onF l i h),⟨G,G,(by rw[aY];exact Vf),(eP (f:=λj=>j) aw G hO Z),(by rw[aY];exact Pz),(eP (f:=λj=>(sN s n (j.toNat+b):Int)) aw G hK (by rw[hh,hl];exact bIj aw G))⟩,G,KP⟩
 ·obtain rfl:O=iota s.length:=aKm Vf (λj h1 h2=>hO j h1 G);obtain rfl:K=onL s n b:=bIh Pz (λj h1 h2=>hK j h1 G);have Nj:(dC (iota s.length) (onL s n b) ((l.length:Int)+1).toNat).length=s.length:=by rw[show((l.length:Int)+1).toNat=s.length+1 by omega,(uO s n b).length_eq,bB]
  refine aU<|wq<|wm Z<|wm Z<|wm Z<|wy (aN aa Z)<|wA Z Z<|wa (aD NR Z (Ct.fresh (λw hw=>uJ ((rdr 1 Z) w hw) ((rdr 0 Z) w hw) G (λx hx=>by have:=bIi x hx;omega) (λx hx=>by have:=aZ.1 hx;rw[aKe];omega) (by rw[bB];omega)))) ?_;rintro _ _⟨_,rfl,fi,fj,rfl,rfl⟩;refine wm Z<|wX Z Z<|wX Z Z<|wn Z<|wq<|wm Z<|wm Z<|wm Z<|wy (aN aa Z)<|wa (aD NR Z (Ct.fresh (λw hw=>uJ ((rdr 0 Z) w hw) ((dr.c _) w hw) G (λx hx=>by rw[hl] at hx;have:=aTk x hx;omega) (λx hx=>by rw[show((l.length:Int)+1).toNat=s.length+1 by omega] at hx;have:=aZ.1 ((uO s n b).subset hx);omega) (by rw[Nj];omega)))) ?_;rintro _ _⟨_,rfl,fc,dv,rfl,rfl⟩;refine wm Z<|wX Z Z<|wX Z Z<|wn Z<|wq<|wm Z<|wy (aN aa Z)<|wa (dD aa zb3 Z Z) ?_;rintro _ _⟨gl,rfl,rfl⟩;refine bF (v:=sl (GG gl) l.length l.length) Z<|wn Z<|aC<|wq<|wm Z<|wy (aN aa Z)<|wm Z<|aA<|aH ?_;refine fA (λ(p:Int) (D:AH) (V:AH)=>[(0,sl io l.length iz),(6,sl fc (((dC (iota s.length) (onL s n b) (((l.length:Int)+1)).toNat)).length) dv),(7,sl (GG bx) l.length l.length),(9,sl (GG gl) l.length l.length),(55,sl fc (((dC (iota s.length) (onL s n b) (((l.length:Int)+1)).toNat)).length) dv),(56,I ((((dC (iota s.length) (onL s n b) (((l.length:Int)+1)).toNat)).length:Nat):Int)),(57,I p)]) (λp D V=>[(ri 3 (GG gl) l.length l.length V),(ri 3 fc (((dC (iota s.length) (onL s n b) (((l.length:Int)+1)).toNat)).length) dv D),(ri 3 fi (((iota s.length)).length) fj (dC (iota s.length) (onL s n b) (((l.length:Int)+1)).toNat)),(ri 3 (GG bx) l.length l.length (onL s n b)),(ri 3 (GG am) l.length l.length (iota s.length))]) (λp D V=>(0<=p)/\(p<=s.length)/\(D=dG s n b)/\(V.length=s.length)/\(∀q:Int,0<=q->q<p->rd V (rd D q)=rkS s (n+b) (rd D q).toNat)) (λp D V=>(s.length-p).toNat) ?_ ?_
  ·exact⟨0,dC (dC (iota s.length) (onL s n b) (((l.length:Int)+1)).toNat) l ((l.length:Int)).toNat,List.replicate l.length (0:Int),⟨G,G,(by rw[hl,BS];unfold dG;rw[show((s.length:Int)+1).toNat=s.length+1 by omega,cz]),(by rw[bu,va]),(λq h1 h2=>G)⟩,KP⟩
  intro p D V ⟨Pn,sd,hD,ld,hV⟩;refine wq<|wL Z Z<|aA<|aC<|bA Z (λbp=> ?_) (λbp=> ?_)
  ·have hm:=gJ (s:=s) (n:=n) (b:=b) Pn G;rw[<-hD] at hm;refine aI<|aC<|aH<|wq<|wm Z<|wy (aG aa sz3 Z Z (rdr 1 Z))<|wy (aR ai Z Z (rdr 1 Z))<|wg Z<|wn Z<|wq<|wm Z<|wm Z ?_;refine wm Z<|wy (aG aa sz3 Z Z (rdr 0 Z))<|bV (bD 0 Z sz3 Z Z) ?_;rintro _ _ rfl;refine aA ?_;refine lM [(0,sl io l.length iz),(6,sl fc (((dC (iota s.length) (onL s n b) (((l.length:Int)+1)).toNat)).length) dv),(7,sl (GG bx) l.length l.length),(9,sl (GG gl) l.length l.length),(10,I p),(11,I (rd D p)),(55,sl fc (((dC (iota s.length) (onL s n b) (((l.length:Int)+1)).toNat)).length) dv),(56,I ((((dC (iota s.length) (onL s n b) (((l.length:Int)+1)).toNat)).length:Nat):Int)),(57,I p),(97, .bool (decide ((0<p)/\(((rd l (rd D (p-1)))=(rd l (rd D p)))/\((rd (onL s n b) (rd D (p-1)))=(rd (onL s n b) (rd D p)))))))] [(ri 3 (GG gl) l.length l.length (upd V (rd D p) p)),(ri 3 fc (((dC (iota s.length) (onL s n b) (((l.length:Int)+1)).toNat)).length) dv D),(ri 3 fi (((iota s.length)).length) fj (dC (iota s.length) (onL s n b) (((l.length:Int)+1)).toNat)),(ri 3 (GG bx) l.length l.length (onL s n b)),(ri 3 (GG am) l.length l.length (iota s.length))] ?_ ?_
   ·refine bI mixed<|wD 0 Z (aK Z)<|wD 1 Z (dE Z Z)<|wD 2 Z (aK Z)<|iL 68 Z (λew=> ?_) (λew=> ?_)
    ·refine wG 3 Z Z Z (aK Z)<|wG 4 Z Z Z (aK Z)<|wG 5 Z Z Z (aK Z)<|wG 6 Z Z Z (gZ Z Z)<|wG 7 Z Z Z (aG aa sz3 Z Z (rdr 1 Z))<|wG 8 Z Z Z (aR ai Z Z (rdr 1 Z))<|wG 9 Z Z Z (aG aa sz3 Z Z (dr.c _) (by first|omega|(have oc:=gJ (s:=s) (n:=n) (b:=b) (p:=p-1) G G;rw[<-hD] at oc;omega)) (by first|omega|(have oc:=gJ (s:=s) (n:=n) (b:=b) (p:=p-1) G G;rw[<-hD] at oc;omega))) ?_;refine wG 10 Z Z Z (aR ai Z Z (dr.c _) (by first|omega|(have oc:=gJ (s:=s) (n:=n) (b:=b) (p:=p-1) G G;rw[<-hD] at oc;omega)) (by first|omega|(have oc:=gJ (s:=s) (n:=n) (b:=b) (p:=p-1) G G;rw[<-hD] at oc;omega))) ?_;refine wG 11 Z Z Z (aK Z)<|wG 12 Z Z Z (aK Z)<|wG 13 Z Z Z (aG aa sz3 Z Z (dr.c _))<|wG 14 Z Z Z (aR ai Z Z (dr.c _))<|wG 15 Z Z Z (dR Z Z)<|wD 16 Z (aT Z Z)<|wD 17 Z (aK Z)<|iL 83 Z (λkd=> ?_) (λkd=> ?_)
     ·refine wG 18 Z Z Z (aK Z)<|wG 19 Z Z Z (aK Z)<|wG 20 Z Z Z (aK Z)<|wG 21 Z Z Z (gZ Z Z)<|wG 22 Z Z Z (aG aa sz3 Z Z (rdr 1 Z))<|wG 23 Z Z Z (aR ai Z Z (rdr 1 Z))<|wG 24 Z Z Z (aG aa sz3 Z Z (rdr 3 Z) (by first|omega|(have oc:=gJ (s:=s) (n:=n) (b:=b) (p:=p-1) G G;rw[<-hD] at oc;omega)) (by first|omega|(have oc:=gJ (s:=s) (n:=n) (b:=b) (p:=p-1) G G;rw[<-hD] at oc;omega))) ?_;refine wG 25 Z Z Z (aR ai Z Z (rdr 3 Z) (by first|omega|(have oc:=gJ (s:=s) (n:=n) (b:=b) (p:=p-1) G G;rw[<-hD] at oc;omega)) (by first|omega|(have oc:=gJ (s:=s) (n:=n) (b:=b) (p:=p-1) G G;rw[<-hD] at oc;omega))) ?_;refine wG 26 Z Z Z (aK Z)<|wG 27 Z Z Z (aK Z)<|wG 28 Z Z Z (aG aa sz3 Z Z (rdr 3 Z))<|wG 29 Z Z Z (aR ai Z Z (rdr 3 Z))<|wG 30 Z Z Z (dR Z Z)<|wD 31 Z (aT Z Z)<|wN ?_;exact KP
     ·refine wO 18 Z Z Z<|wO 19 Z Z Z<|wO 20 Z Z Z<|wO 21 Z Z Z<|wO 22 Z Z Z<|wO 23 Z Z Z<|wO 24 Z Z Z<|wO 25 Z Z Z<|wO 26 Z Z Z<|wO 27 Z Z Z<|wO 28 Z Z Z<|wO 29 Z Z Z<|wO 30 Z Z Z<|wD 31 Z (aO Z Z)<|wN ?_;exact KP
    ·refine wO 3 Z Z Z<|wO 4 Z Z Z<|wO 5 Z Z Z<|wO 6 Z Z Z<|wO 7 Z Z Z<|wO 8 Z Z Z<|wO 9 Z Z Z<|wO 10 Z Z Z<|wO 11 Z Z Z<|wO 12 Z Z Z<|wO 13 Z Z Z<|wO 14 Z Z Z<|wO 15 Z Z Z<|wD 16 Z (aO Z Z)<|wD 17 Z (aK Z) ?_;refine wO 18 Z Z Z<|wO 19 Z Z Z<|wO 20 Z Z Z<|wO 21 Z Z Z<|wO 22 Z Z Z<|wO 23 Z Z Z<|wO 24 Z Z Z<|wO 25 Z Z Z<|wO 26 Z Z Z<|wO 27 Z Z Z<|wO 28 Z Z Z<|wO 29 Z Z Z<|wO 30 Z Z Z<|wD 31 Z (aO Z Z)<|wN ?_;exact KP
   refine bA Z (λme=> ?_) (λme=> ?_)
   ·refine aL<|wm Z<|wm Z<|wm Z<|wm Z<|wm Z<|wS Z Z<|wy (aG aa sz3 Z Z (rdr 1 Z))<|wy (aR ai Z Z (rdr 1 Z))<|wy (aG aa sz3 Z Z (rdr 0 Z) (by first|omega|(have oc:=gJ (s:=s) (n:=n) (b:=b) (p:=p-1) G G;rw[<-hD] at oc;omega)) (by first|omega|(have oc:=gJ (s:=s) (n:=n) (b:=b) (p:=p-1) G G;rw[<-hD] at oc;omega))) ?_;refine wy (aR ai Z Z (rdr 0 Z) (by first|omega|(have oc:=gJ (s:=s) (n:=n) (b:=b) (p:=p-1) G G;rw[<-hD] at oc;omega)) (by first|omega|(have oc:=gJ (s:=s) (n:=n) (b:=b) (p:=p-1) G G;rw[<-hD] at oc;omega))) ?_;refine wy (aG aa sz3 Z Z (rdr 0 Z))<|bV (bD 0 Z sz3 Z Z) ?_;rintro _ _ rfl;refine aA<|aL<|wA Z Z<|wm Z<|aA ?_;exact⟨p+1,D,upd (upd V (rd D p) p) (rd D p) (rd (upd V (rd D p) p) (rd D (p-1))),⟨G,G,G,(by rw[aY,aY];exact ld),(by subst hD;exact aPa hn hb Pn G ld hV (by rw[<-hl,and_assoc];exact me))⟩,G,KP⟩
   ·refine aI<|aL<|wA Z Z<|wm Z<|aA ?_;exact⟨p+1,D,upd V (rd D p) p,⟨G,G,G,(by rw[aY];exact ld),(by subst hD;exact aGk hn hb Pn G ld hV (by rw[<-hl,and_assoc];exact me))⟩,G,KP⟩
  ·refine aU<|wq<|wm Z<|wm Z<|wg Z<|wn Z<|aQ [0,1] 99 cC Z ?_;refine⟨_,_,Z,Z,?_⟩;have e2:V=rkL s (n+b):=aPb ld (λq h1 h2=>by have:=hV q h1 G;rw[hD] at this;exact this);subst e2;subst hD;rw[Nj,va];exact⟨_,_,_,_,Z,Z⟩
variable {B ij cx Bs:Nat} {w0 w:World} {R:List Row} {cy:AF} {s:AH}
theorem QR:
  CT 315 #[sl cy ij cx] B w0 R (λv R'=> ∃g,v= .func (.func 346) #[] #[PG g]/\R'=(rc 52 1 g [sl cy ij cx])::R):=by
 refine fn1 Tryz.func315 Z Z Z ?_;refine wq<|wa (bO (sz:=1) Z Z) ?_;rintro _ _⟨g,rfl,rfl⟩;refine wn Z<|wq<|wy (lU Z Z)<|wn Z<|bS ?_;exact⟨_,Z,g,Z,Z⟩
theorem aDs:
  CT 186 #[sl cy ij cx] B w0 R (λv R'=> ∃g,v= .func (.func 241) #[] #[PG g]/\R'=(rc 52 1 g [sl cy ij cx])::R):=by
 refine fn1 Tryz.func186 Z Z Z ?_;refine wq<|wa (bO (sz:=1) Z Z) ?_;rintro _ _⟨g,rfl,rfl⟩;refine wn Z<|wq<|wy (lU Z Z)<|wn Z<|bS ?_;exact⟨_,Z,g,Z,Z⟩
theorem aSm {l:AH} {k:Nat} (h:k<l.length):l.take k++[rd l (k:Int)]=l.take (k+1):=by
 rw[uf,av h,rd,cz,ak,av h];rfl
theorem XC {Bs:Nat} (bb:Rd w cy ij cx 1 (ints .i64 s)) (jp:Rd w (GG Bs) 1 1 1 [sl cy ij cx]) (hN:s.length<=1000000):
  CF 361 #[sl none 0 0, .func (.func 346) #[] #[PG Bs]] w (λv R'=> ∃A c,v=sl A (s).length c/\R'=[(ri 3 A ((s).length) c (s))]):=by
 refine fnV Tryz.func361 Z Z ?_;obtain rfl:=bb.lenI;refine gW ?_;refine aL<|wa (bO (sz:=1) Z Z) ?_;rintro _ _⟨am,rfl,rfl⟩;refine dB (R1:=[(ri 3 none 0 0 ([])),(rc 52 1 am [sl none 0 0])]) (Sub.refl _) (λ_ h=>h.nil 3 1)<|wn Z ?_;refine aIz ?_;refine gW ?_;refine aL<|wm Z<|aA ?_;refine JE ?_;refine XY Z bLv (aEk (A:=cy) (c:=cx) (zs:=s)) Z (λ_=>Z) Gd.refl (λ(kr:Nat) (A1:AF) (n1:Nat) (c1:Nat) (acc:AH)=>[(ri 3 A1 n1 c1 acc),(rc 52 1 am [sl A1 n1 c1])]) (λkr A1 n1 c1 acc=>(n1=acc.length)/\(acc=s.take kr)) ?_ ?_ ?_ ?_
 ·exact⟨none,0,0,[],⟨(Z),(yc.symm)⟩,λ_ h=>h⟩
 ·intro kr A1 n1 c1 acc w ⟨cv,ba⟩ hw;exact⟨(jp.c _) w hw,(bb.c _) w hw⟩
 ·intro lr kr A1 n1 c1 acc WW1 Ni ⟨cv,ba⟩ Sl;have zj:acc.length<=s.length:=by rw[ba,ax];omega
  refine aL<|wn Z ?_;intro Rh l3;refine aH<|aL<|wy (yL 1 aa Z Z Z)<|wm Z<|wa (bH .i64 [rd s (kr:Int)] aa zs3 Z Z Z) ?_;rintro _ _⟨fb,rfl,rfl⟩;refine wa (aS 1 Z aa zb3 Z Z Z (rdr 0 Z)) ?_;rintro _ _⟨ef,kc,rfl,rfl⟩;refine bF (v:=sl ef (n1+1) kc) Z<|bV (aX 2 Z Z Z dO Z Z Z Z (au Z)) ?_;rintro _ _ rfl;refine aA ?_;exact⟨ef,(n1+1),kc,acc++([rd s (kr:Int)]),⟨(by rw[ah,cv];try rfl),(by rw[ba];exact aSm Ni)⟩,λ_=>λ_ h=>h.sel [1,2] cC Z⟩
 intro Ri DW1 A1 n1 c1 acc ⟨cv,ba⟩ Mz d7;refine aJb ?_;refine bAp ?_;refine v_w ?_;refine wq<|wy (yL 1 aa Z Z Z)<|wn Z<|aQ [0] 99 cC Z ?_;refine bQj Z d7 ⟨_,Z,?_⟩;rw[ve] at ba;subst cv;subst ba;exact⟨_,_,Z,Z⟩
theorem aHk {Bs:Nat} (bb:Rd w cy ij cx 1 (ints .i64 s)) (jp:Rd w (GG Bs) 1 1 1 [sl cy ij cx]) (hN:s.length<=1000000):
  CF 344 #[.func (.func 346) #[] #[PG Bs]] w (λv R'=> ∃A c,v=sl A (s).length c/\R'=[(ri 3 A ((s).length) c (s))]):=by
 refine fn1 Tryz.func344 Z Z Z ?_;refine wq<|wn Z<|wq<|wm Z<|wa (aD bLt Z (Ct.fresh (λw hw=>XC ((bb.c _) w hw) ((jp.c _) w hw) G))) ?_;rintro _ _⟨_,rfl,bm,bl,rfl,rfl⟩;refine wn Z<|aQ [0] 99 cC Z ?_;exact⟨_,Z,_,_,Z,Z⟩
theorem RH {Bs:Nat} (bb:Rd w cy ij cx 1 (ints .i64 s)) (jp:Rd w (GG Bs) 1 1 1 [sl cy ij cx]) (hN:s.length<=1000000):
  CF 314 #[.func (.func 346) #[] #[PG Bs]] w (λv R'=> ∃A c,v=sl A (kX s).length c/\R'=[(ri 3 A ((kX s).length) c (kX s))]):=by
 refine fn1 Tryz.func314 Z Z Z ?_;refine wq<|wn Z<|wq<|wm Z<|wa (aD bLx Z (Ct.fresh (λw hw=>aHk ((bb.c _) w hw) ((jp.c _) w hw) G))) ?_;rintro _ _⟨_,rfl,bm,bl,rfl,rfl⟩;refine wn Z<|wq<|wm Z<|wa (aD bLw Z (aMr Tryz.slices_Sort_int Tryz.slices_Sort_int_none 0 Z G)) ?_;rintro _ _⟨rfl,rfl⟩;refine aA<|wq<|wm Z<|wn Z<|aQ [0] 99 cC Z ?_;refine⟨_,Z,?_⟩;have e:s.length=(kX s).length:=(lV s).length_eq.symm;rw[e];exact⟨_,_,Z,Z⟩
variable {s:AH} {w:World} {cy:AF} {ij cx:Nat}
theorem bHw {V:AH} {h:Nat} (hl:V.length=s.length) (hV: ∀j:Int,0<=j->j<s.length->rd V j=rkS s h j.toNat):V=rkL s h:=
 bM (hl.trans (BS s h).symm) λj h1 h2=>by rw[qR h1 G];exact hV j h1 G
theorem aNz (bb:Rd w cy ij cx 1 (ints .i64 s)) (hN:s.length<=100000):
  CF 297 #[sl cy ij cx] w (λv R'=> ∃A c,v=sl A (s.length) c/\R'=[(ri 3 A s.length c (rkL s 1))]):=by
 obtain rfl:=bb.lenI;refine fn1 Tryz.func297 Z Z Z ?_;have yp:=bb.max;refine wq<|wn Z<|wq<|wm Z<|wa (aD bFx Z (QR)) ?_;rintro _ _⟨am,rfl,rfl⟩;refine wa (aD bFy Z (Ct.fresh (λw hw=>RH ((bb.c _) w hw) ((rdr 0 Z) w hw) G))) ?_;rintro _ _⟨_,rfl,fi,fj,rfl,rfl⟩;refine wn Z<|wq<|wm Z<|wy (aN aa Z)<|wa (dD aa zb3 Z Z) ?_;rintro _ _⟨kp,rfl,rfl⟩;refine bF (v:=sl (GG kp) s.length s.length) Z<|wn Z<|aC<|wq<|wm Z<|wy (aN aa Z)<|wm Z<|aA<|aH ?_;refine dM (λ(i:Int) (V:AH)=>[(3,sl fi ((kX s).length) fj),(4,sl (GG kp) s.length s.length),(13,sl cy s.length cx),(14,I (s.length:Int)),(15,I i)]) (λi V=>[(ri 3 (GG kp) s.length s.length V),(ri 3 fi ((kX s).length) fj (kX s)),(rc 52 1 am [sl cy s.length cx])]) (λi V=>(0<=i)/\(i<=s.length)/\(V.length=s.length)/\(∀j:Int,0<=j->j<i->rd V j=rkS s 1 j.toNat)) (λi V=>(s.length-i).toNat) ?_ ?_
 ·exact⟨0,List.replicate s.length (0:Int),⟨G,G,(by rw[bu]),(λj h1 h2=>G)⟩,KP⟩
 intro i V ⟨aw,ia,ld,hV⟩;refine wq<|wL Z Z<|aA<|aC<|bA Z (λaq=> ?_) (λaq=> ?_)
 ·refine aI<|aC<|aH<|wq<|wm Z<|wy (aG aa sz3 Z Z (bb.c _))<|wy (aR ai Z Z (bb.c _))<|wg Z<|wn Z<|aL<|wm Z<|wm Z<|wm Z ?_;refine wm Z<|wa (aD bMa Z (aPo Tryz.slices_BinarySearch_int Tryz.slices_BinarySearch_int_empty 1 Z (by rw[(lV s).length_eq];omega) (BL s))) ?_;rintro _ _⟨rfl,rfl⟩;refine wm Z<|wX Z Z<|wX Z Z<|wy (aG aa sz3 Z Z (rdr 0 Z))<|bV (bD 0 Z sz3 Z Z) ?_;rintro _ _ rfl;refine aA<|aL<|wA Z Z<|wm Z<|aA ?_;exact⟨i+1,upd V i (((kX s).countP λy=>decide (y<rd s i):Nat):Int),⟨G,G,(by rw[aY];exact ld),(eP (f:=λj=>(rkS s 1 j.toNat:Int)) aw G hV (by rw[bHt G,(lV s).countP_eq];rfl))⟩,G,KP⟩
 ·refine aU<|wq<|wm Z<|wn Z<|aQ [0] 99 cC Z ?_;refine⟨_,Z,?_⟩;obtain rfl:V=rkL s 1:=bHw ld (λj h1 h2=>hV j h1 G);exact⟨_,_,Z,Z⟩
theorem aFn {h:Int} (bb:Rd w cy ij cx 1 (ints .i64 s)) (h0:0<=h) (hN:s.length<=100000):
  CF 268 #[sl cy ij cx,I h] w (λv R'=> ∃A c,v=sl A (s.length) c/\R'=[(ri 3 A s.length c (rkL s h.toNat))]):=by
 obtain rfl:=bb.lenI;refine fn1 Tryz.func268 Z Z Z ?_;have yp:=bb.max;refine wq<|wn Z<|aC<|wq<|wm Z<|wL Z Z<|wm Z<|cK 4 [(0,sl cy s.length cx),(1,I h),(14, .bool (decide ((h<0)\/(100000<(s.length:Int)))))] [] ?_ ?_
 ·refine bR 10 Z (λaq=> ?_) (λaq=> ?_)
  ·refine aM Z Z Z Z<|aM Z Z Z Z<|aM Z Z Z Z<|wy (aT Z Z)<|aA ?_;exact KP
  ·refine aB Z Z<|wm Z<|aB Z Z<|wy (aN aa Z)<|aB Z Z<|wy (dE Z Z)<|wy (aO Z Z)<|aA ?_;exact KP
 refine oL 14 Z G<|aA<|aJ Z<|aI<|wq<|wm Z<|wy (aN aa Z)<|wa (dD aa zb3 Z Z) ?_;rintro _ _⟨bx,rfl,rfl⟩;refine bF (v:=sl (GG bx) s.length s.length) Z<|wn Z<|aC<|wq<|wm Z<|wy (dR Z Z)<|aA<|bA Z (λbp=> ?_) (λbp=> ?_)
 ·refine wq<|wm Z<|wn Z<|aQ [0] 99 cC Z ?_;refine⟨_,Z,?_⟩;have e:h.toNat=0:=G
  rw[e,aTi];exact⟨_,_,Z,Z⟩
 ·refine aI<|wq<|wm Z<|wa (aD bMj Z (Ct.fresh (λw hw=>aNz ((bb.c _) w hw) cE))) ?_;rintro _ _⟨_,rfl,iu,js,rfl,rfl⟩;refine wn Z<|wq<|wm Z<|wm Z<|wy (aN aa Z)<|wy (sJ Z Z)<|wn Z<|aC<|wq<|wn Z ?_;refine aH ?_;refine JD (λ(n:Int) (A1:AF) (c1:Nat) (L:AH)=>[(1,I (min h (s.length:Int))),(5,sl A1 s.length c1),(6,I n)]) (λn A1 c1 L=>[(ri 3 A1 s.length c1 L),(ri 3 (GG bx) s.length s.length (List.replicate s.length (0:Int)))]) (λn A1 c1 L=>(1<=n)/\(n=1\/n<=min h (s.length:Int))/\(L=rkL s n.toNat)) (λn A1 c1 L=>(min h (s.length:Int)-n).toNat) ?_ ?_
  ·exact⟨1,iu,js,rkL s 1,⟨G,G,(Z)⟩,KP⟩
  intro n A1 c1 L ⟨cv,tg,hL⟩;refine aC<|wq<|wm Z<|wm Z<|wL Z Z<|aA<|bA Z (λew=> ?_) (λew=> ?_)
  ·refine aI<|aH<|wq<|wm Z<|wm Z<|wm Z<|wS Z Z<|wy (sJ Z Z)<|wn Z<|wq<|wm Z<|wm Z ?_;refine wa (aD bMi Z (Ct.fresh (λw hw=>aOz (s:=s) (n:=n.toNat) (b:=(min n (min h (s.length:Int)-n)).toNat) ((rdr 0 Z) w hw) hL G G G ⟨hN,G⟩))) ?_;rintro _ _⟨_,rfl,jz,lz,br,bw,rfl,rfl⟩;refine wm Z<|wX Z Z<|wX Z Z<|wn Z<|aL<|wm Z<|wm Z<|wA Z Z<|wn Z ?_;exact⟨n+(min n ((min h (s.length:Int))-n)),jz,lz,rkL s (n.toNat+(min n (min h (s.length:Int)-n)).toNat),⟨G,G,(by congr 1;omega)⟩,G,SA,λ_ h=>h.sel [0,3] cC Z⟩
  ·refine aU<|wq<|wm Z<|wn Z<|aQ [0] 99 cC Z ?_;refine⟨_,Z,?_⟩
   have e:rkL s n.toNat=rkL s h.toNat:=by
    rcases ed s.length with z|z
    ·exact aTj z _ _
    ·rcases bn h s.length with a|a
     ·rw[show n.toNat=h.toNat by omega]
     ·rw[bHv (h:=h.toNat) G,show n.toNat=s.length by omega]
   rw[hL,e];exact⟨_,_,Z,Z⟩
theorem aPe {s:AH} {k:Int} (bb:Rd w cy ij cx 1 (ints .i64 s)) (dq:(0<=k/\k<=1048576)/\ ∀x∈s,0<=x/\x<k) (hN:s.length<=100000):
  CF 221 #[sl cy ij cx,I k] w (λv R'=> ∃(out:AH) (A:AF) (c:Nat),v= .tuple #[sl A s.length c,I 0]/\out.length=s.length/\(∀q:Nat,q<s.length->rd out (rkS s s.length q)=q)/\R'=[(ri 3 A s.length c out)]):=by
 obtain rfl:=bb.lenI;refine fn2 Tryz.func221 Z Z Z ?_;have yp:=bb.max;refine wq<|wg Z<|wn Z<|aC<|wq<|wm Z<|wy (aN aa Z)<|wy (Yl.f (dE Z Z))<|aA<|aJ Z<|aI<|aC ?_;refine wq<|wm Z<|wm Z<|wa (aD aCi Z (Ct.fresh (λw hw=>pG ((bb.c _) w hw) cE))) ?_;rintro _ _⟨_,rfl,bm,bl,rfl,rfl⟩;refine wm Z<|wX Z Z<|wX Z Z<|wg Z<|wn Z<|wq<|wm Z<|wy (dI Z)<|aA<|aJ Z<|aI<|wq ?_;refine wm Z<|wy (aN aa Z)<|wa (dD aa zb3 Z Z) ?_;rintro _ _⟨fb,rfl,rfl⟩;refine bF (v:=sl (GG fb) s.length s.length) Z<|wn Z<|aC<|wq<|wm Z<|wm Z<|wy (aN aa Z)<|wa (aD bMv Z (Ct.fresh (λw hw=>aFn ((bb.c _) w hw) G cE))) ?_;rintro _ _⟨_,rfl,ef,kc,rfl,rfl⟩;refine wy (aN aa Z)<|wm Z<|aA<|aH ?_;refine dM (λ(i:Int) (V:AH)=>[(8,sl (GG fb) s.length s.length),(28,sl ef ((s).length) kc),(29,I (((s).length:Nat):Int)),(30,I i)]) (λi V=>[(ri 3 ef ((s).length) kc (rkL s ((s.length:Int)).toNat)),(ri 3 (GG fb) s.length s.length V),(ri 3 bm ((k).toNat) bl (eG s k))]) (λi V=>(0<=i)/\(i<=s.length)/\(V.length=s.length)/\(∀q:Nat,(q:Int)<i->rd V (rkS s s.length q)=q)) (λi V=>(s.length-i).toNat) ?_ ?_
 ·exact⟨0,List.replicate s.length (0:Int),⟨G,G,(by rw[bu]),(λq h=>G)⟩,KP⟩
 intro i V ⟨aw,ia,ld,hV⟩;refine wq<|wL Z Z<|aA<|aC<|bA Z (λaq=> ?_) (λaq=> ?_)
 ·have hr:rd (rkL s (s.length:Int).toNat) i=(rkS s s.length i.toNat:Int):=by rw[cz];exact qR aw G
  have ht:=BQ (s:=s) (h:=s.length) (i:=i.toNat) G;refine aI<|aC<|aH<|wq<|wm Z<|wy (aG aa sz3 Z Z (rdr 0 Z))<|wy (aR ai Z Z (rdr 0 Z))<|wg Z<|wn Z<|aL<|wm Z<|wm Z<|wm Z ?_;refine wy (aG aa sz3 Z Z (rdr 1 Z) (by rw[hr];omega) (by rw[hr];omega)) ?_;refine bV (bD 1 Z sz3 Z Z (by rw[hr];omega) (by rw[hr];omega)) ?_;rintro _ _ rfl;refine aA<|aL<|wA Z Z<|wm Z<|aA ?_
  exact⟨i+1,upd V (rd (rkL s ((s.length:Int)).toNat) i) i,⟨G,G,(by rw[aY];exact ld),(λq h=>by
    rw[hr];have:=aAe (m:=i.toNat) G ld (λq h=>hV q G) q G
    rwa[show(i.toNat:Int)=i by omega] at this)⟩,G,KP⟩
 ·refine aU<|wq<|wm Z<|wg Z<|wn Z<|aQ [1] 99 cC Z ?_;refine⟨_,_,Z,Z,?_⟩;exact⟨V,_,_,Z,ld,λq h=>hV q G,Z⟩
theorem aHw {ap:AF} {ar ao:Nat} {u:AH} (ac:Rd w ap ar ao 1 (ints .u8 u)) (an:aP u) (hN:u.length<=100000):
  CF 148 #[sl ap ar ao] w (λv R'=> ∃(out:AH) (A:AF) (c:Nat),v= .tuple #[sl A u.length c,I 0]/\out.length=u.length/\(∀q:Nat,q<u.length->rd out (rkS u u.length q)=q)/\R'=[(ri 3 A u.length c out)]):=by
 obtain rfl:=ac.lenI;refine fn2 Tryz.func148 Z Z Z ?_;have li:=ac.max;refine wq<|wg Z<|wn Z<|aC<|wq<|wm Z<|wy (aN af Z)<|wy (Yl.f (dE Z Z))<|aA<|aJ Z<|aI<|aC ?_;refine aL<|wm Z<|wy (aN af Z)<|wa (dD aa zb3 Z Z) ?_;rintro _ _⟨am,rfl,rfl⟩;refine bF (v:=sl (GG am) u.length u.length) Z<|wn Z<|aC<|wq<|wm Z<|wy (aN af Z)<|wm Z<|aA<|aH ?_;refine dM (λ(i:Int) (V:AH)=>[(4,sl (GG am) u.length u.length),(13,sl ap u.length ao),(14,I (u.length:Int)),(15,I i)]) (λi V=>[(ri 3 (GG am) u.length u.length V)]) (λi V=>(0<=i)/\(i<=u.length)/\(V.length=u.length)/\(∀j:Int,0<=j->j<i->rd V j=rd u j)) (λi V=>(u.length-i).toNat) ?_ ?_
 ·exact⟨0,List.replicate u.length (0:Int),⟨G,G,(by rw[bu]),(λj h1 h2=>G)⟩,KP⟩
 intro i V ⟨aw,ia,ld,hV⟩;refine wq<|wL Z Z<|aA<|aC<|bA Z (λaq=> ?_) (λaq=> ?_)
 ·have tj:=an.rd i;refine aI<|aC<|aH<|wq<|wm Z<|wy (aG af sz5 Z Z (ac.c _))<|wy (aR ay Z Z (ac.c _))<|wg Z<|wn Z<|aL<|wm Z<|wm Z<|wm Z ?_;refine wy (iK ay ai Z)<|wy (aG aa sz3 Z Z (rdr 0 Z))<|bV (bD 0 Z sz3 Z Z) ?_;rintro _ _ rfl;refine aA<|aL<|wA Z Z<|wm Z<|aA ?_;exact⟨i+1,upd V i (rd u i),⟨G,G,(by rw[aY];exact ld),(eP (f:=λj=>rd u j) aw G hV Z)⟩,G,KP⟩
 ·have Sf:V=u:=bM ld (λj h1 h2=>hV j h1 G);refine aU<|wq<|wm Z<|wa (aD bNn Z (Ct.fresh (λw hw=>aPe ((rdr 0 Z) w hw) ⟨G,λx hx=>by rw[Sf] at hx;have:=an x hx;omega⟩ G))) ?_;rintro _ _⟨_,rfl,o1,fk,fm,rfl,Ge,Hk,rfl⟩;refine wX Z Z<|wX Z Z<|wg Z<|wn Z<|aQ [0] 99 cC Z ?_;refine⟨_,_,Z,Z,?_⟩;subst Sf;exact⟨o1,_,_,Z,Ge,Hk,Z⟩
end Go.Proofs.YtdbebmmhdefgdaaGreat
