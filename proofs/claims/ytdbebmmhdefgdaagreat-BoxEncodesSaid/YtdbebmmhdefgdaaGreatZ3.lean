/- Own work. -/
import Derived.Laws.CopyRow
import Derived.Laws.IdiomCopy
import Derived.Lib.BitFns
import Derived.Shelf.Small.Bits
import Derived.Test.YtdbebmmhdefgdaaGreatProg
import Derived.RangeFuncRecord
import Derived.RangeFuncSeq
import Derived.RangeFuncCalls
import Derived.RangeFuncKeeps
import Derived.RangeFuncBox
import Derived.RangeFuncNested
import Derived.Shelf.SlSortCmp.Kit1
import Derived.Shelf.Abstract
import Derived.WalkKit
import Derived.OwnWalkIn
import Derived.TacticsInMore
import Derived.LoopNIn
import Derived.LoopIn
import Derived.Ground.NamesProg
import Derived.Ground.Names2Prog
import Derived.Shelf.Sort.Plain
import Derived.Shelf.Slices.SearchI
import Derived.Shelf.Slices.In.SortNone
import Derived.Shelf.Slices.Empties
import Derived.Lib.SlKeysI
import Derived.Test.YtdbebmmhdefgdaaGreatZ2
set_option linter.unusedVariables false
set_option linter.unusedSimpArgs false
set_option maxHeartbeats 8000000
namespace Go.Eng
open Go Go.RowKit Go.Pure
section
variable {P:Program} {n:Nd} {B:Nat} {w0:World} {L:Env} {R:List Row} {ty:TypeId}
theorem aPx {x y:Operand} {t u:TypeId} {p q:Int} (hx:ev L x=some (.int .u64 p)) (hy:ev L y=some (.int .u64 q)) (h:0<=p+q/\p+q<18446744073709551616):Yl P n B w0 (.binOp .add t x y u) ty L R (.int .u64 (p+q)):=by
 have:=aPy (P:=P) (n:=n) (B:=B) (w0:=w0) (R:=R) (ty:=ty) (t:=t) (u:=u) hx hy;rwa[jW h.1 h.2] at this
theorem bFd {x y:Operand} {t u:TypeId} {p q:Int} (hx:ev L x=some (.int .u64 p)) (hy:ev L y=some (.int .u64 q)) (h:0<=p-q/\p-q<18446744073709551616):Yl P n B w0 (.binOp .sub t x y u) ty L R (.int .u64 (p-q)):=by
 have:=bDi (P:=P) (n:=n) (B:=B) (w0:=w0) (R:=R) (ty:=ty) (t:=t) (u:=u) hx hy;rwa[jW h.1 h.2] at this
theorem uI {x y:Operand} {t u:TypeId} {p q:Int} (hx:ev L x=some (.int .u64 p)) (hy:ev L y=some (.int .u64 q)) (h:0<=p*q/\p*q<18446744073709551616):Yl P n B w0 (.binOp .mul t x y u) ty L R (.int .u64 (p*q)):=by
 have:=bDk (P:=P) (n:=n) (B:=B) (w0:=w0) (R:=R) (ty:=ty) (t:=t) (u:=u) hx hy;rwa[jW h.1 h.2] at this
theorem ET {x y:Operand} {t u:TypeId} {p q:Int} (hx:ev L x=some (.int .u64 p)) (hy:ev L y=some (.int .u64 q)) (h:0<=p/\p<18446744073709551616) (h0:0<q):Yl P n B w0 (.binOp .quo t x y u) ty L R (.int .u64 (p/q)):=by
 have:=bDj (P:=P) (n:=n) (B:=B) (w0:=w0) (R:=R) (ty:=ty) (t:=t) (u:=u) hx hy h.1 h0;have h1:p/q<=p:=Dt q h.1;have h2:0<=p/q:=Et h.1 G;rwa[jW h2 G] at this
theorem gW {x:Operand} {s d:TypeId} {j:IntKind} {p:Int} {td:TypeDesc} (fj:P.underlying s=some td) (hd:P.underlying d=some (.int .u64)) (hx:ev L x=some (.int j p)) (h:0<=p/\p<18446744073709551616:=by omega):Yl P n B w0 (.convert s d x) ty L R (.int .u64 p):=by
 have:=mV (P:=P) (n:=n) (B:=B) (w0:=w0) (R:=R) (ty:=ty) fj hd hx;rwa[jW h.1 h.2] at this
theorem dU {x:Operand} {s d:TypeId} {j:IntKind} {p:Int} {td:TypeDesc} (fj:P.underlying s=some td) (hd:P.underlying d=some (.int .u8)) (hx:ev L x=some (.int j p)):Yl P n B w0 (.convert s d x) ty L R (.int .u8 (p%256)):=by
 have:=mV (P:=P) (n:=n) (B:=B) (w0:=w0) (R:=R) (ty:=ty) fj hd hx;rwa[Ch] at this
theorem bFi {x y:Operand} {t u:TypeId} {p q:Int} (hx:ev L x=some (.int .u8 p)) (hy:ev L y=some (.int .u8 q)):Yl P n B w0 (.binOp .add t x y u) ty L R (.int .u8 ((p+q)%256)):=by
 have:=aPy (P:=P) (n:=n) (B:=B) (w0:=w0) (R:=R) (ty:=ty) (t:=t) (u:=u) hx hy;rwa[Ch] at this
theorem aRc (x m:Int) (h:0<=x*m/\x*m<18446744073709551616) (j:IntKind) (k:Nat) (hk:k<=64) (hm:(2:Int)^k=m) (w:World):(Op.shift .shl .u64 x j (k:Int)).run P w= .ok (.int .u64 (x*m)) w:=by
 have hn: ¬((k:Int)<0):=G
 have hb:min (k:Int).toNat (IntKind.bits .u64)=k:=by
  have:IntKind.bits .u64=64:=rfl;omega
 unfold Op.shift;simp only[hn,hb,xx,hm,jW h.1 h.2];rfl
theorem vO {x y:Operand} {t u:TypeId} {a m:Int} {j:IntKind} {k:Nat} (hx:ev L x=some (.int .u64 a)) (hy:ev L y=some (.int j (k:Int))) (hm:(2:Int)^k=m) (h:0<=a*m/\a*m<18446744073709551616) (hk:Nat.ble k 64=true):Yl P n B w0 (.binOp .shl t x y u) ty L R (.int .u64 (a*m)):=by
 intro a' w o ho _ hs _;simp[execOp,ho,hs.ev hx,hs.ev hy,binOp,eqGuard,aRc a m h j k (ak hk) hm]
theorem oW {x y:Operand} {t u:TypeId} {a m:Int} {j:IntKind} {k:Nat} (hx:ev L x=some (.int .u64 a)) (hy:ev L y=some (.int j (k:Int))) (hm:(2:Int)^k=m) (h:0<=a/\a<18446744073709551616) (hk:Nat.ble k 64=true):Yl P n B w0 (.binOp .shr t x y u) ty L R (.int .u64 (a/m)):=by
 have:=bFe (P:=P) (n:=n) (B:=B) (w0:=w0) (R:=R) (ty:=ty) (t:=t) (u:=u) hx hy h.1 h.2 hk;rwa[hm] at this
theorem rZ {p:Int} (h:0<=p/\p<18446744073709551616):(BitVec.ofInt 64 p).toNat=p.toNat:=by
 rw[zf];have e:((2^64:Nat):Int)=18446744073709551616:=rfl;rw[e,ky h.1 h.2]
theorem aLn (p:Int) (h:0<=p/\p<18446744073709551616) (k:Nat) (hk:k<=64) (m:Int) (hm:m=(2:Int)^k-1) (w:World):(Op.intBits .and .u64 p m).run P w= .ok (.int .u64 (p%2^k)) w:=by
 show Result.ok (Value.int .u64 (IntKind.u64.wrap ((BitVec.ofInt 64 p &&& BitVec.ofInt 64 m).toNat:Int))) w=_;have hp:(0:Int)<2^k:=Ei G
 have ox:(2:Int)^k<=2^64:=by
  have:(2:Nat)^k<=2^64:=Er G hk
  exact_mod_cast this
 have e1:(BitVec.ofInt 64 m).toNat=2^k-1:=by
  rw[rZ G,hm];have:((2:Int)^k)=((2^k:Nat):Int):=by norm_cast
  rw[this];omega
 rw[BitVec.toNat_and,rZ h,e1,Dv]
 have e2:((p.toNat%2^k:Nat):Int)=p%2^k:=by
  rw[zb,lm h.1]
  norm_cast
 rw[e2];have h1:0<=p%2^k:=jv _ G;have h2:p%2^k<2^k:=iy _ hp;rw[jW h1 G]
theorem JG {x y:Operand} {t u:TypeId} {p q m:Int} (k:Nat) (hx:ev L x=some (.int .u64 p)) (hy:ev L y=some (.int .u64 q)) (hm:(2:Int)^k=m) (hq:q=m-1) (h:0<=p/\p<18446744073709551616) (hk:Nat.ble k 64=true):Yl P n B w0 (.binOp .and t x y u) ty L R (.int .u64 (p%m)):=by
 subst hm;intro a w o ho _ hs _;simp[execOp,ho,binOp,eqGuard,hs.ev hx,hs.ev hy,aLn p h k (ak hk) q hq]
theorem bGg: ∀n:Fin 256,(n.val|||128)=n.val%128+128:=by decide+kernel
theorem aZd (p:Int) (h:0<=p/\p<256) (w:World):(Op.intBits .or .u8 p 128).run P w= .ok (.int .u8 (p%128+128)) w:=by
 show Result.ok (Value.int .u8 (IntKind.u8.wrap ((BitVec.ofInt 8 p|||BitVec.ofInt 8 128).toNat:Int))) w=_
 have e1:(BitVec.ofInt 8 p).toNat=p.toNat:=by
  rw[zf];have e:((2^8:Nat):Int)=256:=rfl;rw[e,ky h.1 h.2]
 have e2:(BitVec.ofInt 8 128).toNat=128:=cC
 rw[Jg,e1,e2];have:=bGg ⟨p.toNat,G⟩;rw[show p.toNat|||128=p.toNat%128+128 from this,nT G G];rw[show((p.toNat%128+128:Nat):Int)=p%128+128 by omega]
theorem bIr {x y:Operand} {t u:TypeId} {p:Int} (hx:ev L x=some (.int .u8 p)) (hy:ev L y=some (.int .u8 128)) (h:0<=p/\p<256):Yl P n B w0 (.binOp .or t x y u) ty L R (.int .u8 (p%128+128)):=by
 intro a w o ho _ hs _;simp[execOp,ho,binOp,eqGuard,hs.ev hx,hs.ev hy,aZd p h]
theorem UU (p q:Int) (k:Nat) (m:Int) (hm:(2:Int)^k=m) (h:0<=p/\p*m+q<18446744073709551616) (hq:0<=q/\q<m) (w:World):(Op.intBits .or .u64 (p*m) q).run P w= .ok (.int .u64 (p*m+q)) w:=by
 show Result.ok (Value.int .u64 (IntKind.u64.wrap ((BitVec.ofInt 64 (p*m)|||BitVec.ofInt 64 q).toNat:Int))) w=_;have Zp:0<=p*m:=Af h.1 G;rw[Jg,rZ G,rZ G]
 have e1:(p*m).toNat=2^k*p.toNat:=by
  have:p*m=((2^k*p.toNat:Nat):Int):=by
   rw[Av,lm h.1,Ev,<-hm,Cz];rfl
  rw[this,cz]
 have e2:q.toNat<2^k:=by
  have:((2^k:Nat):Int)=m:=by rw[<-hm,Ev];rfl
  omega
 rw[e1,<-Fp e2,<-e1];rw[show(((p*m).toNat+q.toNat:Nat):Int)=p*m+q by omega,jW G h.2]
theorem bIo {x y:Operand} {t u:TypeId} {p q m:Int} (k:Nat) (hx:ev L x=some (.int .u64 (p*m))) (hy:ev L y=some (.int .u64 q)) (hm:(2:Int)^k=m) (h:0<=p/\p*m+q<18446744073709551616) (hq:0<=q/\q<m):Yl P n B w0 (.binOp .or t x y u) ty L R (.int .u64 (p*m+q)):=by
 intro a w o ho _ hs _;simp[execOp,ho,binOp,eqGuard,hs.ev hx,hs.ev hy,UU p q k m hm h hq]
theorem bIp {x y:Operand} {t u:TypeId} {q m:Int} (k:Nat) (hx:ev L x=some (.int .u64 q)) (hy:ev L y=some (.int .u64 m)) (hm:(2:Int)^k=m) (h:m+q<18446744073709551616) (hq:0<=q/\q<m):Yl P n B w0 (.binOp .or t x y u) ty L R (.int .u64 (q+m)):=by
 intro a w o ho _ hs _;have e:=UU (P:=P) 1 q k m hm G hq w
 have e2:(Op.intBits .or .u64 q m).run P w= .ok (.int .u64 (q+m)) w:=by
  have c:Op.intBits .or .u64 q m=Op.intBits .or .u64 (1*m) q:=by
   rw[Int.one_mul];unfold Op.intBits;simp only[BitVec.or_comm]
  rw[c,e,Int.one_mul,Int.add_comm]
 simp[execOp,ho,binOp,eqGuard,hs.ev hx,hs.ev hy,e2]
theorem aRa (k0:IntKind) (x m:Int) (h0:0<=x) (j:IntKind) (k:Nat) (hk:k<=k0.bits) (hm:(2:Int)^k=m) (w:World):(Op.shift .shr k0 x j (k:Int)).run P w= .ok (.int k0 (x/m)) w:=by
 have hn: ¬((k:Int)<0):=G
 have hb:min (k:Int).toNat k0.bits=k:=G
 have he:Int.fdiv x m=x/m:=Bf _ (by rw[<-hm];exact vz G);unfold Op.shift;simp only[hn,hb,hm,he,xx];rfl
theorem zH {x y:Operand} {t u:TypeId} {k0:IntKind} {a m:Int} {j:IntKind} {k:Nat} (hx:ev L x=some (.int k0 a)) (hy:ev L y=some (.int j (k:Int))) (hm:(2:Int)^k=m) (h:0<=a) (hk:Nat.ble k k0.bits=true):Yl P n B w0 (.binOp .shr t x y u) ty L R (.int k0 (a/m)):=by
 intro a' w o ho _ hs _;simp[execOp,ho,hs.ev hx,hs.ev hy,binOp,eqGuard,aRa k0 a m h j k (ak hk) hm]
theorem sK {x y:Operand} {t e:TypeId} {z:Value} {bytes m c k c2:Nat} {A A2:AF} {l l2:AH} {kk:IntKind} (ht:P.underlying t=some (.slice e)) (dt:(P.info? e).map (λi=>(i.zero,i.size,i.bytes))=some (some z,1,bytes))
  (hx:ev L x=some (.slice A m c)) (hr:RdC B w0 R A m c 1 (ints kk l)) (hy:ev L y=some (.slice A2 k c2)) (i5:RdC B w0 R A2 k c2 1 (ints kk l2)) (h0:0<m) (h1:0<k) (hg:c<m+k) (hb:m+k<=1000000) (e9:Builtin.nextslicecap (m+k) c*bytes<=281474976710656) (hz:z.cells.size=1):
  Ac P n B w0 (.call {callee:= .builtin .append,args:= #[x,y],argTypes:= #[t,t]}) ty L R (λv R'=> ∃g c',v= .slice (some ⟨g,0,none⟩) (m+k) c'/\R'=⟨e,1,some ⟨g,0,none⟩,m+k,c',ints kk (l++l2),false⟩::R):=by
 intro a w o K Q ho _ hs hp hk;obtain⟨i0,hi,zd⟩:=iw.1 dt;simp only[Ad] at zd;obtain⟨vt,xb,s7⟩:=zd;have ha:=hr w hp;have g9:=i5 w hp;have yd:(ints kk l).length=m:=by have:=ha.len;omega
 have un:(ints kk l2).length=k:=by have:=g9.len;omega
 obtain⟨ad,rfl,_⟩:=ha.at_ 0 (ints kk l)[0] (by rw[av G]);obtain⟨ae,rfl,_⟩:=g9.at_ 0 (ints kk l2)[0] (by rw[av G])
 have oy:=run_append_grow (P:=P) (w:=w) t o.type e i0 z ht hi vt ad m c (ints kk l) (by rw[yd,xb];omega) (λj v hv=>by
   obtain⟨a',np,hc⟩:=ha.at_ j v hv;obtain rfl:=je np
   exact hc) ae k c2 (ints kk l2) (by rw[un,xb];omega) (λj v hv=>by
   obtain⟨a',np,hc⟩:=g9.at_ j v hv;obtain rfl:=je np
   exact hc) hg G (by rw[s7];exact e9)
 unfold Oper.wp;simp only[execOp,ho,resolve,invoke,builtin,jq,ng,jm,uf,ko,qx,hs.ev hx,hs.ev hy,oy,Oper.upon];have Ds:=grownCap_ge w (m+k) c e;have ox:=Gl w (m+k) c e (by unfold maxLen;omega)
 have ke:((ints kk l).toArray++(ints kk l2).toArray++Builtin.zeroCells z.cells (grownCap w (m+k) c e-(m+k))).size=m+k+(Builtin.zeroCells z.cells (grownCap w (m+k) c e-(m+k))).size:=by
  simp only[Array.size_append,ql,yd,un]
 have hzs:z.cells.size=1->(Builtin.zeroCells z.cells (grownCap w (m+k) c e-(m+k))).size=grownCap w (m+k) c e-(m+k):=λh=>by
  simp[Builtin.zeroCells,h]
 have hsz:((ints kk l).toArray++(ints kk l2).toArray++Builtin.zeroCells z.cells (grownCap w (m+k) c e-(m+k))).size=grownCap w (m+k) c e:=by rw[ke,hzs hz];omega
 have pe:=(hp.drawn (w.drawn+1) G).newC ((ints kk l).toArray++(ints kk l2).toArray++Builtin.zeroCells z.cells (grownCap w (m+k) c e-(m+k))) e (m+k) (by rw[hsz];exact Ds) (by rw[hsz];exact ox)
 have k8:((ints kk l).toArray++(ints kk l2).toArray++Builtin.zeroCells z.cells (grownCap w (m+k) c e-(m+k))).toList.take (m+k)=ints kk (l++l2):=by
  rw[vo,vo];show(ints kk l++ints kk l2++_).take (m+k)=_;rw[Ey (by rw[ah,yd,un])];simp[ints]
 rw[k8,hsz] at pe;exact hk _ _ _ pe ⟨_,_,rfl,rfl⟩
end
end Go.Eng
namespace Go.Eng
open Go Go.RowKit
section
variable {P:Program} {n:Nd} {B:Nat} {w0:World} {L:Env} {R:List Row} {ty:TypeId}
theorem aBe {g lo c:Nat} (h:lo<c):jH (some ⟨g,0,none⟩) lo c 1=some ⟨g,lo,none⟩:=by
 unfold jH;rw[df G,qf,kv];unfold Addr.add;split<;>simp_all
theorem XA {x y:Operand} {t t2 e:TypeId} {p:AF} {lo dl dc m c m2 c2:Nat} {A A2:AF} {k:IntKind} {l src:AH} (i:Nat) (hi:R[i]? =some ⟨e,1,A,m,c,ints k l,false⟩) (ht:P.underlying t=some (.slice e)) (ge:(P.info? e).map (·.size)=some 1)
  (hx:ev L x=some (.slice p dl dc)) (hy:ev L y=some (.slice A2 m2 c2)) (hp:p=jH A lo c 1) (hdl:dl=m-lo) (u7:lo<m) (gr:RdC B w0 R A2 m2 c2 1 (ints k src)):
  Ac P n B w0 (.call {callee:= .builtin .copy,args:= #[x,y],argTypes:= #[t,t2]}) ty L R (λv R'=>v= .int .i64 ((min m2 (m-lo):Nat):Int)/\R'=R.set i ⟨e,1,A,m,c,ints k (l.take lo++src.take (min m2 (m-lo))++l.drop (lo+min m2 (m-lo))),false⟩):=by
 intro a w o K Q ho Hk hs hw hk;have ij:=Row.lies_w (hw.own _ (gu hi)) rfl;have i5:=gr w hw;have Qd:m2=src.length:=i5.lenI;have hl:m=l.length:=by have:=ij.1;rw[bX] at this;simp only at this;omega
 rcases ij.2 with⟨_,hn⟩|⟨g,cap,cur,hv,hb,hg,hnc,tc,ke,k8⟩
 ·simp only at hn;omega
 simp only[ku,Ak] at hv;obtain⟨rfl,rfl⟩:=hv;simp only at k8 ke hnc hg hb;rw[qf] at k8 ke;have da:p=some ⟨g,lo,none⟩:=by rw[hp];exact aBe G
 subst da;subst hdl;obtain⟨q,hq⟩: ∃q,min m2 (m-lo)=q:=⟨_,rfl⟩;rw[hq] at hk;have Ql:Nat.min m2 (m-lo)=q:=hq;have kt:(ints k (src.take q)).length=q:=by rw[bX,ax];omega
 have hlen:(ints k l).length=m:=by rw[bX];omega
 rcases ek m2 with hz|ff
 ·have js:q=0:=G
  have oy:=run_copy_none (P:=P) w t t2 o.type e (some ⟨g,lo,none⟩) A2 (m-lo) dc m2 c2 ht ge (by rw[hz];exact Nat.zero_min _);unfold Oper.wp execOp;simp only[ho,resolve,invoke,builtin,jq,ng,jm,uf,ko,qx,hs.ev hx,hs.ev hy,oy,Oper.upon];refine hk (.int .i64 ((0:Nat):Int)) w R hw ⟨by rw[js],?_⟩;rw[js];simp only[zh,jh,qp,gy]
  exact(by
   apply ul;intro j;rw[xm];split
   ·rename_i e;subst e;rw[di (fw.1 hi).1,hi]
   ·rfl)
 ·obtain ⟨a2,rfl⟩: ∃a2,A2=some a2:=by
   obtain⟨a2,h,_⟩:=i5.at_ 0 _ (av (by rw[bX];omega));exact⟨a2,h⟩
  have oy:=run_copy_row P w t t2 o.type e g lo (m-lo) dc a2 m2 c2 cur e (ints k (src.take q)) ht ge hg (by rw[kt];exact hq.symm) (λj v hv=>by
   obtain⟨b,h1,h2⟩:=i5.at_ j v (by
    rw[ints,Cb] at hv;rw[ou] at hv;split at hv
    ·exact hv
    ·cases hv)
   obtain rfl:=je h1
   exact h2) (by rw[kt,ke];omega) (DL k _)
  rw[kt] at oy;unfold Oper.wp execOp;simp only[ho,resolve,invoke,builtin,jq,ng,jm,uf,ko,qx,hs.ev hx,hs.ev hy,oy,Oper.upon];refine hk (.int .i64 (q:Int)) _ _ ?_ ⟨rfl,rfl⟩;refine hw.upd hi (row:=some g) ⟨rfl,rfl,rfl,cD,λj _ hj=>Je w g j _ (λe=>hj (by simp[e]))⟩ (dx _) (λj hj=>by cases hj;exact⟨_,rfl,rfl⟩) ?_ (λa' np=> .inl ⟨a',np,rfl⟩);unfold Row.lies;simp only;refine⟨?_, .inr ⟨g,c,_,rfl,hb,Jy w g cur _ e _ hg,hnc,tc,?_,?_⟩⟩
  ·simp only[bX,ah,ax,az];omega
  ·simp only[ql,ah,ax,az,jy,bX];omega
  ·simp only[qf];rw[sF,sF]
   have e1:ints k (l.take lo)=cur.toList.take lo:=by
    rw[ints,Cb];show(ints k l).take lo=_;rw[<-k8,List.take_take,zo G]
   have e2:ints k (l.drop (lo+q))=(cur.toList.drop (lo+q)).take (m-(lo+q)):=by
    rw[ints,Hr];show(ints k l).drop (lo+q)=_;rw[<-k8,List.drop_take]
   rw[e1,e2]
   have h1:(cur.toList.take lo++ints k (src.take q)).length=lo+q:=by
    rw[ah,kt,ax,jy];omega
   rw[List.take_append,h1,bi G]
theorem aWx {A:AF} {c:Nat}:A=jH A 0 c 1:=by
 unfold jH;split
 ·rfl
 ·cases A with
  |none=>rfl
  |some a=>simp[Addr.add]
def CE (v:Int) (p N:Nat):AH:=List.replicate p v++List.replicate (N-p) 0
theorem aLx (v:Int) (N:Nat):CE v 0 N=List.replicate N 0:=by simp[CE]
theorem aSa (v:Int) (N:Nat):CE v N N=List.replicate N v:=by simp[CE]
theorem RQ {v:Int} {p N:Nat}:(CE v p N).take p=List.replicate p v:=by simp[CE]
theorem RS {v:Int} {p q N:Nat} {src:AH} (h:p+q<=N) (hs:src=List.replicate q v):(CE v p N).take p++src++(CE v p N).drop (p+q)=CE v (p+q) N:=by
 subst hs;rw[RQ];unfold CE;rw[List.drop_append];simp only[dh,List.drop_replicate,show p-(p+q)=0 by omega,Ff,jd,Dp];congr 2;omega
end
end Go.Eng
namespace Go.Proofs.YtdbebmmhdefgdaaGreat
open Go Go.Eng Go.Pure
open Tryz
set_option maxRecDepth 100000
variable {w:World} {x0 x n:Int}
theorem aZy (hv:0<=x0/\x0<18446744073709551616):
  CF 69 #[.int .u64 x0] w (λv R'=> ∃A c,v=sl A ((aW x0).length) c/\R'=[(ru 5 A ((aW x0).length) c (aW x0))]):=by
 refine fn1 Tryz.func69 Z Z Z ?_;have hlen:=bW 9 x0 G;refine wq<|wn Z<|wq<|bT (R1:=[(ru 5 none 0 0 ([]))]) (Sub.refl _) (λ_ h=>h.nil 5 1)<|wn Z<|aD<|aH ?_;refine eH (λ(A1:AF) (n1:Nat) (c1:Nat) (acc:AH) (x:Int)=>[(0, .int .u64 x),(3,sl A1 n1 c1)]) (λA1 n1 c1 acc x=>[(ru 5 A1 n1 c1 acc)]) (λA1 n1 c1 acc x=>(n1=acc.length)/\(0<=x/\x<18446744073709551616)/\(aW x0=acc++aW x)) (λA1 n1 c1 acc x=>x.toNat) ?_ ?_
 ·exact⟨none,0,0,[],x0,⟨(Z),G,(Z)⟩,KP⟩
 intro A1 n1 c1 acc x ⟨cm,Uk,hT⟩;have sk:=bu List.length hT;rw[ah] at sk;refine aD<|wq<|wm Z<|wy (iD Z Z)<|aA<|bA Z (λba=> ?_) (λba=> ?_)
 ·refine aI<|aH<|wq<|wm Z<|wm Z<|wy (dU fe bn Z)<|wy (bIr Z Z G)<|wa (bH .u8 [(x%256)%128+128] af zs5 Z Z Z) ?_;rintro _ _⟨cy,rfl,rfl⟩;refine wa (aQ 1 Z af zb5 Z Z Z (rdr 0 Z)) ?_;rintro _ _⟨en,es,rfl,rfl⟩;refine bC (v:=sl en (n1+1) es) Z<|wn Z<|aK<|wm Z<|wy (oW (k:=7) (m:=128) Z Z Z G Z)<|wn Z ?_;exact⟨en,n1+1,es,acc++([(x%256)%128+128]),x/128,⟨(by rw[ah,cm];try rfl),G,(RV hT G G G)⟩,G,SA,λ_ h=>h.sel [1] cC Z⟩
 ·refine aR<|wq<|wm Z<|wm Z<|wy (dU fe bn Z)<|wa (bH .u8 [x%256] af zs5 Z Z Z) ?_;rintro _ _⟨io,rfl,rfl⟩;refine wa (aQ 1 Z af zb5 Z Z Z (rdr 0 Z)) ?_;rintro _ _⟨gg,ef,rfl,rfl⟩;refine bC (v:=sl gg (n1+1) ef) Z<|wn Z<|aT [1] 99 cC Z ?_;refine⟨_,Z,?_⟩;have e:acc++[x%256]=aW x0:=by rw[hT,jZ G,ky G G]
  have e2:n1+1=(aW x0).length:=by rw[<-e,ah,cm];rfl
  rw[e,e2];exact⟨_,_,Z,Z⟩
theorem aRf (hv:0<=x0/\x0<18446744073709551616):
  CF 79 #[.int .u64 x0] w (λv R'=> ∃A c,v=sl A ((aW x0).length) c/\R'=[(ru 5 A ((aW x0).length) c (aW x0))]):=by
 refine fn1 Tryz.func79 Z Z Z ?_;have hlen:=bW 9 x0 G;refine wq<|wn Z<|wq<|bT (R1:=[(ru 5 none 0 0 ([]))]) (Sub.refl _) (λ_ h=>h.nil 5 1)<|wn Z<|aD<|aH ?_;refine eH (λ(A1:AF) (n1:Nat) (c1:Nat) (acc:AH) (x:Int)=>[(0, .int .u64 x),(3,sl A1 n1 c1)]) (λA1 n1 c1 acc x=>[(ru 5 A1 n1 c1 acc)]) (λA1 n1 c1 acc x=>(n1=acc.length)/\(0<=x/\x<18446744073709551616)/\(aW x0=acc++aW x)) (λA1 n1 c1 acc x=>x.toNat) ?_ ?_
 ·exact⟨none,0,0,[],x0,⟨(Z),G,(Z)⟩,KP⟩
 intro A1 n1 c1 acc x ⟨cm,Uk,hT⟩;have sk:=bu List.length hT;rw[ah] at sk;refine aD<|wq<|wm Z<|wy (iD Z Z)<|aA<|bA Z (λba=> ?_) (λba=> ?_)
 ·refine aI<|aH<|wq<|wm Z<|wm Z<|wy (JG (m:=128) 7 Z Z Z Z G Z)<|wy (bIp (m:=128) 7 Z Z Z G G)<|wy (dU fe bn Z)<|wa (bH .u8 [((x%128)+128)%256] af zs5 Z Z Z) ?_;rintro _ _⟨cy,rfl,rfl⟩;refine wa (aQ 1 Z af zb5 Z Z Z (rdr 0 Z)) ?_;rintro _ _⟨en,es,rfl,rfl⟩;refine bC (v:=sl en (n1+1) es) Z<|wn Z<|aK<|wm Z<|wy (oW (k:=7) (m:=128) Z Z Z G Z)<|wn Z ?_;exact⟨en,n1+1,es,acc++([((x%128)+128)%256]),x/128,⟨(by rw[ah,cm];try rfl),G,(RV hT G G G)⟩,G,SA,λ_ h=>h.sel [1] cC Z⟩
 ·refine aR<|wq<|wm Z<|wm Z<|wy (dU fe bn Z)<|wa (bH .u8 [x%256] af zs5 Z Z Z) ?_;rintro _ _⟨io,rfl,rfl⟩;refine wa (aQ 1 Z af zb5 Z Z Z (rdr 0 Z)) ?_;rintro _ _⟨gg,ef,rfl,rfl⟩;refine bC (v:=sl gg (n1+1) ef) Z<|wn Z<|aT [1] 99 cC Z ?_;refine⟨_,Z,?_⟩;have e:acc++[x%256]=aW x0:=by rw[hT,jZ G,ky G G]
  have e2:n1+1=(aW x0).length:=by rw[<-e,ah,cm];rfl
  rw[e,e2];exact⟨_,_,Z,Z⟩
theorem DU (hx:0<=x/\x<4294967296):
  CF 76 #[.int .u32 x] w (λv R'=> ∃A c,v=sl A 4 c/\R'=[(ru 5 A 4 c (eG x))]):=by
 refine fn1 Tryz.func76 Z Z Z ?_;refine wq<|wn Z<|wq<|wa (dM af zb5 Z Z) ?_;rintro _ _⟨aq,rfl,rfl⟩;refine bC (v:=sl (GG aq) 4 4) Z<|wn Z<|aD<|wq<|wm Z<|wy (aL af Z)<|wm Z<|aA<|aH<|lT 5<|eB<|wq ?_;refine wy (Yl.t (eZ Z Z) cC)<|aA<|aD<|dS Z<|aI<|aD<|aH<|wq<|wm Z<|wn Z<|aK<|wm Z<|wm Z ?_;refine wm Z<|wm Z<|wy (Yl.is (jJ Z Z) Z)<|wy (zH (k:=0) (m:=1) Z Z Z G Z)<|wy (dU qw bn Z)<|wy (aF af sz5 Z Z (rdr 0 Z))<|dC (bG 0 Z sz5 Z Z) ?_;rintro _ _ rfl;refine aA<|aK<|wy (Yl.is (cK Z Z) Z)<|wm Z<|aA<|eB<|wq<|wy (Yl.t (eZ Z Z) cC)<|aA<|aD<|dS Z<|aI<|aD<|aH ?_;refine wq<|wm Z<|wn Z<|aK<|wm Z<|wm Z<|wm Z<|wm Z<|wy (Yl.is (jJ Z Z) Z)<|wy (zH (k:=8) (m:=256) Z Z Z G Z)<|wy (dU qw bn Z)<|wy (aF af sz5 Z Z (rdr 0 Z))<|dC (bG 0 Z sz5 Z Z) ?_;rintro _ _ rfl;refine aA<|aK<|wy (Yl.is (cK Z Z) Z)<|wm Z<|aA<|eB<|wq<|wy (Yl.t (eZ Z Z) cC)<|aA<|aD<|dS Z<|aI<|aD<|aH ?_;refine wq<|wm Z<|wn Z<|aK<|wm Z<|wm Z<|wm Z<|wm Z<|wy (Yl.is (jJ Z Z) Z)<|wy (zH (k:=16) (m:=65536) Z Z Z G Z)<|wy (dU qw bn Z)<|wy (aF af sz5 Z Z (rdr 0 Z))<|dC (bG 0 Z sz5 Z Z) ?_;rintro _ _ rfl;refine aA<|aK<|wy (Yl.is (cK Z Z) Z)<|wm Z<|aA<|eB<|wq<|wy (Yl.t (eZ Z Z) cC)<|aA<|aD<|dS Z<|aI<|aD<|aH ?_;refine wq<|wm Z<|wn Z<|aK<|wm Z<|wm Z<|wm Z<|wm Z<|wy (Yl.is (jJ Z Z) Z)<|wy (zH (k:=24) (m:=16777216) Z Z Z G Z)<|wy (dU qw bn Z)<|wy (aF af sz5 Z Z (rdr 0 Z))<|dC (bG 0 Z sz5 Z Z) ?_;rintro _ _ rfl;refine aA<|aK<|wy (Yl.is (cK Z Z) Z)<|wm Z<|aA<|eB<|wq<|wy (Yl.f (eZ Z Z) cC)<|aA<|aD<|aP Z<|aR<|wq ?_;refine wm Z<|wn Z<|aT [0] 99 cC Z ?_;exact⟨_,Z,_,_,Z,Z⟩
theorem aLw (hx:0<=x/\x<4294967296):
  CF 141 #[.int .u32 x] w (λv R'=> ∃A c,v=sl A 4 c/\R'=[(ru 5 A 4 c (eG x))]):=by
 refine fn1 Tryz.func141 Z Z Z ?_;refine wq<|wn Z<|wq<|wm Z<|wy (dU qw bn Z)<|wm Z<|wy (zH (k:=8) (m:=256) Z Z Z G Z)<|wy (dU qw bn Z)<|wm Z<|wy (zH (k:=16) (m:=65536) Z Z Z G Z)<|wy (dU qw bn Z)<|wm Z ?_;refine wy (zH (k:=24) (m:=16777216) Z Z Z G Z)<|wy (dU qw bn Z)<|wa (bH .u8 [x%256,(x/256)%256,(x/65536)%256,(x/16777216)%256] af zs5 Z Z Z) ?_;rintro _ _⟨cy,rfl,rfl⟩;refine wn Z<|aT [0] 99 cC Z ?_;refine⟨_,Z,?_⟩;unfold eG;rw[Int.ediv_one];exact⟨_,_,Z,Z⟩
theorem gU (hv:0<=n/\n<9223372036854775808):
  CF 37 #[I n] w (λv R'=> ∃A c,v=sl A ((aW n).length) c/\R'=[(ru 5 A ((aW n).length) c (aW n))]):=by
 refine fn1 Tryz.func37 Z Z Z ?_;refine wq<|wn Z<|wq<|wm Z<|wy (gW au fe Z)<|wa (aC bOi Z (Ct.fresh (λw hw=>aZy G))) ?_;rintro _ _⟨_,rfl,cg,ce,rfl,rfl⟩;refine wn Z<|aT [0] 99 cC Z ?_;exact⟨_,Z,_,_,Z,Z⟩
theorem gP (hv:0<=n/\n<9223372036854775808):
  CF 43 #[I n] w (λv R'=> ∃A c,v=sl A ((aW n).length) c/\R'=[(ru 5 A ((aW n).length) c (aW n))]):=by
 refine fn1 Tryz.func43 Z Z Z ?_;refine wq<|wn Z<|wq<|wm Z<|wy (gW au fe Z)<|wa (aC bOf Z (Ct.fresh (λw hw=>aRf G))) ?_;rintro _ _⟨_,rfl,cg,ce,rfl,rfl⟩;refine wn Z<|aT [0] 99 cC Z ?_;exact⟨_,Z,_,_,Z,Z⟩
end Go.Proofs.YtdbebmmhdefgdaaGreat
namespace Go.Pure
open Go Go.Eng
variable {v:Int} {b:AH} {k:Nat}
def iT:AH->Int
 |[]=>0
 |d::l=>d%128+128*iT l
theorem vU: ∀l:AH,0<=iT l
 |[]=>mf _
 |d::l=>by have:=vU l;rw[iT];omega
def aCm:AH->Prop
 |[]=>False
 |d::l=>(l=[]/\0<=d/\d<128)\/(128<=d/\d<256/\aCm l/\0<iT l)
theorem UK: ∀(k:Nat) (v:Int),v.toNat<=k->0<=v->iT (aW v)=v/\aCm (aW v)
 |0,v,h,h0=>by
  rw[jZ G];exact⟨by rw[iT,iT];omega, .inl ⟨rfl,G,G⟩⟩
 | k+1,v,h,h0=>by
  by_cases z:v<128
  ·rw [jZ z];exact⟨by rw[iT,iT];omega, .inl ⟨rfl,G,G⟩⟩
  ·rw [tK G];obtain⟨h1,h2⟩:=UK k (v/128) G G;exact⟨by rw[iT,h1];omega, .inr ⟨G,G,h2,by rw[h1];omega⟩⟩
theorem KO (h:0<=v):iT (aW v)=v:=(UK _ v (dx _) h).1
theorem VG (h:0<=v):aCm (aW v):=(UK _ v (dx _) h).2
theorem aIe: ∀l:AH,aCm l->aW (iT l)=l
 |[],h=>h.elim
 | d::l,h=>by
  rcases h with⟨rfl,h0,h1⟩|⟨h0,h1,h2,h3⟩
  ·rw [iT,iT,jZ G];congr 1;omega
  ·rw [iT,tK G];have e1:(d%128+128*iT l)%128+128=d:=G
   have e2:(d%128+128*iT l)/128=iT l:=G
   rw[e1,e2,aIe l h2]
theorem aJc: ∀l m s t:AH,aCm l->aCm m->l++s=m++t->l=m
 |[],_,_,_,h,_,_=>h.elim
 |_::_,[],_,_,_,h,_=>h.elim
 |d::l,e::m,s,t,h,g,q=>by
  rw[jf,jf] at q;obtain⟨rfl,q2⟩:=List.cons.inj q;rcases h with⟨rfl,h0,h1⟩|⟨h0,h1,h2,h3⟩<;>rcases g with⟨rfl,g0,g1⟩|⟨g0,g1,g2,g3⟩
  ·rfl
  ·omega
  ·omega
  ·rw[aJc l m s t h2 g2 q2]
def vM (b:AH) (v:Int) (k:Nat):Prop:=(0<=v/\v<18446744073709551616)/\k=(aW v).length/\ ∃t,b=aW v++t
theorem vM.one {w:Int} {m:Nat} (h:vM b v k) (g:vM b w m):v=w/\k=m:=by
 obtain⟨h1,rfl,s,hs⟩:=h;obtain⟨g1,rfl,t,ht⟩:=g;have e:=aJc _ _ s t (VG h1.1) (VG g1.1) (hs.symm.trans ht);have e2:=bu iT e;rw[KO h1.1,KO g1.1] at e2;subst e2;exact⟨rfl,rfl⟩
theorem vM.drop (h:vM b v k):b=aW v++b.drop k:=by
 obtain⟨_,rfl,t,rfl⟩:=h;rw[Fw]
theorem vM.of (h:0<=v/\v<18446744073709551616) (t:AH):vM (aW v++t) v (aW v).length:=⟨h,rfl,t,rfl⟩
def iZ (b:AH):Int:=if b.findIdx (λx=>decide (x<128))<b.length then(b.findIdx (λx=>decide (x<128)):Nat) else -1
theorem bBv {i:Int} (i0:0<=i) (hi:i<b.length) (h:rd b i<128) (hn: ∀j:Int,0<=j->j<i-> ¬rd b j<128):iZ b=i:=by
 have e:b.findIdx (λx=>decide (x<128))=i.toNat:=by
  rw[List.findIdx_eq G];refine⟨by rw[fE i0 hi] at h;simpa using h,λj hj=> ?_⟩;have:=hn j G G;rw[fE G G] at this;simpa using this
 unfold iZ;rw[e,di G];omega
theorem aNx (hn: ∀j:Int,0<=j->j<b.length-> ¬rd b j<128):iZ b= -1:=by
 unfold iZ;rw[df];intro h;have hp:=Ej (w:=h);have:=hn (b.findIdx λx=>decide (x<128):Nat) G G;rw[fE G G] at this;simp only[cz] at this;simp only[zz] at hp;exact this hp
variable {b:AH} {d V:Int} {e:Nat}
theorem aVn: ∀(e:Nat) (b:AH),aN b->e<b.length->(∀j:Nat,j<e->128<=rd b j)->rd b (e:Int)<128->(e=0\/rd b (e:Int)≠0)->aCm (b.take (e+1))/\(rd b (e:Int)≠0->0<iT (b.take (e+1)))
 |0,d::b,hb,h,_,h1,_=>by
  have hd:=hb d cD;have e0:rd (d::b) ((0:Nat):Int)=d:=rfl;rw[e0] at h1 ⊢;refine⟨.inl ⟨rfl,hd.1,h1⟩,λcv=> ?_⟩;show 0<d%128+128*iT [];rw[iT];omega
 | e+1,d::b,hb,h,hn,h1,h2=>by
  have hd:=hb d cD;have Dd:128<=d:=hn 0 G
  have er: ∀j:Nat,rd (d::b) ((j+1:Nat):Int)=rd b (j:Int):=λj=>by
   unfold rd;rw[show((j+1:Nat):Int).toNat=j+1 by omega,cz];rfl
  rw[er] at h1 h2 ⊢;have hz:rd b (e:Int)≠0:=h2.resolve_left G;have ih:=aVn e b (λx hx=>hb x (fo _ hx)) (by rw[dn] at h;omega) (λj hj=>by have:=hn (j+1) G;rwa[er] at this) h1 (.inr hz);refine⟨.inr ⟨Dd,hd.2,ih.1,ih.2 hz⟩,λ_=> ?_⟩;show 0<d%128+128*iT (b.take (e+1));have:=ih.2 hz;omega
 |0,[],_,h,_,_,_=>by simp at h
 |_+1,[],_,h,_,_,_=>by simp at h
theorem KN: ∀(e:Nat) (b:AH),aN b->e<b.length->rd b (e:Int)<128->rd b (e:Int)*128^e<=iT (b.take (e+1))/\iT (b.take (e+1))<(rd b (e:Int)+1)*128^e
 |0,d::b,hb,h,h1=>by
  have hd:=hb d cD;have e0:rd (d::b) ((0:Nat):Int)=d:=rfl;rw[e0] at h1 ⊢;show d*128^0<=d%128+128*iT []/\d%128+128*iT []<(d+1)*128^0;rw[iT,uz];omega
 | e+1,d::b,hb,h,h1=>by
  have er:rd (d::b) ((e+1:Nat):Int)=rd b (e:Int):=by
   unfold rd;rw[show((e+1:Nat):Int).toNat=e+1 by omega,cz];rfl
  rw[er] at h1 ⊢;have ih:=KN e b (λx hx=>hb x (fo _ hx)) (by rw[dn] at h;omega) h1;show rd b (e:Int)*128^(e+1)<=d%128+128*iT (b.take (e+1))/\d%128+128*iT (b.take (e+1))<(rd b (e:Int)+1)*128^(e+1);rw[wh,<-su,<-su];omega
 |0,[],_,h,_=>by simp at h
 |_+1,[],_,h,_=>by simp at h
theorem AA (h:0<=iZ b):iZ b<b.length/\rd b (iZ b)<128/\ ∀j:Int,0<=j->j<iZ b-> ¬rd b j<128:=by
 have bp:b.findIdx (λx=>decide (x<128))<b.length:=by
  unfold iZ at h;split at h
  ·assumption
  ·omega
 have e:iZ b=(b.findIdx (λx=>decide (x<128)):Nat):=by unfold iZ;rw[di bp]
 have hp:=Ej (w:=bp);refine⟨G,?_,λj j0 hj=> ?_⟩
 ·rw [e,fE G G];simpa using hp
 ·have:=De (xs:=b) (p:=λx=>decide (x<128)) (i:=j.toNat) G;rw[fE j0 G];simpa using this
theorem aPe: ∀n:Fin 256,n.val<2^Lib.bitLen n.val/\(n.val≠0->2^(Lib.bitLen n.val-1)<=n.val/\1<=Lib.bitLen n.val)/\(n.val=0->Lib.bitLen n.val=0):=by decide+kernel
theorem aJz (h0:0<=d) (h1:d<256):d+1<=(2:Int)^Lib.bitLen d.toNat/\(d≠0->(2:Int)^(Lib.bitLen d.toNat-1)<=d/\1<=Lib.bitLen d.toNat)/\(d=0->Lib.bitLen d.toNat=0):=by
 obtain⟨a,b,c⟩:=aPe ⟨d.toNat,G⟩;have e: ∀k:Nat,(2:Int)^k=((2^k:Nat):Int):=λk=>by norm_cast
 refine⟨by rw[e];simp only at a;omega,λh=> ?_,λh=>c (by simp only;omega)⟩;have:=b (by simp only;omega);rw[e];simp only at this;omega
theorem bAd (e:Nat):(128:Int)^e=2^(7*e):=by
 rw[Int.pow_mul];rfl
theorem aVc (h0:0<=d) (h1:d<256) (hV:V<(d+1)*128^e) (h:7*e+Lib.bitLen d.toNat<=64):V<18446744073709551616:=by
 have hb:=(aJz h0 h1).1;have hp:(0:Int)<=128^e:=vz G;have h2:(d+1)*128^e<=2^Lib.bitLen d.toNat*128^e:=oq hb hp;rw[bAd,<-zt] at h2
 have h3:(2:Int)^(Lib.bitLen d.toNat+7*e)<=2^64:=by
  have:(2:Nat)^(Lib.bitLen d.toNat+7*e)<=2^64:=Er G G
  exact_mod_cast this
 rw[bAd] at hV;have:(2:Int)^64=18446744073709551616:=rfl;omega
theorem bBn (h0:0<=d) (h1:d<256) (he:e<=9) (hV:d*128^e<=V) (h:64<7*e+Lib.bitLen d.toNat):18446744073709551616<=V:=by
 obtain⟨_,hb,hz⟩:=aJz h0 h1;have hd:d≠0:=λc=>by have:=hz c;omega
 obtain⟨h2,h3⟩:=hb hd;have hp:(0:Int)<=128^e:=vz G;have h4:2^(Lib.bitLen d.toNat-1)*128^e<=d*128^e:=oq h2 hp;rw[bAd,<-zt] at h4
 have h5:(2:Int)^64<=2^(Lib.bitLen d.toNat-1+7*e):=by
  have:(2:Nat)^64<=2^(Lib.bitLen d.toNat-1+7*e):=Er G G
  exact_mod_cast this
 rw[bAd] at hV;have:(2:Int)^64=18446744073709551616:=rfl;omega
theorem bBm (hb:aN b) (he:iZ b=(e:Int)) (h0:e=0\/rd b (e:Int)≠0) (h7:7*e+Lib.bitLen (rd b (e:Int)).toNat<=64):vM b (iT (b.take (e+1))) (e+1):=by
 obtain⟨f1,f2,f3⟩:=AA (b:=b) G;rw[he] at f1 f2 f3;have hd:=hb.rd (e:Int);have h1:=(aVn e b hb G (λj hj=>by have:=f3 j G G;omega) f2 h0).1;have h2:=KN e b hb G f2;have h3:=aIe _ h1;refine⟨⟨vU _,aVc hd.1 hd.2 h2.2 h7⟩,?_,b.drop (e+1),?_⟩
 ·rw[h3,ax];omega
 ·rw[h3,gy]
theorem aJd: ∀l t:AH,aCm l->(l++t).findIdx (λx=>decide (x<128))=l.length-1/\0<l.length/\(l.length=1\/rd (l++t) ((l.length-1:Nat):Int)≠0)
 |[],_,h=>h.elim
 | d ::l,t,h=>by
  rcases h with⟨rfl,h0,h1⟩|⟨h0,h1,h2,h3⟩
  ·refine ⟨?_,cD, .inl rfl⟩;rw[jf,List.findIdx_cons,show decide (d<128)=true from ni h1];rfl
  ·obtain ⟨i1,i2,i3⟩:=aJd l t h2;refine⟨?_,cD, .inr ?_⟩
   ·rw [jf,List.findIdx_cons,show decide (d<128)=false from qa G,i1];simp only[dn,cond_false];omega
   ·have er:rd (d::(l++t)) (((l.length-1)+1:Nat):Int)=rd (l++t) ((l.length-1:Nat):Int):=by
     unfold rd;rw[show(((l.length-1)+1:Nat):Int).toNat=(l.length-1)+1 by omega,cz];rfl
    rw[jf,dn,show l.length+1-1=(l.length-1)+1 by omega,er];rcases i3 with i3|i3
    ·intro hz
     match l,i3,h2,h3,hz with
     |[x],_,h2,h3,hz=>
      rw[iT,iT] at h3;have:x=0:=hz;omega
    ·exact i3
theorem aVb (hb:aN b) (h:iZ b<0\/9<iZ b\/(0<iZ b/\rd b (iZ b)=0)\/64<7*(iZ b).toNat+Lib.bitLen (rd b (iZ b)).toNat): ¬ ∃v k,vM b v k:=by
 rintro⟨v,k,⟨Uk,Ul⟩,rfl,t,ht⟩;have hE:=VG Uk;obtain⟨i1,i2,i3⟩:=aJd _ t hE;rw[<-ht] at i1 i3;have hlen:(aW v).length<=b.length:=by rw[ht,ah];omega
 have he:iZ b=(((aW v).length-1:Nat):Int):=by
  unfold iZ;rw[i1,di G]
 have h10:=bW 9 v G;rw[he] at h;rcases h with h|h|⟨h,hz⟩|h
 ·omega
 ·omega
 ·rcases i3 with i3|i3
  ·omega
  ·exact i3 hz
 ·obtain ⟨f1,f2,_⟩:=AA (b:=b) G;rw[he] at f1 f2;have hd:=hb.rd (((aW v).length-1:Nat):Int);have h2:=KN ((aW v).length-1) b hb G f2
  have e1:b.take ((aW v).length-1+1)=aW v:=by
   rw[show(aW v).length-1+1=(aW v).length by omega]
   conv=>lhs;rw[ht]
   exact Dh
  rw[e1,KO Uk] at h2;rw[cz] at h;have:=bBn hd.1 hd.2 G h2.1 h;omega
theorem XK: ∀(l:AH) (d:Int),iT (l++[d])=d%128*2^(7*l.length)+iT l
 |[],d=>by simp[iT]
 |x::l,d=>by
  rw[jf,iT,iT,XK l d,dn,show 7*(l.length+1)=7*l.length+7 by omega,zt,<-su];rw[show(2:Int)^7=128 by rfl];omega
theorem BD {q:Nat} (h:q<b.length):iT (b.take (q+1))=rd b (q:Int)%128*2^(7*q)+iT (b.take q):=by
 have e:=dJ (j:=(q:Int)) (show(0:Int)<=q by omega) (show(q:Int)<b.length by omega);rw[show((q:Int)+1).toNat=q+1 by omega,cz] at e;rw[e,XK,ax,zo G]
theorem XM {b:AH}: ∀q:Nat,q<=b.length->iT (b.take q)<2^(7*q)
 |0,_=>by simp[iT]
 |q+1,h=>by
  have ih:=XM (b:=b) q G;rw[BD G,show 7*(q+1)=7*q+7 by omega,zt];have hp:(0:Int)<2^(7*q):=Ei G;have h1:rd b (q:Int)%128*2^(7*q)<=127*2^(7*q):=oq G G;rw[show(2:Int)^7=128 by rfl];omega
theorem XL {b:AH} {q:Nat}: ∀e:Nat,q<=e->e<=b.length->iT (b.take q)<=iT (b.take e)
 |0,h,_=>by rw[show q=0 by omega];exact mf _
 | e+1,h,hl=>by
  rcases gm e q with c|c
  ·rw[show q=e+1 by omega];exact mf _
  ·have ih:=XL (b:=b) (q:=q) e c G;have hp:(0:Int)<2^(7*e):=Ei G;have h1:0<=rd b (e:Int)%128*2^(7*e):=Af G G;rw[BD G];omega
end Go.Pure
namespace Go.Eng
open Go Go.RowKit Go.Pure
section
variable {P:Program} {n:Nd} {B:Nat} {w0:World} {L:Env} {R:List Row} {ty:TypeId}
theorem aXy: ∀n:Fin 256,(BitVec.ofInt 8 (n.val:Int) &&& ~~~ BitVec.ofInt 8 128).toNat=n.val%128:=by decide+kernel
theorem YL (p:Int) (h:0<=p/\p<256) (w:World):(Op.intBits .andNot .u8 p 128).run P w= .ok (.int .u8 (p%128)) w:=by
 have e:=aXy ⟨p.toNat,G⟩;simp only at e;rw[show((p.toNat:Nat):Int)=p by omega] at e;show Result.ok (Value.int .u8 (IntKind.u8.wrap ((BitVec.ofInt 8 p &&& ~~~ BitVec.ofInt 8 128).toNat:Int))) w=_;rw[e,nT G G];rw[show((p.toNat%128:Nat):Int)=p%128 by omega]
theorem aKk {x y:Operand} {t u:TypeId} {p:Int} (hx:ev L x=some (.int .u8 p)) (hy:ev L y=some (.int .u8 128)) (h:0<=p/\p<256):Yl P n B w0 (.binOp .andNot t x y u) ty L R (.int .u8 (p%128)):=by
 intro a w o ho _ hs _;simp[execOp,ho,binOp,eqGuard,hs.ev hx,hs.ev hy,YL p h]
theorem bIq {x y:Operand} {t u:TypeId} {p q m:Int} (k:Nat) (hx:ev L x=some (.int .u64 q)) (hy:ev L y=some (.int .u64 (p*m))) (hm:(2:Int)^k=m) (h:0<=p/\p*m+q<18446744073709551616) (hq:0<=q/\q<m):Yl P n B w0 (.binOp .or t x y u) ty L R (.int .u64 (p*m+q)):=by
 intro a w o ho _ hs _;have e:=UU (P:=P) p q k m hm h hq w
 have e2:(Op.intBits .or .u64 q (p*m)).run P w= .ok (.int .u64 (p*m+q)) w:=by
  have c:Op.intBits .or .u64 q (p*m)=Op.intBits .or .u64 (p*m) q:=by
   unfold Op.intBits;simp only[BitVec.or_comm]
  rw[c,e]
 simp[execOp,ho,binOp,eqGuard,hs.ev hx,hs.ev hy,e2]
end
end Go.Eng
namespace Go.Proofs
open Go.Shelf
def Tryz.lays126_ren:Go.Shelf.Ren:=⟨λ|126=>271|n=>n,λ|5=>5|3=>3|9=>9|n=>n,λ|n=>n⟩
theorem Tryz.lays126:Go.Proofs.Lays.n126 Tryz.prog Tryz.lays126_ren:= {
 mixed:=cA
 f126:=Tryz.func271.trans (bu some cA)
 t3:=Br
 a3:=Ha
 z3:=Fq
 v3:=Ck
 t5:=Dz
 a5:=Jv
 z5:=Jb
 v5:=Fb
 t9:=Ea
 a9:=Jw
 z9:=Jc
 v9:=Fe}
theorem Tryz.bits_Len8 (x:Int) (w:World) (h0:0<=x) (h1:x<=255):
  Calls Tryz.prog 271 #[.int .u8 x] w λe w'=>e= .returned (.int .i64 (Lib.bitLen x.toNat))/\w'=w:=Any.bits_Len8 Tryz.lays126 x w h0 h1
end Go.Proofs
namespace Go.Proofs.YtdbebmmhdefgdaaGreat
open Go Go.Eng Go.Pure
open Tryz
set_option maxRecDepth 100000
variable {w:World} {ki:AF} {qe kj:Nat} {b:AH}
theorem aLd {c:Int}:
  CF 270 #[.int .u8 c] w (λv R'=>v= .bool (decide (c<128))):=by
 refine fn1 Tryz.func270 Z Z Z ?_;refine wq<|wn Z<|wq<|wm Z<|wL Z Z<|wn Z<|bQ ?_;refine⟨_,Z,?_⟩;rfl
theorem aVo {w:World} (ie:Rd w ki qe kj 1 (ints .u8 b)) (cx:aN b) (hN:b.length<=1000000):
  CF 269 #[sl ki qe kj, .func (.func 270) #[] #[]] w (λv R'=>v=I (iZ b)):=by
 obtain rfl:=ie.lenI;refine fn1 Tryz.func269 Z Z Z ?_;have v7:=ie.max;refine wq<|wn Z<|aD<|wq<|wm Z<|wy (aL af Z)<|wm Z<|aA<|aH ?_;refine gZ (λ(i:Int)=>[(0,sl ki b.length kj),(1, .func (.func 270) #[] #[]),(7,I (b.length:Int)),(8,I i)]) (λi=>[]) (λi=>(0<=i)/\(i<=b.length)/\(∀j:Int,0<=j->j<i-> ¬rd b j<128)) (λi=>(b.length-i).toNat) ?_ ?_
 ·exact⟨0,⟨G,G,(λj h1 h2=>G)⟩,KP⟩
 intro i ⟨bb,gd,hn⟩;refine wq<|wL Z Z<|aA<|aD<|bA Z (λba=> ?_) (λba=> ?_)
 ·have sv:=cx.rd i;refine aI<|aD<|aH<|wq<|wm Z<|wn Z<|wq<|wm Z<|wm Z<|wm Z<|wy (aF af sz5 Z Z (ie.c _))<|wy (aU bn Z Z (ie.c _)) ?_;refine wa (AQ bKh Z Z (Ct.quiet (λw hw=>aLd))) ?_;rintro _ _⟨rfl,rfl⟩;refine aA<|bA Z (λcj=> ?_) (λcj=> ?_)
  ·refine wq<|wm Z<|wn Z<|bQ ?_;refine⟨_,Z,?_⟩;exact bu (Value.int .i64) (bBv bb G cF hn).symm
  ·refine aI<|aK<|wA Z Z<|wm Z<|aA ?_
   exact⟨i+1,⟨G,G,(λj h1 h2=>by
     rcases bz j i with h|h
     ·exact hn j h1 h
     ·obtain rfl:j=i:=G
      assumption)⟩,G,KP⟩
 ·refine aR<|wq<|wn Z<|bQ ?_;refine⟨_,Z,?_⟩;exact bu (Value.int .i64) (aNx λj h1 h2=>hn j h1 G).symm
theorem bCi {x:Int} (h:0<=x/\x<256):CF 271 #[.int .u8 x] w (λv R'=>v=I ((Lib.bitLen x.toNat:Nat):Int)):=λw' Mx=>(Tryz.bits_Len8 x w' h.1 G).mono (by rintro e Pn ⟨he,rfl⟩;exact⟨_,[],he,Mx,rfl⟩)
theorem bBo (ie:Rd w ki qe kj 1 (ints .u8 b)) (cx:aN b) (hN:b.length<=1000000):
  CF 227 #[sl ki qe kj] w (λv R'=>(∃(V:Int) (k:Nat),vM b V k/\v= .tuple #[.int .u64 V,I (k:Int),bt])\/((¬ ∃V k,vM b V k)/\v= .tuple #[.int .u64 0,I 0,bf])):=by
 obtain rfl:=ie.lenI;refine fn3 Tryz.func227 Z Z Z ?_;have v7:=ie.max;refine wq<|wg Z<|wg Z<|wn Z<|wq<|wm Z<|wa (aC bKi Z (Ct.quiet (λw hw=>aVo ((ie.c _) w hw) cx hN))) ?_;rintro _ _⟨rfl,rfl⟩;refine wn Z<|aD<|wq<|wm Z<|wL Z Z<|wm Z<|bV 3 [(0,sl ki b.length kj),(2, .int .u64 0),(5,I (iZ b)),(15, .bool (decide (((iZ b)<0)\/(9<(iZ b)))))] [] ?_ ?_
 ·refine bN 12 Z (λba=> ?_) (λba=> ?_)
  ·refine aM Z Z Z Z<|aM Z Z Z Z<|wy (aS Z Z)<|aA ?_;exact KP
  ·refine aB Z Z<|wm Z<|aB Z Z<|wy (dA Z Z)<|wy (aO Z Z)<|aA ?_;exact KP
 refine aA<|bA Z (λcj=> ?_) (λcj=> ?_)
 ·refine wq<|wg Z<|wg Z<|wn Z<|bQ ?_;refine⟨_,_,_,Z,Z,Z,?_⟩;exact .inr ⟨aVb cx G,Z⟩
 ·obtain ⟨e,he⟩: ∃e:Nat,iZ b=(e:Int):=⟨(iZ b).toNat,G⟩;have hef:=AA (b:=b) G;have hbe:=cx.rd (iZ b);have zr:Lib.bitLen (rd b (iZ b)).toNat<=8:=Lib.bitLen_le8 ⟨(rd b (iZ b)).toNat,G⟩;refine aI<|aD<|wq<|wm Z<|wy (dA Z Z)<|wm Z<|bV 6 [(0,sl ki b.length kj),(2, .int .u64 0),(5,I (iZ b)),(24, .bool (decide ((0<(iZ b))/\((rd b (iZ b))=0))))] [] ?_ ?_
  ·refine bN 18 Z (λfh=> ?_) (λfh=> ?_)
   ·refine aB Z Z<|wm Z<|aB Z Z<|wm Z<|aB Z Z<|wy (aF af sz5 Z Z (ie.c _))<|aB Z Z<|wy (aU bn Z Z (ie.c _))<|aB Z Z<|wy (fD Z Z)<|wy (aS Z Z)<|aA ?_;exact KP
   ·refine aM Z Z Z Z<|aM Z Z Z Z<|aM Z Z Z Z<|aM Z Z Z Z<|aM Z Z Z Z<|wy (aO Z Z)<|aA ?_;exact KP
  refine wm Z<|bV 10 [(0,sl ki b.length kj),(2, .int .u64 0),(5,I (iZ b)),(35, .bool (decide (((0<(iZ b))/\((rd b (iZ b))=0))\/(64<((7*(iZ b))+((Lib.bitLen (rd b (iZ b)).toNat:Nat):Int))))))] [] ?_ ?_
  ·refine bN 25 Z (λjj=> ?_) (λjj=> ?_)
   ·refine aM Z Z Z Z<|aM Z Z Z Z<|aM Z Z Z Z<|aM Z Z Z Z<|aM Z Z Z Z<|aM Z Z Z Z<|aM Z Z Z Z<|aM Z Z Z Z<|aM Z Z Z Z<|wy (aS Z Z)<|aA ?_;exact KP
   ·refine aB Z Z<|wm Z<|aB Z Z<|wy (jJ Z Z)<|aB Z Z<|wm Z<|aB Z Z<|wm Z<|aB Z Z<|wy (aF af sz5 Z Z (ie.c _))<|aB Z Z<|wy (aU bn Z Z (ie.c _))<|aB Z Z<|wa (aC bKg Z (Ct.quiet (λw hw=>bCi (cx.rd _)))) ?_;rintro _ _⟨rfl,rfl⟩;refine aB Z Z<|wA Z Z<|aB Z Z<|wy (dA Z Z)<|wy (aO Z Z)<|aA ?_;exact KP
  refine aA<|bA Z (λkb=> ?_) (λkb=> ?_)
  ·refine wq<|wg Z<|wg Z<|wn Z<|bQ ?_;refine⟨_,_,_,Z,Z,Z,?_⟩;exact .inr ⟨aVb cx (by first|exact .inr (.inr (kb.imp id λh=>G))|omega),Z⟩
  ·have e9:vM b (iT (b.take (e+1))) (e+1):=by
    rw[he] at kb;refine bBm cx he ?_ G;rcases ek e with z|z
    ·exact .inl z
    ·exact .inr λc=>kb (.inl ⟨G,c⟩)
   refine aI<|aD<|wq<|wm Z<|wm Z<|wA Z Z<|wy (dV af sz5 Z Z (ie.c _))<|wy (aL af Z)<|wm Z<|aA<|aH ?_;refine dI (λ(q:Nat) (x:Int)=>[(2, .int .u64 x),(5,I (iZ b)),(39,sl ki (((iZ b)+1).toNat) kj),(40,I ((((iZ b)+1).toNat:Nat):Int)),(41,I (q:Int))]) (λq x=>[]) (λq x=>(q<=e+1)/\(x=iT (b.take q))) (λq x=>(e+1-q)) ?_ ?_
   ·exact⟨0,0,⟨G,(Z)⟩,KP⟩
   intro q x ⟨hq,hx⟩;refine wq<|wL Z Z<|aA<|aD<|bA Z (λwv=> ?_) (λwv=> ?_)
   ·have hbq:=cx.rd (q:Int);have s6:rd ((b).take ((iZ b)+1).toNat) (q:Int)=rd b (q:Int):=VD G G;have hstp:=BD (b:=b) (q:=q) G;have hmn:=XL (b:=b) (q:=q+1) (e+1) G G;have hvb:=e9.1.2;have hx0:=vU (b.take q);have Ls:x<2^(7*q):=by rw[hx];exact XM q G
    have Ow:0<=rd b (q:Int)%128*2^(7*q):=Af G (vz G);have Ui:0<=rd b (q:Int)%128*2^(7*q)/\rd b (q:Int)%128*2^(7*q)<18446744073709551616:=⟨Ow,G⟩;refine aI<|aD<|aH<|wq<|wm Z<|wy (aF af sz5 Z Z (RdC.toI (h:=((iZ b)+1).toNat) (ie.c _) G))<|wy (aU bn Z Z (RdC.toI (h:=((iZ b)+1).toNat) (ie.c _) G))<|wg Z<|wn Z<|aK<|wm Z<|wm Z<|wy (aKk Z Z (by rw[s6];exact hbq)) ?_;refine wy (gW bn fe Z)<|wm Z<|wy (Yl.is (jJ Z Z) (show Value.int .i64 (7*(q:Int))=Value.int .i64 ((7*q:Nat):Int) by simp))<|wy (vO (k:=7*q) (m:=2^(7*q)) rfl rfl rfl (by rw[s6];exact Ui) (Nat.ble_eq_true_of_le G)) ?_;refine wy (bIq (p:=(rd ((b).take ((iZ b)+1).toNat) (q:Int))%128) (m:=2^(7*q)) (7*q) Z Z Z (by rw[s6];exact⟨G,G⟩) ⟨G,Ls⟩) ?_;refine wn Z<|aK<|wA Z Z<|wm Z<|aA ?_;exact⟨(q+1),(rd ((b).take ((iZ b)+1).toNat) (q:Int))%128*2^(7*q)+x,⟨G,(by rw[s6,BD G,<-hx])⟩,G,KP⟩
   ·refine aR<|wq<|wm Z<|wm Z<|wA Z Z<|wg Z<|wg Z<|wn Z<|bQ ?_;refine⟨_,_,_,Z,Z,Z,?_⟩;have eq:q=e+1:=G
    subst eq;subst hx;exact .inl ⟨_,e+1,e9,by rw[he];rfl⟩
theorem vV {w:World} {ap:AF} {bl an:Nat} {u:AH} {i:Int} (ac:Rd w ap bl an 1 (ints .u8 u)) (hi:0<=i/\i<=u.length) (hN:u.length<=1000000):
  CF 93 #[sl ap bl an,I i] w (λv R'=> ∃A c,v=sl A (u.drop i.toNat++u.take i.toNat).length c/\R'=[(ru 5 A ((u.drop i.toNat++u.take i.toNat).length) c (u.drop i.toNat++u.take i.toNat))]):=by
 obtain rfl:=ac.lenI;refine fn1 Tryz.func93 Z Z Z ?_;have kc:=ac.max;refine wq<|wn Z<|aD<|bF mixed<|wD 1 Z (aJ Z)<|wD 2 Z (aJ Z)<|wD 3 Z (dF af sz5 Z Z)<|wD 5 Z (aJ Z)<|wD 6 Z (aJ Z)<|wD 7 Z (dV af sz5 Z Z (ac.c _))<|wC 0 Z (bH .u8 [] af zs5 Z Z Z) ?_;rintro _ _⟨cy,rfl,rfl⟩;refine⟨.inr hrZ,?_⟩;refine wC 4 Z (aQ 0 Z af zb5 Z Z Z (RdC.fromI (ac.c _) G)) ?_;rintro _ _⟨en,es,rfl,rfl⟩;refine⟨.inl cA,?_⟩;refine fO (v:=sl en (0+(u.length-(i).toNat)) es) Z<|wC 8 Z (aQ 0 Z af zb5 Z Z Z (RdC.toI (ac.c _) G)) ?_;rintro _ _⟨fm,kx,rfl,rfl⟩;refine⟨.inl cA,?_⟩;refine fO (v:=sl fm ((0+(u.length-(i).toNat))+((i).toNat)) kx) Z<|wD 9 Z (bB Z)<|wN<|aT [0] 99 cC Z ?_;refine⟨_,Z,?_⟩;have e:(0+(u.length-i.toNat)+i.toNat)=(u.drop i.toNat++u.take i.toNat).length:=by rw[ah,az,ax];omega
 simp only[jd,e];exact⟨_,_,Z,Z⟩
end Go.Proofs.YtdbebmmhdefgdaaGreat
namespace Go.Pure
open Go Go.Eng
theorem TK: ∀ {a b:AH},a.length=b.length->(cmpL a b<0↔ ∃d,d<a.length/\(∀e,e<d->lt a e=lt b e)/\lt a d<lt b d)
 |[],[],_=>by simp[cmpL]
 | x::a,y::b,h=>by
  have ih:=TK (a:=a) (b:=b) (by simpa using h);rw[cmpL];rcases jk x y with c|c|c
  ·rw [di c];exact⟨λ_=>⟨0,cD,λe he=>G,c⟩,λ_=>G⟩
  ·subst c;rw[df G,df G,ih];constructor
   ·rintro ⟨d,h1,h2,h3⟩;refine⟨d+1,by simpa using h1,λe he=> ?_,h3⟩;cases e with
    |zero=>rfl
    |succ e=>exact h2 e G
   ·rintro ⟨d,h1,h2,h3⟩;cases d with
    |zero=>exact absurd h3 (by simp[lt])
    |succ d=>exact⟨d,by simpa using h1,λe he=>h2 (e+1) G,h3⟩
  ·rw [df G,di c];refine⟨λh=>G,?_⟩;rintro⟨d,h1,h2,h3⟩;cases d with
   |zero=>have:x<y:=h3;omega
   |succ d=>have:x=y:=h2 0 G;omega
section
variable {s:AH}
def rot (s:AH) (r d:Nat):Int:=om s (r+d)
def kS (s:AH) (r:Int):AH:=s.drop r.toNat++s.take r.toNat
theorem nW (s:AH) (r:Int):(kS s r).length=s.length:=by unfold kS;rw[ah,az,ax];omega
theorem mY {r d:Nat} (hr:r<=s.length) (hd:d<s.length):lt (kS s r) d=rot s r d:=by
 unfold kS lt rot om;rw[cz];rcases gm (r+d) s.length with g|g
 ·rw[ai,jl (by rw[az];omega),qz,lh g,<-ai]
 ·rw[ai,ji (by rw[az];omega),az,rf G,show(r+d)%s.length=d-(s.length-r) by rw[zi g,lh G];omega,<-ai]
theorem UZ (r:Nat):Per (rot s r) s.length:=λd=>by
 unfold rot;rw[<-mo];exact pX s _
theorem BS (r:Nat):rot s (r%s.length)=rot s r:=by
 funext d;unfold rot om;rw[Nat.mod_add_mod]
theorem YO {r q:Nat} (hn:0<s.length) (h: ∀d,d<s.length->rot s r d=rot s q d):rot s r=rot s q:=by
 funext d;rw[<-(UZ r).mod d,<-(UZ q).mod d];exact h _ (yh _ hn)
theorem aRk {r q:Nat} (hr:r<=s.length) (hq:q<=s.length):cmpL (kS s r) (kS s q)<0↔Lt (rot s r) (rot s q):=by
 rw[TK (by rw[nW,nW]),nW];constructor
 ·rintro ⟨d,h1,h2,h3⟩;refine⟨d,λe he=> ?_,?_⟩
  ·rw[<-mY hr G,<-mY hq G];exact h2 e he
  ·rw[<-mY hr h1,<-mY hq h1];exact h3
 ·rintro ⟨d,h2,h3⟩;rcases gm d s.length with g|g
  ·refine ⟨d,g,λe he=> ?_,?_⟩
   ·rw[mY hr G,mY hq G];exact h2 e he
   ·rw[mY hr g,mY hq g];exact h3
  ·exfalso;rcases ek s.length with z|z
   ·have: ∀r d,rot s r d=0:=λr d=>by
     unfold rot om;rw[dw z];rfl
    rw[this,this] at h3;omega
   ·have:=YO z λe he=>h2 e G;rw[this] at h3;omega
structure FL (s:AH) (b:Nat):Prop where
 lt:b<s.length
 le: ∀r,r<s.length-> ¬Lt (rot s r) (rot s b)
 first: ∀r,r<b->Lt (rot s b) (rot s r)
theorem FL.any {b:Nat} (h:FL s b) (r:Nat): ¬Lt (rot s r) (rot s b):=by
 rw[<-BS r];exact h.le _ (yh _ (by have:=h.lt;omega))
theorem FL.one {b c:Nat} (h:FL s b) (g:FL s c):b=c:=by
 rcases xw b c with a|a|a
 ·exact absurd (g.first b a) (h.any c)
 ·exact a
 ·exact absurd (h.first c a) (g.any b)
def iN (s:AH):Nat->Nat
 |0=>0
 |r+1=>if cmpL (kS s r) (kS s (iN s r))<0 then r else iN s r
theorem ZT: ∀n:Nat,0<n->n<=s.length->iN s n<n/\(∀r,r<n-> ¬Lt (rot s r) (rot s (iN s n)))/\ ∀r,r<iN s n->Lt (rot s (iN s n)) (rot s r)
 | 1,_,h=>by
  have e:iN s 1=0:=by
   rw[iN,iN];split<;>rfl
  rw[e];exact⟨G,λr hr=>by obtain rfl:r=0:=G;exact λh=>h.asymm h,λr hr=>G⟩
 | n +2,_,h=>by
  have ih:=ZT (n+1) G G;rw[iN];split
  ·rename_i c;rw[aRk G G] at c;refine⟨G,λr hr=> ?_,λr hr=> ?_⟩
   ·rcases gm r (n+1) with g|g
    ·exact λbp=>ih.2.1 r g (bp.trans c)
    ·obtain rfl:r=n+1:=G
     exact λh=>h.asymm h
   ·rcases wZ (rot s (n+1)) (rot s r) with a|a|a
    ·exact a
    ·exact absurd (by rw[<-funext a];exact c) (ih.2.1 r hr)
    ·exact absurd (a.trans c) (ih.2.1 r hr)
  ·rename_i c;rw[aRk G G] at c;refine⟨G,λr hr=> ?_,ih.2.2⟩;rcases gm r (n+1) with g|g
   ·exact ih.2.1 r g
   ·obtain rfl:r=n+1:=G
    exact c
def nQ (s:AH):Int:=iN s s.length
theorem yM (hn:0<s.length):FL s (iN s s.length):=by
 have h:=ZT (s:=s) s.length hn (dx _);exact⟨h.1,h.2.1,h.2.2⟩
theorem VO (s:AH):0<=nQ s/\nQ s<=s.length/\(0<s.length->nQ s<s.length):=by
 unfold nQ;rcases ek s.length with z|z
 ·rw[z];exact⟨G,by show((0:Nat):Int)<=_;omega,λh=>G⟩
 ·have:=(yM z).lt;omega
structure LA (s:AH) (b:Nat) (i j k:Int):Prop where
 i0:0<=i
 j0:0<=j
 k0:0<=k
 ne:i≠j
 agr: ∀e:Nat,(e:Int)<k->rot s i.toNat e=rot s j.toNat e
 hb:(b:Int)=i\/(b:Int)=j\/(i<b/\j<b)
theorem LA.init (b:Nat):LA s b 0 1 0:=⟨G,G,G,G,λe he=>G,G⟩
variable {b:Nat} {i j k:Int}
theorem LA.swap (h:LA s b i j k):LA s b j i k:=⟨h.j0,h.i0,h.k0,h.ne.symm,λe he=>(h.agr e he).symm,by have:=h.hb;omega⟩
theorem LA.eq (h:LA s b i j k) (he:rot s i.toNat k.toNat=rot s j.toNat k.toNat):LA s b i j (k+1):=
 ⟨h.i0,h.j0,by have:=h.k0;omega,h.ne,λe he'=>by
  rcases bz e k with g|g
  ·exact h.agr e g
  ·have:=h.k0;obtain rfl:e=k.toNat:=G
   exact he,h.hb⟩
theorem LA.out (h:LA s b i j k) (fl:FL s b) (vn:rot s j.toNat k.toNat<rot s i.toNat k.toNat): ¬(i<=b/\(b:Int)<=i+k):=λhc=>by
 have i0:=h.i0;have k0:=h.k0;obtain⟨t,ht⟩: ∃t:Nat,b=i.toNat+t:=⟨b-i.toNat,G⟩;refine fl.any (j.toNat+t) ⟨k.toNat-t,λe he=> ?_,?_⟩
 ·have:=h.agr (t+e) G;unfold rot at this ⊢;rw[ht,mo,mo];exact this.symm
 ·unfold rot at vn ⊢;rw[ht,mo,mo,show t+(k.toNat-t)=k.toNat by omega];exact vn
theorem LA.gt (h:LA s b i j k) (fl:FL s b) (vn:rot s j.toNat k.toNat<rot s i.toNat k.toNat):(i+(k+1)≠j->LA s b (i+(k+1)) j 0)/\(i+(k+1)=j->LA s b (i+(k+1)) (j+1) 0):=by
 have ho:=h.out fl vn;have hb:=h.hb;have i0:=h.i0;have j0:=h.j0;have k0:=h.k0;exact⟨λcv=>⟨G,j0,G,cv,λe he=>G,G⟩,λhe=>⟨G,G,G,G,λe he=>G,G⟩⟩
theorem LA.lt (h:LA s b i j k) (fl:FL s b) (bp:rot s i.toNat k.toNat<rot s j.toNat k.toNat):(i≠j+(k+1)->LA s b i (j+(k+1)) 0)/\(i=j+(k+1)->LA s b i (j+(k+1)+1) 0):=by
 have ho:=h.swap.out fl bp;have hb:=h.hb;have i0:=h.i0;have j0:=h.j0;have k0:=h.k0;exact⟨λcv=>⟨i0,G,G,cv,λe he=>G,G⟩,λhe=>⟨G,G,G,G,λe he=>G,G⟩⟩
theorem LA.same (h:LA s b i j k) (fl:FL s b) (hn:(s.length:Int)<=k):min i j=b:=by
 have i0:=h.i0;have j0:=h.j0;have bp:=fl.lt;have he:rot s i.toNat=rot s j.toNat:=YO G λd hd=>h.agr d G;have cv:=h.ne;have no: ∀x:Nat,x<b->rot s x≠rot s b:=λx hx e=>(fl.first x hx).not_eq λd=>by rw[e]
 rcases h.hb with e|e|⟨e1,e2⟩
 ·rcases bz j i with g|g
  ·exact absurd (by rw[show b=i.toNat by omega];exact he.symm) (no j.toNat G)
  ·omega
 ·rcases bz i j with g|g
  ·exact absurd (by rw[show b=j.toNat by omega];exact he) (no i.toNat G)
  ·omega
 ·exfalso
  have key: ∀lo hi:Nat,lo<hi->hi<b->rot s lo=rot s hi->False:=λlo hi h1 h2 e=>by
   refine no (lo+(b-hi)) G ?_;funext d;have:=congrFun e ((b-hi)+d);unfold rot at this ⊢;rw[mo,this];congr 1;omega
  rcases bz i j with g|g
  ·exact key i.toNat j.toNat G G he
  ·exact key j.toNat i.toNat G G he.symm
theorem LA.done (h:LA s b i j k) (fl:FL s b) (hc: ¬(i<s.length/\j<s.length/\k<s.length)):min i j=b:=by
 have hb:=h.hb;have bp:=fl.lt;have cv:=h.ne;by_cases hk:(s.length:Int)<=k
 ·exact h.same fl hk
 ·omega
theorem aRj {i k:Int} (i0:0<=i) (k0:0<=k):rd s ((i+k)%s.length)=rot s i.toNat k.toNat:=by
 have:=MX s (i.toNat+k.toNat);rw[show((i.toNat+k.toNat:Nat):Int)=i+k by omega] at this;exact this
end
end Go.Pure
namespace Go.Proofs.YtdbebmmhdefgdaaGreat
open Go Go.Eng Go.Pure
open Tryz
set_option maxRecDepth 100000
variable {u:AH} {w:World} {ws:AD}
theorem LA.init0:LA u (iN u u.length) 0 1 0:=LA.init _
theorem bHx {ap:AF} {bl an:Nat} (ac:Rd w ap bl an 1 (ints .u8 u)) (hN:u.length<=1000000):
  CF 190 #[sl ap bl an] w (λv R'=>v=I (nQ u)):=by
 obtain rfl:=ac.lenI;refine fn1 Tryz.func190 Z Z Z ?_;have kc:=ac.max;refine wq<|wn Z<|wq<|wm Z<|wy (aL af Z)<|wn Z<|wq<|wg Z<|wg Z<|wg Z ?_;refine aA<|aD<|aH ?_;refine gN (λ(i:Int) (j:Int) (k:Int)=>[(0,sl ap u.length an),(3,I (u.length:Int)),(4,I i),(5,I j),(6,I k)]) (λi j k=>[]) (λi j k=>(LA u (iN u u.length) i j k)/\(i<=2*u.length+2)/\(j<=2*u.length+3)/\(k<=u.length)/\(u.length=0->i=0/\j=1)) (λi j k=>(3*u.length+3-(i+j+k)).toNat) ?_ ?_
 ·exact⟨0,1,0,⟨(LA.init0),G,G,G,G⟩,KP⟩
 intro i j k ⟨As,u5,hjb,hkb,hz⟩;have bb:=As.i0;have sf:=As.j0;have ju:=As.k0;refine aD<|wq<|wm Z<|wm Z<|wL Z Z<|wm Z<|bV 4 [(0,sl ap u.length an),(3,I (u.length:Int)),(4,I i),(5,I j),(6,I k),(18, .bool (decide ((i<(u.length:Int))/\(j<(u.length:Int)))))] [] ?_ ?_
 ·refine bN 14 Z (λba=> ?_) (λba=> ?_)
  ·refine aB Z Z<|wm Z<|aB Z Z<|wm Z<|aB Z Z<|wL Z Z<|wy (aS Z Z)<|aA ?_;exact KP
  ·refine aM Z Z Z Z<|aM Z Z Z Z<|aM Z Z Z Z<|wy (aO Z Z)<|aA ?_;exact KP
 refine wm Z<|bV 4 [(0,sl ap u.length an),(3,I (u.length:Int)),(4,I i),(5,I j),(6,I k),(23, .bool (decide (((i<(u.length:Int))/\(j<(u.length:Int)))/\(k<(u.length:Int)))))] [] ?_ ?_
 ·refine bN 19 Z (λcj=> ?_) (λcj=> ?_)
  ·refine aB Z Z<|wm Z<|aB Z Z<|wm Z<|aB Z Z<|wL Z Z<|wy (aS Z Z)<|aA ?_;exact KP
  ·refine aM Z Z Z Z<|aM Z Z Z Z<|aM Z Z Z Z<|wy (aO Z Z)<|aA ?_;exact KP
 refine aA<|bA Z (λfh=> ?_) (λfh=> ?_)
 ·have mt:=jv (i+k) (show(u.length:Int)≠0 by omega);have Qd:=iy (i+k) (show(0:Int)<u.length by omega);have hm3:=jv (j+k) (show(u.length:Int)≠0 by omega);have hm4:=iy (j+k) (show(0:Int)<u.length by omega);have fl:=yM (s:=u) G;have ei:=aRj (s:=u) As.i0 As.k0;have ej:=aRj (s:=u) As.j0 As.k0;refine aI<|aH<|aD<|bF mixed<|wD 0 Z (aJ Z)<|wD 1 Z (aJ Z)<|wD 2 Z (aJ Z)<|wD 3 Z (cK Z Z)<|wD 4 Z (aJ Z)<|wD 5 Z (rR Z Z)<|wD 6 Z (aF af sz5 Z Z (ac.c _))<|wD 7 Z (aU bn Z Z (ac.c _))<|wD 8 Z (aJ Z)<|wD 9 Z (aJ Z)<|wD 10 Z (aJ Z) ?_;refine wD 11 Z (cK Z Z)<|wD 12 Z (aJ Z)<|wD 13 Z (rR Z Z)<|wD 14 Z (aF af sz5 Z Z (ac.c _))<|wD 15 Z (aU bn Z Z (ac.c _))<|wD 16 Z (bB Z)<|wD 17 Z (bB Z)<|wN<|aD<|aH<|wq<|wm Z<|wm Z<|wy (fD Z Z) ?_;refine wn Z<|bA Z (λjj=> ?_) (λjj=> ?_)
  ·have ge:=As.eq (by rw[<-ei,<-ej];exact jj);refine wq<|wm Z<|wA Z Z<|wn Z<|aR ?_;exact⟨i,j,k+1,⟨(ge),G,G,G,G⟩,G,KP⟩
  ·refine wq<|wm Z<|wm Z<|wy (dA Z Z)<|wn Z<|bA Z (λkb=> ?_) (λkb=> ?_)
   ·have ge:=As.gt fl (by rw[<-ei,<-ej];exact kb);refine aK<|wm Z<|wm Z<|wA Z Z<|wA Z Z<|wn Z<|wq<|wn Z<|wq<|wm Z<|wm Z ?_;refine wy (fD Z Z)<|aA<|bA Z (λwv=> ?_) (λwv=> ?_)
    ·refine aK<|wm Z<|wA Z Z<|wn Z ?_;exact⟨i+(k+1),j+1,0,⟨(ge.2 G),G,G,G,G⟩,G,KP⟩
    ·refine aI ?_;exact⟨i+(k+1),j,0,⟨(ge.1 G),G,G,G,G⟩,G,KP⟩
   ·have ge:=As.lt fl (by rw[<-ei,<-ej];omega);refine aK<|wm Z<|wm Z<|wA Z Z<|wA Z Z<|wn Z<|wq<|wn Z<|wq<|wm Z<|wm Z ?_;refine wy (fD Z Z)<|aA<|bA Z (λCl=> ?_) (λCl=> ?_)
    ·refine aK<|wm Z<|wA Z Z<|wn Z ?_;exact⟨i,(j+(k+1))+1,0,⟨(ge.2 G),G,G,G,G⟩,G,KP⟩
    ·refine aI ?_;exact⟨i,j+(k+1),0,⟨(ge.1 G),G,G,G,G⟩,G,KP⟩
 ·refine aR<|wq<|wm Z<|wm Z<|wy (sW Z Z)<|wn Z<|bQ ?_;refine⟨_,Z,?_⟩;rcases ek u.length with z|z
  ·obtain ⟨rfl,rfl⟩:=hz z;have e:nQ u=0:=by unfold nQ;rw[z];rfl
   rw[e];rfl
  ·exact bu (Value.int .i64) (As.done (yM z) G)
theorem aVa {m:Int} (h0:0<=m) (hN:m<=1000000):
  CF 70 #[sl none 0 0,I m] w (λv R'=> ∃A c,v=sl A 0 c/\R'=[(ru 5 A 0 c ([]))]):=by
 refine fn1 Tryz.func70 Z Z Z ?_;refine wq<|bT (R1:=[(ru 5 none 0 0 ([]))]) (Sub.refl _) (λ_ h=>h.nil 5 1)<|wn Z<|aD<|wq<|wm Z<|wy (Yl.f (eZ Z Z))<|aA<|aP Z<|aI<|aD<|aD ?_;refine aK<|wm Z<|wm Z<|wy (bDn af Z)<|wm Z<|wy (aL af Z)<|wS Z Z<|wS Z Z<|wn Z<|wq<|wm Z<|wy (dA Z Z)<|aA ?_;refine bA Z (λba=> ?_) (λba=> ?_)
 ·refine aK<|wm Z<|wm Z<|wy (bDn af Z)<|wy (XG af sz5 Z Z)<|wy (Yl.is (aJ Z) (by rw[show m-(((0:Nat):Int)-((0:Nat):Int))=(m.toNat:Int) by omega])) ?_;refine wa (bDa af au zb5 Z Z Z G G G) ?_;rintro _ _⟨aq,ce,rfl,rfl⟩;refine bT (R1:=[(ru 5 (GG aq) 0 ce ([])),(ru 5 none 0 0 ([]))]) (Sub.refl _) (λ_ h=>h.cut (k:=0) (qg _) cD) ?_;refine wm Z<|wy (aL af Z)<|wy (XG af sz5 Z Z)<|wn Z<|wq<|wm Z<|wn Z<|aT [0] 99 cC Z ?_;exact⟨_,Z,_,_,Z,Z⟩
 ·refine aI<|wq<|wm Z<|wn Z<|aT [0] 99 cC Z ?_;exact⟨_,Z,_,_,Z,Z⟩
theorem KA (i:Nat):((ws.take i).flatten).length<=ws.flatten.length:=by
 conv=>rhs;rw[<-gy i ws]
 rw[lq,ah];omega
theorem iO {ar:AF} {bo aw:Nat} {al:AG} (ao:Rd w ar bo aw 1 al) (bh:SlW .u8 w al ws) (hN:ws.flatten.length<=1000000/\ws.length<=1000000):
  CF 38 #[sl ar bo aw] w (λv R'=> ∃A c,v=sl A (ws.flatten).length c/\R'=[(ru 5 A ((ws.flatten).length) c (ws.flatten))]):=by
 obtain rfl:bo=ws.length:=by have:=ao.len;have:=bh.1;omega
 refine fn1 Tryz.func38 Z Z Z ?_;have kh:=ao.max;refine wq<|wn Z<|wq<|wn Z<|aD<|wq<|wm Z<|wy (aL ay Z)<|wm Z<|aA ?_;refine aH ?_;refine dI (λ(i:Int) (z:Int)=>[(0,sl ar ws.length aw),(3,I z),(9,sl ar ws.length aw),(10,I (ws.length:Int)),(11,I i)]) (λi z=>[]) (λi z=>(0<=i)/\(i<=ws.length)/\(z=((ws.take i.toNat).flatten.length:Int))) (λi z=>(ws.length-i).toNat) ?_ ?_
 ·exact⟨0,0,⟨G,G,(Z)⟩,KP⟩
 intro i z ⟨bb,gd,hz⟩;have tx:=KA (ws:=ws) i.toNat;refine wq<|wL Z Z<|aA<|aD<|bA Z (λba=> ?_) (λba=> ?_)
 ·have Oe:=KA (ws:=ws) (i+1).toNat;rw[fC bb G,ah] at Oe;refine aI<|aD<|aH<|wq<|wy (aF ay dH Z Z (ao.c _)) ?_;refine bh.elim (i:=i) G G (λcg ce py ub xt tk=> ?_);refine wy (lC af Z Z Z (ao.c _) py)<|wn Z<|wq<|wm Z<|wm Z<|wy (aL af Z)<|wA Z Z<|wn Z<|wq<|wm Z<|wy (Yl.f (eZ Z Z)) ?_;refine aA<|aP Z<|aI<|aK<|wA Z Z<|wm Z<|aA ?_;exact⟨i+1,z+(((rdl ws i).length:Nat):Int),⟨G,G,(by rw[fC bb G,ah,hz];omega)⟩,G,KP⟩
 ·refine aR<|wq<|wm Z<|wa (aC bOh Z (Ct.fresh (λw hw=>aVa G G))) ?_;rintro _ _⟨_,rfl,gn,mj,rfl,rfl⟩;refine wn Z<|aD<|wq<|wm Z<|wy (aL ay Z)<|wm Z<|aA<|aH ?_;refine eH (λ(q:Int) (A1:AF) (n1:Nat) (c1:Nat) (acc:AH)=>[(6,sl A1 n1 c1),(25,sl ar ws.length aw),(26,I (ws.length:Int)),(27,I q)]) (λq A1 n1 c1 acc=>[(ru 5 A1 n1 c1 acc)]) (λq A1 n1 c1 acc=>(0<=q)/\(q<=ws.length)/\(n1=acc.length)/\(acc=(ws.take q.toNat).flatten)) (λq A1 n1 c1 acc=>(ws.length-q).toNat) ?_ ?_
  ·exact⟨0,gn,0,mj,[],⟨G,G,(Z),(Z)⟩,KP⟩
  intro q A1 n1 c1 acc ⟨js,xa,cm,bc⟩;have qt:acc.length<=ws.flatten.length:=by rw[bc];exact KA _
  refine wq<|wL Z Z<|aA<|aD<|bA Z (λcj=> ?_) (λcj=> ?_)
  ·have Oe:=KA (ws:=ws) (q+1).toNat;rw[fC js G,ah] at Oe;refine aI<|aD<|aH<|wq<|wy (aF ay dH Z Z (ao.c _)) ?_;refine bh.elim (i:=q) G G (λkd mu Um Tv hb_12 mhr_11=> ?_);refine wy (lC af Z Z Z (ao.c _) Um)<|wn Z<|aK<|wm Z<|wm Z<|wa (aQ 0 Z af zb5 Z Z Z (Tv.c _)) ?_;rintro _ _⟨fa,fc,rfl,rfl⟩;refine bC (v:=sl fa (n1+((rdl ws q).length)) fc) Z<|wn Z<|aK<|wA Z Z<|wm Z<|aA ?_;exact⟨q+1,fa,n1+((rdl ws q).length),fc,acc++(rdl ws q),⟨G,G,(by rw[ah,cm]),(by rw[fC js G,bc])⟩,G,KP⟩
  ·refine aR<|wq<|wm Z<|wn Z<|aT [0] 99 cC Z ?_;refine⟨_,Z,?_⟩;rw[bi G] at bc;subst bc;obtain rfl:=cm;exact⟨_,_,Z,Z⟩
end Go.Proofs.YtdbebmmhdefgdaaGreat
namespace Go.Eng
open Go Go.RowKit Go.Proofs Go.Sort
theorem aAf {W w':World} (hb:Below W.heap.size W w') (hd:W.drawn<=w'.drawn): ∃q os,w'=grow (W.drewN q) os:=by
 refine⟨w'.drawn-W.drawn,w'.heap.extract W.heap.size w'.heap.size,?_⟩
 have hh:W.heap++w'.heap.extract W.heap.size w'.heap.size=w'.heap:=by
  apply Array.ext_getElem?;intro k;rw[Bc];split
  ·rename_i hk;exact(hb.block k hk).symm
  ·rename_i hk;have:=hb.size;rw[Array.getElem?_extract];split
   ·congr 1;omega
   ·rename_i h2;rw[Cy G]
 obtain⟨h1,h2,h3,h4,h5⟩:=w';obtain⟨g1,g2,g3,g4,g5⟩:=W;have b1:=hb.os;have b2:=hb.tape;have b3:=hb.output;simp only at b1 b2 b3 hh hd;subst b1;subst b2;subst b3;simp only[grow,World.drewN,hh,World.mk.injEq,Ak,Aj];omega
section
variable {P:Program} {B:Nat} {w0:World} {R:List Row}
def aKf (P:Program) (f g:Nat) (cb:Array Value):Prop:=
 ∀(α:Type) [Inhabited α] (enc:α->AG) (_: ∀x,(enc x).length=2) (_: ∀x,∀v∈enc x,v.oneCell'=true) (cf:α->α->Int) (_:SWO (ltOf cf)) (go off cap:Nat) (d:Array α) (w:World)
  (_:CmpLays P g cb enc 2 cf go off d.size w) (_:HoldsK enc 2 w go off d) (_:go<w.heap.size) (_:d.size<4611686018427387904),
  Calls P f #[.slice (some ⟨go,off,none⟩) d.size cap, .func (.func g) #[] cb] w λe w'=>e= .returned (.tuple #[])/\ ∃d' n os,PermIn 0 d.size d d'/\SortedIn (ltOf cf) 0 d.size d'/\w'=sortWorldK enc 2 w go off n d' os
theorem Hp.but {w W:World} (h:Hp B w0 w R) {i:Nat} {r:Row} (hi:R[i]? =some r) (ho:W.os=w.os) (ht:W.tape=w.tape) (hu:W.output=w.output) (hd:w.drawn<=W.drawn) (hs:w.heap.size<=W.heap.size)
  (hk: ∀k,k<w.heap.size->(∀a,r.A=some a->a.block≠k)->W.heap[k]? =w.heap[k]?):Hp B w0 W (R.eraseIdx i):=by
 have hr:r∈R:=gu hi;refine⟨⟨ho.trans h.below.os,ht.trans h.below.tape,hu.trans h.below.output,qy h.below.size hs,λk hkB=> ?_⟩,qy h.base hs,λq hq=> ?_,h.apart.sublist (List.eraseIdx_sublist _ _),h.late.trans ⟨hd,λk o ov hc=> ?_⟩⟩
 ·rw[hk k (Nat.lt_of_lt_of_le hkB h.base) (λa ha=>by have:=(Row.lies_lt (h.own r hr) a ha).1;omega),h.below.block k hkB]
 ·obtain ⟨j,hj⟩:=List.mem_iff_getElem?.1 hq
  obtain⟨j',xi,cv⟩: ∃j',R[j']? =some q/\j'≠i:=by
   rw[List.getElem?_eraseIdx] at hj;split at hj
   ·exact⟨j,hj,G⟩
   ·exact⟨j+1,hj,G⟩
  refine Row.lies_of_block (h.own q (gu xi)) λa ha=>hk a.block (Row.lies_lt (h.own q (gu xi)) a ha).2 λa' np=> ?_;have s5:=(fw.1 xi).1;have Te:=(fw.1 xi).2;have hil:=(fw.1 hi).1;have i4:=(fw.1 hi).2;rcases Co cv with bp|bp
  ·have:=ed.1 h.apart j' i s5 hil bp;rw[Te,i4] at this;exact λe=>this a a' ha np e.symm
  ·have:=ed.1 h.apart i j' hil s5 bp;rw[Te,i4] at this;exact this a' a np ha
 ·rw [hk k (gp.1 ov).1 λa ha e=> ?_]
  ·exact ov
  ·subst e;obtain⟨cs,e',fr,cj⟩:=Row.lies_cells (h.own r hr) ha;rw[cj] at ov;cases ov;cases hc
theorem aDk {f g:Nat} {cb:Array Value} (Xx:aKf P f g cb) {T m c:Nat} {A:AF} {l:AE} (i:Nat) (hi:R[i]? =some ⟨T,2,A,m,c,prs l,false⟩) (cv:l≠[]) (hsz:l.length<4611686018427387904) (cmp:Int × Int->Int × Int->Int) (hO:SWO (ltOf cmp))
  (Nz: ∀W,Hp B w0 W (R.eraseIdx i)-> ∀x∈l,∀y∈l,
   Ct P g (#[.agg #[.int .i64 x.1, .int .i64 x.2], .agg #[.int .i64 y.1, .int .i64 y.2]]++cb) W.heap.size W [] (λv _=>v= .int .i64 (cmp x y))):
  Ct P f #[.slice A m c, .func (.func g) #[] cb] B w0 R (λv R'=>v= .tuple #[]/\ ∃l',l'.Perm l/\l'.Pairwise (λx y=> ¬cmp y x<0)/\R'=R.set i ⟨T,2,A,m,c,prs l',false⟩):=by
 intro w hw;have ij:=Row.lies_w (hw.own _ (gu hi)) rfl;have gr:=Row.rd (hw.own _ (gu hi))
 have hm:m=l.length:=by
  have:=gr.len;rw[jK] at this;simp only at this;omega
 have ff:0<l.length:=List.length_pos_iff.2 cv;rcases ij.2 with⟨_,hn⟩|⟨go,cap,cur,hv,hb,hg,hnc,tc,ke,ht⟩
 ·simp only at hn;omega
 simp only[ku,Ak] at hv;obtain⟨rfl,rfl⟩:=hv;simp only at ht ke hg hnc
 haveI:Inhabited {p:Int × Int//p∈l}:=⟨⟨l[0],mg _⟩⟩
 let d:Array {p:Int × Int//p∈l}:=l.attach.toArray
 have d8:d.size=l.length:=by simp[d]
 have Sy:d.toList.map Subtype.val=l:=Fh l;have bp:go<w.heap.size:=(gp.1 hg).1
 have hH:HoldsK encP 2 w go 0 d:=by
  intro j hj
  have xi:j<l.length*2:=by
   have:j<(flatK encP 2 d).size:=hj;rw[size_flatK,d8] at this;exact this
  have hf:=SY d;rw[Sy] at hf
  have e:(prs l)[j]? =some ((flatK encP 2 d)[j]!):=by
   rw[<-hf,si,qb hj,uo _ j hj]
  refine⟨?_,?_⟩
  ·rw [og];exact hw.cellAt i hi rfl e
  ·exact hw.openAt i (0+j) hi rfl rfl
 have xv:CmpLays P g cb (encP (l:=l)) 2 (λx y=>cmp x.1 y.1) go 0 d.size w:=by
  intro m' os dk Su x y
  have hW:w.heap.size<=(sortWorldK (encP (l:=l)) 2 w go 0 m' dk os).heap.size:=by
   unfold sortWorldK;rw[size_grow];unfold putRowK;rw[Go.Sort.size_putRow];exact Bo _ _
  have hk: ∀k,k<w.heap.size->(∀a:Addr,some (⟨go,0,none⟩:Addr)=some a->a.block≠k)->(sortWorldK (encP (l:=l)) 2 w go 0 m' dk os).heap[k]? =w.heap[k]? :=by
   intro k hk cv;have Cd:go≠k:=cv _ rfl;unfold sortWorldK;rw[heap_grow_old _ _ (by unfold putRowK;rw[Go.Sort.size_putRow];exact hk)];simp[putRowK,putRow,mapBlock,vw,Cd,Sort.ahead]
  refine(Nz _ (hw.but (W:=sortWorldK (encP (l:=l)) 2 w go 0 m' dk os) hi rfl rfl rfl (by show w.drawn<=w.drawn+m';omega) hW hk) x.1 x.2 y.1 y.2 _ (Hp.refl _)).mono ?_;rintro e w' ⟨v,R',rfl,hh,rfl⟩;exact⟨rfl,aAf hh.below hh.late.1⟩
 have Xu:SWO (ltOf λ(x y: {p:Int × Int//p∈l})=>cmp x.1 y.1):=⟨λx=>hO.irrefl x.1,λx y z=>hO.trans x.1 y.1 z.1,λx y z=>hO.ntrans x.1 y.1 z.1⟩;have d7:=Xx _ encP (λ_=>rfl) (λx v hv=>by simp[encP] at hv;rcases hv with rfl|rfl<;>rfl) _ Xu go 0 c d w xv hH bp (by rw[d8];exact hsz);rw[d8,<-hm] at d7;refine d7.mono ?_;rintro e w' ⟨rfl,d',n,os,⟨fj,_,sg⟩,Hc,rfl⟩;have Cp:d'.size=l.length:=by rw[fj,d8]
 refine⟨_,_,rfl,?_,rfl,d'.toList.map Subtype.val,?_,?_,rfl⟩
 ·have Ek:(sortWorldK encP 2 w go 0 n d' os).heap[go]? =some (.cells (putCells id 0 (flatK encP 2 d') cur) T (0,0)):=by
   unfold sortWorldK;rw[heap_grow_old _ _ (by unfold putRowK;rw[Go.Sort.size_putRow];exact bp)];simp[putRowK,putRow,mapBlock,vw,Sort.ahead,hg,onCells]
  refine hw.upd hi (row:=some go) ⟨rfl,rfl,rfl,?_,λk hk cv=> ?_⟩ ?_ (λk hk=> ?_) ?_ (λa' np=> .inl ⟨a',np,rfl⟩)
  ·unfold sortWorldK;rw[size_grow];unfold putRowK;rw[Go.Sort.size_putRow];exact Bo _ _
  ·have Cd:go≠k:=λe=>cv (by rw[e]);unfold sortWorldK;rw[heap_grow_old _ _ (by unfold putRowK;rw[Go.Sort.size_putRow];exact hk)];simp[putRowK,putRow,mapBlock,vw,Cd,Sort.ahead]
  ·show w.drawn<=w.drawn+n;omega
  ·obtain rfl:=je hk;exact⟨_,rfl,rfl⟩
  ·unfold Row.lies;simp only;refine⟨by rw[jK,bq,jy,Cp,hm], .inr ⟨go,c,_,rfl,hb,Ek,hnc,tc,?_,?_⟩⟩
   ·simp only[putCells,Array.size_mapIdx];exact ke
   ·have hf:=SY d';rw[<-hf];have Mh:(flatK encP 2 d').size=m*2:=by rw[size_flatK,Cp,hm]
    apply ul;intro t;rw[ou];split
    ·rename_i yv
     have Wg:t<cur.size:=by
      have:m*2<=c*2:=ut _ hnc;omega
     rw[si,si,qb (by simp[putCells];exact Wg),qb (by rw[Mh];exact yv)];simp only[putCells,Array.getElem_mapIdx,id];rw[di ⟨qg _,by rw[og,Mh];exact yv⟩,yz,uo _ t (by rw[Mh];exact yv)]
    ·rename_i yv;rw[lu (by rw[jy,Mh];omega)]
 ·have e1:(d'.extract 0 m).toList=d'.toList:=by rw[show m=d'.size by omega];simp
  have e2:(d.extract 0 m).toList=d.toList:=by rw[show m=d.size by omega];simp
  rw[e1,e2] at sg;have:=sg.map Subtype.val;rwa[Sy] at this
 ·refine ik.2 (ed.2 λa b ha u4 vj=> ?_);rw[jy] at ha u4;have h1:=Hc a b (qg _) vj G;rw[uo d' a ha,uo d' b u4] at h1;simp only[ltOf,uq] at h1;simpa using h1
end
end Go.Eng
namespace Go.Eng
open Go Go.RowKit
section
variable {B:Nat} {w0 w w':World} {R R':List Row}
theorem Hp.allocObj (h:Hp B w0 w R) (o:Obj):Hp B w0 (w.alloc o) R:=
 h.join (Rn:=[]) ⟨(Fu _ _).alloc (dx _) _,cD,λ_ hr=>(by cases hr), .nil,Late.alloc _ _⟩
theorem Hp.putObj (h:Hp B w0 w R) {l:Nat} {o:Obj} (ho:w.heap[l]? =some o) (hn:ZN o=true) (o':Obj) (hB:B<=l) (h0:w0.heap.size<=l):Hp B w0 (w.putObj l o') R:=by
 refine⟨h.below.trans ((Fu _ _).grown (grownBy_putObj' w l o') h.base λk e=>by cases e;exact hB),by rw[World.putObj_size];exact h.base,λr hr=> ?_,h.apart,⟨h.late.1,λk q hk hc=> ?_⟩⟩
 ·refine Row.lies_of_block (h.own r hr) λa ha=>World.putObj_heap_other λe=> ?_;obtain⟨cs,e',fr,hc⟩:=Row.lies_cells (h.own r hr) ha;rw[e,ho] at hc;cases hc;cases hn
 ·rw [World.putObj_heap_other (λe=>by have:=(gp.1 hk).1;omega)];exact h.late.2 k q hk hc
theorem Hp.rebase (h:Hp B w0 w R):Hp B w w R:=⟨Fu _ _,h.base,h.own,h.apart,Late.refl _⟩
theorem Hp.comp (h:Hp B w0 w R) (h':Hp B w w' R'):Hp B w0 w' R':=⟨h.below.trans h'.below,h'.base,h'.own,h'.apart,h.late.trans h'.late⟩
theorem Rd.cb {W:World} {A:AF} {n c sz:Nat} {xs:AG} (h:Rd w A n c sz xs) (hb:Below w.heap.size w W) (R:List Row):RdC w.heap.size W R A n c sz xs:=
 λ_ hw=>h.below (hb.trans hw.below)
end
def mark (D:Nat):Deferred:= {target:= .collected D,args:= #[]}
section
variable {P:Program} {n:Nd} {B:Nat} {w0 w00:World} {F:Exit->Act->World->Prop} {L:Env} {R:List Row}
def V (P:Program) (n:Nd) (B:Nat) (w0:World) (c:Code) (F:Exit->Act->World->Prop) (L:Env) (R:List Row):Prop:=
 ∀a w,Sat n L a->Hp B w0 w R->c.wpIn (NF n.rd) 0 P F a w
def FQ (F:Exit->Act->World->Prop) (n:Nd) (B:Nat) (w0:World):fK:=
 ⟨λL R=> ∀a w,Sat n L a->Hp B w0 w R->F .normal a w,λL R=> ∀a w,Sat n L a->Hp B w0 w R->F .ret a w,λi L R=> ∀a w,Sat n L a->Hp B w0 w R->F (.exit i) a w⟩
theorem v_w {c:Code} (h:W P n B w0 c (FQ F n B w0) L R):V P n B w0 c F L R:=λa w hs hp=>by
 refine Bb (h a w hs hp) λe a' w' hq=> ?_;cases e with
 |normal=>obtain⟨L',R',fj,da,hf⟩:=hq;exact hf a' w' fj da
 |ret=>obtain⟨L',R',fj,da,hf⟩:=hq;exact hf a' w' fj da
 |exit i=>obtain⟨L',R',fj,da,hf⟩:=hq;exact hf a' w' fj da
 |goto l=>exact hq.elim
 |panic ch=>exact hq.elim
 |outgrown=>exact hq.elim
theorem eP {x y:Code} (h:W P n B w0 x {FQ F n B w0 with nrm:=λL R=>V P n B w0 y F L R} L R):V P n B w0 (.seq x y) F L R:=λa w hs hp=>by
 refine wpIn_seq (Bb (h a w hs hp) λe a' w' hq=> ?_);cases e with
 |normal=>obtain⟨L',R',fj,da,hf⟩:=hq;exact hf a' w' fj da
 |ret=>obtain⟨L',R',fj,da,hf⟩:=hq;exact hf a' w' fj da
 |exit i=>obtain⟨L',R',fj,da,hf⟩:=hq;exact hf a' w' fj da
 |goto l=>exact hq.elim
 |panic ch=>exact hq.elim
 |outgrown=>exact hq.elim
theorem XN {x y:Code} (h:V P n B w0 x (Exit.then (y.wpIn (NF n.rd) 0 P F) F) L R):V P n B w0 (.seq x y) F L R:=λa w hs hp=>wpIn_seq (h a w hs hp)
def VN (n:Nd) (B:Nat) (w0:World) (F:Exit->Act->World->Prop) (L:Env) (R:List Row):Prop:= ∀a w,Sat n L a->Hp B w0 w R->F .normal a w
theorem aQf {y:Code} {rd:Option Nat} (h:V P n B w0 y F L R) (gr:n.rd=rd:=by exact rfl):VN n B w0 (Exit.then (y.wpIn (NF rd) 0 P F) F) L R:=λa w hs hp=>by subst gr;exact h a w hs hp
theorem XO {id:Nat} (h:VN n B w0 F L R):VN n B w0 (Exit.inBlock id F) L R:=h
theorem BF {id:Nat} {c:Code} (h:V P n B w0 c (Exit.inBlock id F) L R):V P n B w0 (.block id c) F L R:=λa w hs hp=>wpIn_block (h a w hs hp)
def prm:List Nat->AG->Env->Env
 |p::ps,v::vs,L=>prm ps vs ((p,v)::L)
 |_,_,L=>L
theorem Sat.prm: ∀(pl:List Nat) (vs:AG) {m:Nat} {ds:List Deferred} {rd:Option Nat} {L:Env} {t:Array Value},pl.all (λp=>Nat.blt p m)=true->Sat ⟨m,ds,rd⟩ L {tmps:=t,defers:=ds}->
  Sat ⟨m,ds,rd⟩ (prm pl vs L) {tmps:=(pl.zip vs).foldl (λt (p,v)=>t.setIfInBounds p v) t,defers:=ds}
 |[],_,_,_,_,_,_,_,h=>h
 |_::_,[],_,_,_,_,_,_,h=>h
 |p::pl,v::vs,m,ds,rd,L,t,hp,h=>by
  simp only[Ec,qi] at hp;have h1:Sat ⟨m,ds,rd⟩ ((p,v)::L) {tmps:=t.setIfInBounds p v,defers:=ds}:=h.put (d:=p) hp.1 v;exact Sat.prm pl vs hp.2 h1
def Iter (P:Program) (gf:Nat) (lb:Array Value) (rg:World->Prop) (N:Nat) (f:Nat->AG):Prop:=
 ∀(l:Nat) (J:Nat->World->Prop) (W:World),(∀k W,J k W->rg W)->(∀k W (d:Nat),J k W->W.drawn<=d->J k {W with drawn:=d})->
  (∀k W,k<N->J k W->YieldAt Fence.wide 0 P l (f k).toArray W λe W'=>e= .returned (.bool true)/\J (k+1) W')->
  J 0 W->CallsIn Fence.wide 0 P gf (#[.func (.yield l) #[] #[]]++lb) W λe W'=>(∃v,e= .returned v)/\J N W'
structure Gd (B:Nat) (w00:World) (n:Nd) (w0:World):Prop where
 below:Below B w00 w0
 late:Late w00 w0
 nodup:n.ds.Nodup
 marks: ∀d∈n.ds,∃D,d=mark D/\B<=D/\w00.heap.size<=D/\w0.heap[D]? =some (.deferred (some []))
theorem Gd.refl {m:Nat}:Gd B w00 (m:Nd) w00:=⟨Fu _ _,Late.refl _, .nil,λ_ h=>(by cases h)⟩
theorem rounds {σ:Type} {m:Nat} {pl:List Nat} {assign body:Code} {gf:Nat} {lb:Array Value} {rg:World->Prop} {N:Nat} {f:Nat->AG} (it:Iter P gf lb rg N f)
  (sk:pl.all (λp=>Nat.blt p m)=true) (tx: ∀k,(f k).length=pl.length) (Rx:Nat->σ->List Row) (J:Nat->σ->Prop) (pv: ∀k s w,J k s->Hp B w0 w (Rx k s)->rg w)
  (round: ∀l k s W2,k<N->J k s->Below B w0 W2->W P ⟨m,[],some l⟩ B W2 assign ⟨λL' R'=> ∀W3,Below B w0 W3->W P ⟨m,[],some l⟩ B W3 body ⟨λ_ wc=> ∃s',J (k+1) s'/\ ∀W4 w,Hp B W4 w wc->Hp B W4 w (Rx (k+1) s'),λ_ _=>False,λ_ _ _=>False⟩ L' R',λ_ _=>False,λ_ _ _=>False⟩ (prm pl (f k) L) (Rx k s))
  {l:Nat} {rec:LoopState->Loop} {fn:FuncId} {t:Array Value} {Df:Nat} (kf:rec=λst=> {state:=st,pending:=none,fn,tmps:=t,params:=pl.toArray,assign,body,defers:=Df}) (ht:Sat ⟨m,[],some l⟩ L {tmps:=t,defers:=[]}) (Tf:B<=l) (u6:w0.heap.size<=l) (X:World->Prop)
  (hX: ∀W W' R R',X W->Hp B w0 W R->Hp B W W' R'->X W') (Sg: ∀W o,X W->X (W.putObj l o)) {W1:World} (An:W1.heap[l]? =some (.loop (rec .ready))) (Xy:X W1) {s0:σ} (z8:J 0 s0) (qv:Hp B w0 W1 (Rx 0 s0)):
  CallsIn Fence.wide 0 P gf (#[.func (.yield l) #[] #[]]++lb) W1 λe W'=>(∃v,e= .returned v)/\ ∃s,J N s/\Hp B w0 W' (Rx N s)/\W'.heap[l]? =some (.loop (rec .ready))/\X W':=by
 refine it l (λk W=> ∃s,J k s/\Hp B w0 W (Rx k s)/\W.heap[l]? =some (.loop (rec .ready))/\X W) W1 (λk W ⟨s,hJ,hp,_⟩=>pv k s W hJ hp) (λk W d ⟨s,hJ,hp,hl,hx⟩ hd=>⟨s,hJ,hp.drawn d hd,hl,hX _ _ _ _ hx hp (hp.rebase.drawn d hd)⟩) ?_ ⟨s0,z8,qv,An,Xy⟩;rintro k W hk ⟨s,hJ,hp,hl,hx⟩;have hy:=run_yield (P:=P) (args:=(f k).toArray) hl (by rw[kf];simp[tx k])
 have vq:Sat ⟨m,[],some l⟩ (prm pl (f k) L) {tmps:=(rec .ready).params.zip (f k).toArray|>.foldl (λt (p,v)=>t.setIfInBounds p v) (rec .ready).tmps,defers:=[]}:=by
  rw[kf];simpa using Sat.prm pl (f k) sk ht
 refine⟨fn,_,assign,body,by rw[hy,kf],roundIn_of_wpIn trivial ?_⟩;refine Bb ((round l k s W hk hJ hp.below) _ _ (by rw[kf] at vq;exact vq) hp.rebase) ?_;rintro e a1 Wa hq;cases e with
 | normal=>
  obtain⟨L',R',fj,da,hb⟩:=hq;have Fd:=da.late.2 _ _ hl rfl;have vf:=hp.comp da;have bp:=(gp.1 Fd).1;have Yg:=run_beginRound (P:=P) Fd (by rw[kf]);refine⟨_,Yg,?_⟩;have pe:Hp B w0 (Wa.putObj l (.loop {rec .ready with state:= .busy})) R':=vf.putObj Fd rfl _ Tf u6;have un:(Wa.putObj l (.loop {rec .ready with state:= .busy})).heap[l]? =some (.loop {rec .ready with state:= .busy}):=World.putObj_heap_same bp;have hx2:=Sg _ (.loop {rec .ready with state:= .busy}) (hX _ _ _ _ hx hp da);refine Bb (hb _ pe.below a1 _ fj pe.rebase) ?_;rintro e a3 W3 hq;cases e with
  | normal=>
   obtain⟨L3,R3,_,wx,s',Xo,Lz⟩:=hq;have a6:=wx.late.2 _ _ un rfl;have Yp:=run_endRound (P:=P) none a6;refine⟨_,_,Yp,rfl,s',Xo,?_,?_,?_⟩
   ·exact(pe.comp (Lz _ _ wx)).putObj a6 rfl _ Tf u6
   ·rw [World.putObj_heap_same (gp.1 a6).1,kf];rfl
   ·exact Sg _ _ (hX _ _ _ _ hx2 pe wx)
  |ret=>obtain⟨_,_,_,_,h⟩:=hq;exact h.elim
  |exit id=>obtain⟨_,_,_,_,h⟩:=hq;exact h.elim
  |goto t=>exact hq.elim
  |panic ch=>exact hq.elim
  |outgrown=>exact hq.elim
 |ret=>obtain⟨_,_,_,_,h⟩:=hq;exact h.elim
 |exit id=>obtain⟨_,_,_,_,h⟩:=hq;exact h.elim
 |goto t=>exact hq.elim
 |panic ch=>exact hq.elim
 |outgrown=>exact hq.elim
theorem aHj {σ:Type} {m:Nat} {ds:List Deferred} {g:Operand} {pl:List Nat} {assign body:Code} {gf:Nat} {lb:Array Value} {rg:World->Prop} {N:Nat} {f:Nat->AG} (hg:ev L g=some (.func (.func gf) #[] lb))
  (r7: ∀args w,(callFunc gf args).run P w= .ok (.enter gf args) w) (it:Iter P gf lb rg N f)
  (sk:pl.all (λp=>Nat.blt p m)=true) (tx: ∀k,(f k).length=pl.length) (hG:Gd B w00 ⟨m,ds,none⟩ w0) (Rx:Nat->σ->List Row) (J:Nat->σ->Prop) (h0: ∃s,J 0 s/\ ∀w,Hp B w0 w R->Hp B w0 w (Rx 0 s)) (pv: ∀k s w,J k s->Hp B w0 w (Rx k s)->rg w)
  (round: ∀l k s W2,k<N->J k s->Below B w0 W2->W P ⟨m,[],some l⟩ B W2 assign ⟨λL' R'=> ∀W3,Below B w0 W3->W P ⟨m,[],some l⟩ B W3 body ⟨λ_ wc=> ∃s',J (k+1) s'/\ ∀W4 w,Hp B W4 w wc->Hp B W4 w (Rx (k+1) s'),λ_ _=>False,λ_ _ _=>False⟩ L' R',λ_ _=>False,λ_ _ _=>False⟩ (prm pl (f k) L) (Rx k s))
  (after: ∀W5 D s,J N s->Below B w0 W5->Gd B w00 ⟨m,mark D::ds,none⟩ W5->VN ⟨m,mark D::ds,none⟩ B W5 F L (Rx N s)):
  V P ⟨m,ds,none⟩ B w0 (.rangeFunc g pl.toArray assign body) F L R:=by
 intro a w hs hp;refine wpIn_rangeFunc ?_;intro fn _;obtain⟨rec,kf⟩: ∃rec:LoopState->Loop,rec=λst=> {state:=st,pending:=none,fn,tmps:=a.tmps,params:=pl.toArray,assign,body,defers:=w.heap.size}:=⟨_,rfl⟩;obtain⟨W1,j6⟩: ∃W1,(w.alloc (.deferred (some []))).alloc (.loop (rec .ready))=W1:=⟨_,rfl⟩
 have An:W1.heap[w.heap.size+1]? =some (.loop (rec .ready)):=by
  rw[<-j6];have:=World.alloc_heap_new (w.alloc (.deferred (some []))) (.loop (rec .ready));rwa[World.size_alloc] at this
 have Xq:W1.heap[w.heap.size]? =some (.deferred (some [])):=by
  rw[<-j6];exact(Below.heap_alloc _ _ _ cD).trans (World.alloc_heap_new w _)
 obtain⟨s0,z8,No⟩:=h0;have qv:Hp B w0 W1 (Rx 0 s0):=by rw[<-j6];exact((No w hp).allocObj _).allocObj _
 have Ti:w0.heap.size<=w.heap.size:=hp.below.size;have Tj:=hp.base;refine⟨w.heap.size+1,[mark w.heap.size],W1,{target:= .fn (.func gf) lb,args:= #[.func (.yield (w.heap.size+1)) #[] #[]]},W1,gf,#[.func (.yield (w.heap.size+1)) #[] #[]]++lb,W1,?_,?_,λ_ _=>trivial,?_,λh=>(by cases h),?_⟩
 ·rw[<-j6,kf];exact run_enterLoop_outer _ _ _ _ _
 ·simp only[resolve,hs.ev hg];simp[go_sem]
 ·simp[invoke,go_sem,r7]
 ·refine CallsIn.mono (rounds (w0:=w0) (m:=m) (L:=L) it sk tx Rx J pv round (l:=w.heap.size+1) (rec:=rec) kf ⟨hs.size,rfl,hs.val⟩ G G (λW=>W.heap[w.heap.size]? =some (.deferred (some []))/\Late w W) ?_ ?_ An ⟨Xq,?_⟩ z8 qv) ?_
  ·rintro W W' R R' ⟨hk,hl⟩ _ h2;exact⟨h2.late.2 _ _ hk rfl,hl.trans h2.late⟩
  ·rintro W o ⟨hk,hl⟩;refine⟨(World.putObj_heap_other G).trans hk,hl.1,λk q ov hc=> ?_⟩;rw[World.putObj_heap_other (λe=>by have:=(gp.1 ov).1;omega)];exact hl.2 k q ov hc
  ·rw [<-j6];exact(Late.alloc _ _).trans (Late.alloc _ _)
  ·rintro e W2 ⟨⟨v,rfl⟩,s,hJ,pe,un,Lb,f7⟩;have ue:=run_endLoop (P:=P) un (by rw[kf];simp);have Tu:(rec .ready).pending=none:=by rw[kf]
   refine⟨none,W2.putObj (w.heap.size+1) (.loop {rec .ready with state:= .exhausted}),ue.trans (bu (λp=>Result.ok p _) Tu),?_⟩;have wx:Hp B w0 (W2.putObj (w.heap.size+1) (.loop {rec .ready with state:= .exhausted})) (Rx N s):=pe.putObj un rfl _ G G;have Yw:(W2.putObj (w.heap.size+1) (.loop {rec .ready with state:= .exhausted})).heap[w.heap.size]? =some (.deferred (some [])):=(World.putObj_heap_other G).trans Lb
   have Ol:Late w (W2.putObj (w.heap.size+1) (.loop {rec .ready with state:= .exhausted})):=⟨f7.1,λk q ov hc=>by
    rw[World.putObj_heap_other (λe=>by have:=(gp.1 ov).1;omega)]
    exact f7.2 k q ov hc⟩
   have d8:=hs.defers;refine after _ w.heap.size s hJ wx.below ⟨hG.below.trans wx.below,hG.late.trans wx.late,wo.2 ⟨λft=> ?_,hG.nodup⟩,λd hd=> ?_⟩ _ _ ⟨hs.size,by simp only[oh,d8],hs.val⟩ wx.rebase
   ·obtain ⟨D,he,_,_,hD⟩:=hG.marks _ ft;have h1:=(gp.1 hD).1;simp only[mark,Deferred.mk.injEq,Target.collected.injEq,Aj] at he;omega
   ·rcases jc.1 hd with rfl|hd
    ·exact⟨_,rfl,G,by have:=hG.below.size;omega,Yw⟩
    ·obtain ⟨D,he,h1,h2,hD⟩:=hG.marks _ hd;exact⟨D,he,h1,h2,wx.late.2 _ _ hD rfl⟩
theorem aQe {σ0 σ1:Type} {m:Nat} {ds:List Deferred} {g:Operand} {pl:List Nat} {assign body:Code} {gf:Nat} {lb:Array Value} {rg:World->Prop} {N:Nat} {f:Nat->AG} (hg:ev L g=some (.func (.func gf) #[] lb))
  (r7: ∀args w,(callFunc gf args).run P w= .ok (.enter gf args) w) (it:Iter P gf lb rg N f)
  (sk:pl.all (λp=>Nat.blt p m)=true) (tx: ∀k,(f k).length=pl.length) (hG:Gd B w00 ⟨m,ds,none⟩ w0) (Rx:Nat->σ0->σ1->List Row) (J:Nat->σ0->σ1->Prop)
  (h0: ∃x0 x1,J 0 x0 x1/\ ∀w,Hp B w0 w R->Hp B w0 w (Rx 0 x0 x1)) (pv: ∀k x0 x1 w,J k x0 x1->Hp B w0 w (Rx k x0 x1)->rg w)
  (round: ∀l k x0 x1 W2,k<N->J k x0 x1->Below B w0 W2->W P ⟨m,[],some l⟩ B W2 assign ⟨λL' R'=> ∀W3,Below B w0 W3->W P ⟨m,[],some l⟩ B W3 body ⟨λ_ wc=> ∃y0 y1,J (k+1) y0 y1/\ ∀W4 w,Hp B W4 w wc->Hp B W4 w (Rx (k+1) y0 y1),λ_ _=>False,λ_ _ _=>False⟩ L' R',λ_ _=>False,λ_ _ _=>False⟩ (prm pl (f k) L) (Rx k x0 x1))
  (after: ∀W5 D x0 x1,J N x0 x1->Below B w0 W5->Gd B w00 ⟨m,mark D::ds,none⟩ W5->VN ⟨m,mark D::ds,none⟩ B W5 F L (Rx N x0 x1)):
  V P ⟨m,ds,none⟩ B w0 (.rangeFunc g pl.toArray assign body) F L R:=by
 obtain⟨x0,x1,h1,h2⟩:=h0;refine aHj (σ:=σ0 × σ1) hg r7 it sk tx hG (λk p=>Rx k p.1 p.2) (λk p=>J k p.1 p.2) ⟨(x0,x1),h1,h2⟩ (λk p=>pv k p.1 p.2) (λl k p W2 hk hp hb=>iV (round l k p.1 p.2 W2 hk hp hb) ?_ (λ_ _ h=>h) (λ_ _ _ h=>h)) (λW5 D p=>after W5 D p.1 p.2);intro L' R' h W3 Kv;refine iV (h W3 Kv) ?_ (λ_ _ h=>h) (λ_ _ _ h=>h);rintro _ wc ⟨y0,y1,g1,g2⟩;exact⟨(y0,y1),g1,g2⟩
theorem KQ {σ0 σ1 σ2 σ3:Type} {m:Nat} {ds:List Deferred} {g:Operand} {pl:List Nat} {assign body:Code} {gf:Nat} {lb:Array Value} {rg:World->Prop} {N:Nat} {f:Nat->AG} (hg:ev L g=some (.func (.func gf) #[] lb))
  (r7: ∀args w,(callFunc gf args).run P w= .ok (.enter gf args) w) (it:Iter P gf lb rg N f)
  (sk:pl.all (λp=>Nat.blt p m)=true) (tx: ∀k,(f k).length=pl.length) (hG:Gd B w00 ⟨m,ds,none⟩ w0) (Rx:Nat->σ0->σ1->σ2->σ3->List Row) (J:Nat->σ0->σ1->σ2->σ3->Prop)
  (h0: ∃x0 x1 x2 x3,J 0 x0 x1 x2 x3/\ ∀w,Hp B w0 w R->Hp B w0 w (Rx 0 x0 x1 x2 x3)) (pv: ∀k x0 x1 x2 x3 w,J k x0 x1 x2 x3->Hp B w0 w (Rx k x0 x1 x2 x3)->rg w)
  (round: ∀l k x0 x1 x2 x3 W2,k<N->J k x0 x1 x2 x3->Below B w0 W2->W P ⟨m,[],some l⟩ B W2 assign ⟨λL' R'=> ∀W3,Below B w0 W3->W P ⟨m,[],some l⟩ B W3 body ⟨λ_ wc=> ∃y0 y1 y2 y3,J (k+1) y0 y1 y2 y3/\ ∀W4 w,Hp B W4 w wc->Hp B W4 w (Rx (k+1) y0 y1 y2 y3),λ_ _=>False,λ_ _ _=>False⟩ L' R',λ_ _=>False,λ_ _ _=>False⟩ (prm pl (f k) L) (Rx k x0 x1 x2 x3))
  (after: ∀W5 D x0 x1 x2 x3,J N x0 x1 x2 x3->Below B w0 W5->Gd B w00 ⟨m,mark D::ds,none⟩ W5->VN ⟨m,mark D::ds,none⟩ B W5 F L (Rx N x0 x1 x2 x3)):
  V P ⟨m,ds,none⟩ B w0 (.rangeFunc g pl.toArray assign body) F L R:=by
 obtain⟨x0,x1,x2,x3,h1,h2⟩:=h0;refine aHj (σ:=σ0 × σ1 × σ2 × σ3) hg r7 it sk tx hG (λk p=>Rx k p.1 p.2.1 p.2.2.1 p.2.2.2) (λk p=>J k p.1 p.2.1 p.2.2.1 p.2.2.2) ⟨(x0,x1,x2,x3),h1,h2⟩ (λk p=>pv k p.1 p.2.1 p.2.2.1 p.2.2.2) (λl k p W2 hk hp hb=>iV (round l k p.1 p.2.1 p.2.2.1 p.2.2.2 W2 hk hp hb) ?_ (λ_ _ h=>h) (λ_ _ _ h=>h)) (λW5 D p=>after W5 D p.1 p.2.1 p.2.2.1 p.2.2.2);intro L' R' h W3 Kv;refine iV (h W3 Kv) ?_ (λ_ _ h=>h) (λ_ _ _ h=>h);rintro _ wc ⟨y0,y1,y2,y3,g1,g2⟩;exact⟨(y0,y1,y2,y3),g1,g2⟩
def Fin (P:Program) (fn:Func) (B:Nat) (w00:World) (Post:Value->List Row->Prop):Exit->Act->World->Prop:=
 bodyPostM Fence.wide 0 P fn λe w'=> ∃v R',e= .returned v/\Hp B w00 w' R'/\Post v R'
theorem DI {fn:Func} {Post:Value->List Row->Prop} {tmps:Array Value} {v:Value} {w0:World} (hB:Below B w00 w0) (hL:Late w00 w0): ∀(ds:List Deferred) (w:World),ds.Nodup->(∀d∈ds,∃D,d=mark D/\B<=D/\w00.heap.size<=D/\w.heap[D]? =some (.deferred (some [])))->Hp B w00 w R->(∀w,(results fn tmps).run P w= .ok v w)->Post v R->
  LeavesInM Fence.wide 0 P fn tmps (λe w'=> ∃v R',e= .returned v/\Hp B w00 w' R'/\Post v R') ds .returning w
 |[],w,_,_,hp,hr,hv=>⟨v,hr w,v,R,rfl,hp,hv⟩
 |d::ds,w,hn,hm,hp,hr,hv=>by
  obtain⟨D,rfl,h1,h2,hD⟩:=hm _ (.head _);refine⟨cD, .inl ⟨D,_,rfl,run_takeDeferred hD,DI hB hL ds _ (wo.1 hn).2 (λd hd=> ?_) (hp.putObj hD rfl _ h1 h2) hr hv⟩⟩;obtain⟨D',he,Xh,h2',hD'⟩:=hm d (.tail _ hd);refine⟨D',he,Xh,h2',(World.putObj_heap_other λe=> ?_).trans hD'⟩;subst e;subst he;exact(wo.1 hn).1 hd
theorem aVj {fn:Func} {Post:Value->List Row->Prop} {v:Value} (hG:Gd B w00 n w0) (Lo: ∀a w,Sat n L a->(results fn a.tmps).run P w= .ok v w) (hv:Post v R): ∀a w,Sat n L a->Hp B w0 w R->Fin P fn B w00 Post .ret a w/\Fin P fn B w00 Post .normal a w:=by
 intro a w hs hp;have da:Hp B w00 w R:=⟨hG.below.trans hp.below,hp.base,hp.own,hp.apart,hG.late.trans hp.late⟩
 have h:=DI (P:=P) (fn:=fn) (Post:=Post) (tmps:=a.tmps) (v:=v) hG.below hG.late n.ds w hG.nodup (λd hd=>by
  obtain⟨D,he,h1,h2,hD⟩:=hG.marks d hd
  exact⟨D,he,h1,h2,hp.late.2 _ _ hD rfl⟩) da (λw=>Lo a w hs) hv
 rw[<-hs.defers] at h;exact⟨h,h⟩
theorem bNu {fn:Func} {Post:Value->List Row->Prop} {r:Nat} (hr:fn.results= #[.tmp r]) (hG:Gd B w00 n w0) (h: ∃v,lk L r=some v/\Post v R): ∀a w,Sat n L a->Hp B w0 w R->Fin P fn B w00 Post .ret a w:=by
 obtain⟨v,hv,pr⟩:=h;exact λa w hs hp=>(aVj hG (λa w hs=>by rw[results_tmp hr,hs.getD hv]) pr a w hs hp).1
theorem aNq {fn:Func} {Post:Value->List Row->Prop} {r s:Nat} (hr:fn.results= #[.tmp r, .tmp s]) (hG:Gd B w00 n w0) (h: ∃v u,lk L r=some v/\lk L s=some u/\Post (.tuple #[v,u]) R): ∀a w,Sat n L a->Hp B w0 w R->Fin P fn B w00 Post .ret a w:=by
 obtain⟨v,u,hv,hu,pr⟩:=h;exact λa w hs hp=>(aVj hG (λa w hs=>by rw[results_tmp2 hr,hs.getD hv,hs.getD hu]) pr a w hs hp).1
theorem fnV {f:FuncId} {fn:Func} {c:Code} {args:AG} {Post:Value->List Row->Prop} (hf:P.funcs[f]? =some fn) (hb:fn.body=some c) (hl:Nat.ble args.length fn.ntmps=true)
  (h:V P (fn.ntmps:Nd) B w00 c (Fin P fn B w00 Post) (ini 0 args) R):Ct P f args.toArray B w00 R Post:=by
 intro w hw;have Qb:args.length<=fn.ntmps:=ak hl;refine callsIn_wide.1 (callsIn_of_wp_marks (F:=Fence.wide) (n:=0) hf hb trivial (h _ w ⟨cH,rfl,λt v ht=> ?_⟩ hw));obtain⟨_,h2⟩:=aEu args 0 t v ht;simp only[yz] at h2;have bp:=(fw.1 h2).1;rw[<-h2];simp[Bc,bp]
end
section
variable {P:Program} {n:Nd} {B:Nat} {w0 w00:World} {F:Exit->Act->World->Prop} {L:Env} {R:List Row}
theorem aHu {σ:Type} {m:Nat} {pl:List Nat} {assign body:Code} {gf:Nat} {lb:Array Value} {rg:World->Prop} {N:Nat} {f:Nat->AG} (it:Iter P gf lb rg N f)
  (sk:pl.all (λp=>Nat.blt p m)=true) (tx: ∀k,(f k).length=pl.length) (Rx:Nat->σ->List Row) (J:Nat->σ->Prop) (pv: ∀k s w,J k s->Hp B w0 w (Rx k s)->rg w)
  (round: ∀l k s W2,k<N->J k s->Below B w0 W2->W P ⟨m,[],some l⟩ B W2 assign ⟨λL' R'=> ∀W3,Below B w0 W3->(∃rc,W3.heap[l]? =some (.loop rc))->W P ⟨m,[],some l⟩ B W3 body ⟨λ_ wc=> ∃s',J (k+1) s'/\ ∀W4 w,Hp B W4 w wc->Hp B W4 w (Rx (k+1) s'),λ_ _=>False,λ_ _ _=>False⟩ L' R',λ_ _=>False,λ_ _ _=>False⟩ (prm pl (f k) L) (Rx k s))
  {l:Nat} {rec:LoopState->Loop} {fn:FuncId} {t:Array Value} {Df:Nat} (kf:rec=λst=> {state:=st,pending:=none,fn,tmps:=t,params:=pl.toArray,assign,body,defers:=Df}) (ht:Sat ⟨m,[],some l⟩ L {tmps:=t,defers:=[]}) (Tf:B<=l) (u6:w0.heap.size<=l) (X:World->Prop)
  (hX: ∀W W' R R',X W->Hp B w0 W R->Hp B W W' R'->X W') (Sg: ∀W o,X W->X (W.putObj l o)) {W1:World} (An:W1.heap[l]? =some (.loop (rec .ready))) (Xy:X W1) {s0:σ} (z8:J 0 s0) (qv:Hp B w0 W1 (Rx 0 s0)):
  CallsIn Fence.wide 0 P gf (#[.func (.yield l) #[] #[]]++lb) W1 λe W'=>(∃v,e= .returned v)/\ ∃s,J N s/\Hp B w0 W' (Rx N s)/\W'.heap[l]? =some (.loop (rec .ready))/\X W':=by
 refine it l (λk W=> ∃s,J k s/\Hp B w0 W (Rx k s)/\W.heap[l]? =some (.loop (rec .ready))/\X W) W1 (λk W ⟨s,hJ,hp,_⟩=>pv k s W hJ hp) (λk W d ⟨s,hJ,hp,hl,hx⟩ hd=>⟨s,hJ,hp.drawn d hd,hl,hX _ _ _ _ hx hp (hp.rebase.drawn d hd)⟩) ?_ ⟨s0,z8,qv,An,Xy⟩;rintro k W hk ⟨s,hJ,hp,hl,hx⟩;have hy:=run_yield (P:=P) (args:=(f k).toArray) hl (by rw[kf];simp[tx k])
 have vq:Sat ⟨m,[],some l⟩ (prm pl (f k) L) {tmps:=(rec .ready).params.zip (f k).toArray|>.foldl (λt (p,v)=>t.setIfInBounds p v) (rec .ready).tmps,defers:=[]}:=by
  rw[kf];simpa using Sat.prm pl (f k) sk ht
 refine⟨fn,_,assign,body,by rw[hy,kf],roundIn_of_wpIn trivial ?_⟩;refine Bb ((round l k s W hk hJ hp.below) _ _ (by rw[kf] at vq;exact vq) hp.rebase) ?_;rintro e a1 Wa hq;cases e with
 | normal=>
  obtain⟨L',R',fj,da,hb⟩:=hq;have Fd:=da.late.2 _ _ hl rfl;have vf:=hp.comp da;have bp:=(gp.1 Fd).1;have Yg:=run_beginRound (P:=P) Fd (by rw[kf]);refine⟨_,Yg,?_⟩;have pe:Hp B w0 (Wa.putObj l (.loop {rec .ready with state:= .busy})) R':=vf.putObj Fd rfl _ Tf u6;have un:(Wa.putObj l (.loop {rec .ready with state:= .busy})).heap[l]? =some (.loop {rec .ready with state:= .busy}):=World.putObj_heap_same bp;have hx2:=Sg _ (.loop {rec .ready with state:= .busy}) (hX _ _ _ _ hx hp da);refine Bb (hb _ pe.below ⟨_,un⟩ a1 _ fj pe.rebase) ?_;rintro e a3 W3 hq;cases e with
  | normal=>
   obtain⟨L3,R3,_,wx,s',Xo,Lz⟩:=hq;have a6:=wx.late.2 _ _ un rfl;have Yp:=run_endRound (P:=P) none a6;refine⟨_,_,Yp,rfl,s',Xo,?_,?_,?_⟩
   ·exact(pe.comp (Lz _ _ wx)).putObj a6 rfl _ Tf u6
   ·rw [World.putObj_heap_same (gp.1 a6).1,kf];rfl
   ·exact Sg _ _ (hX _ _ _ _ hx2 pe wx)
  |ret=>obtain⟨_,_,_,_,h⟩:=hq;exact h.elim
  |exit id=>obtain⟨_,_,_,_,h⟩:=hq;exact h.elim
  |goto t=>exact hq.elim
  |panic ch=>exact hq.elim
  |outgrown=>exact hq.elim
 |ret=>obtain⟨_,_,_,_,h⟩:=hq;exact h.elim
 |exit id=>obtain⟨_,_,_,_,h⟩:=hq;exact h.elim
 |goto t=>exact hq.elim
 |panic ch=>exact hq.elim
 |outgrown=>exact hq.elim
theorem aQd {σ:Type} {m:Nat} {ds:List Deferred} {g:Operand} {pl:List Nat} {assign body:Code} {gf:Nat} {lb:Array Value} {rg:World->Prop} {N:Nat} {f:Nat->AG} (hg:ev L g=some (.func (.func gf) #[] lb))
  (r7: ∀args w,(callFunc gf args).run P w= .ok (.enter gf args) w) (it:Iter P gf lb rg N f)
  (sk:pl.all (λp=>Nat.blt p m)=true) (tx: ∀k,(f k).length=pl.length) (hG:Gd B w00 ⟨m,ds,none⟩ w0) (Rx:Nat->σ->List Row) (J:Nat->σ->Prop) (h0: ∃s,J 0 s/\ ∀w,Hp B w0 w R->Hp B w0 w (Rx 0 s)) (pv: ∀k s w,J k s->Hp B w0 w (Rx k s)->rg w)
  (round: ∀l k s W2,k<N->J k s->Below B w0 W2->W P ⟨m,[],some l⟩ B W2 assign ⟨λL' R'=> ∀W3,Below B w0 W3->(∃rc,W3.heap[l]? =some (.loop rc))->W P ⟨m,[],some l⟩ B W3 body ⟨λ_ wc=> ∃s',J (k+1) s'/\ ∀W4 w,Hp B W4 w wc->Hp B W4 w (Rx (k+1) s'),λ_ _=>False,λ_ _ _=>False⟩ L' R',λ_ _=>False,λ_ _ _=>False⟩ (prm pl (f k) L) (Rx k s))
  (after: ∀W5 D s,J N s->Below B w0 W5->Gd B w00 ⟨m,mark D::ds,none⟩ W5->VN ⟨m,mark D::ds,none⟩ B W5 F L (Rx N s)):
  V P ⟨m,ds,none⟩ B w0 (.rangeFunc g pl.toArray assign body) F L R:=by
 intro a w hs hp;refine wpIn_rangeFunc ?_;intro fn _;obtain⟨rec,kf⟩: ∃rec:LoopState->Loop,rec=λst=> {state:=st,pending:=none,fn,tmps:=a.tmps,params:=pl.toArray,assign,body,defers:=w.heap.size}:=⟨_,rfl⟩;obtain⟨W1,j6⟩: ∃W1,(w.alloc (.deferred (some []))).alloc (.loop (rec .ready))=W1:=⟨_,rfl⟩
 have An:W1.heap[w.heap.size+1]? =some (.loop (rec .ready)):=by
  rw[<-j6];have:=World.alloc_heap_new (w.alloc (.deferred (some []))) (.loop (rec .ready));rwa[World.size_alloc] at this
 have Xq:W1.heap[w.heap.size]? =some (.deferred (some [])):=by
  rw[<-j6];exact(Below.heap_alloc _ _ _ cD).trans (World.alloc_heap_new w _)
 obtain⟨s0,z8,No⟩:=h0;have qv:Hp B w0 W1 (Rx 0 s0):=by rw[<-j6];exact((No w hp).allocObj _).allocObj _
 have Ti:w0.heap.size<=w.heap.size:=hp.below.size;have Tj:=hp.base;refine⟨w.heap.size+1,[mark w.heap.size],W1,{target:= .fn (.func gf) lb,args:= #[.func (.yield (w.heap.size+1)) #[] #[]]},W1,gf,#[.func (.yield (w.heap.size+1)) #[] #[]]++lb,W1,?_,?_,λ_ _=>trivial,?_,λh=>(by cases h),?_⟩
 ·rw[<-j6,kf];exact run_enterLoop_outer _ _ _ _ _
 ·simp only[resolve,hs.ev hg];simp[go_sem]
 ·simp[invoke,go_sem,r7]
 ·refine CallsIn.mono (aHu (w0:=w0) (m:=m) (L:=L) it sk tx Rx J pv round (l:=w.heap.size+1) (rec:=rec) kf ⟨hs.size,rfl,hs.val⟩ G G (λW=>W.heap[w.heap.size]? =some (.deferred (some []))/\Late w W) ?_ ?_ An ⟨Xq,?_⟩ z8 qv) ?_
  ·rintro W W' R R' ⟨hk,hl⟩ _ h2;exact⟨h2.late.2 _ _ hk rfl,hl.trans h2.late⟩
  ·rintro W o ⟨hk,hl⟩;refine⟨(World.putObj_heap_other G).trans hk,hl.1,λk q ov hc=> ?_⟩;rw[World.putObj_heap_other (λe=>by have:=(gp.1 ov).1;omega)];exact hl.2 k q ov hc
  ·rw [<-j6];exact(Late.alloc _ _).trans (Late.alloc _ _)
  ·rintro e W2 ⟨⟨v,rfl⟩,s,hJ,pe,un,Lb,f7⟩;have ue:=run_endLoop (P:=P) un (by rw[kf];simp);have Tu:(rec .ready).pending=none:=by rw[kf]
   refine⟨none,W2.putObj (w.heap.size+1) (.loop {rec .ready with state:= .exhausted}),ue.trans (bu (λp=>Result.ok p _) Tu),?_⟩;have wx:Hp B w0 (W2.putObj (w.heap.size+1) (.loop {rec .ready with state:= .exhausted})) (Rx N s):=pe.putObj un rfl _ G G;have Yw:(W2.putObj (w.heap.size+1) (.loop {rec .ready with state:= .exhausted})).heap[w.heap.size]? =some (.deferred (some [])):=(World.putObj_heap_other G).trans Lb
   have Ol:Late w (W2.putObj (w.heap.size+1) (.loop {rec .ready with state:= .exhausted})):=⟨f7.1,λk q ov hc=>by
    rw[World.putObj_heap_other (λe=>by have:=(gp.1 ov).1;omega)]
    exact f7.2 k q ov hc⟩
   have d8:=hs.defers;refine after _ w.heap.size s hJ wx.below ⟨hG.below.trans wx.below,hG.late.trans wx.late,wo.2 ⟨λft=> ?_,hG.nodup⟩,λd hd=> ?_⟩ _ _ ⟨hs.size,by simp only[oh,d8],hs.val⟩ wx.rebase
   ·obtain ⟨D,he,_,_,hD⟩:=hG.marks _ ft;have h1:=(gp.1 hD).1;simp only[mark,Deferred.mk.injEq,Target.collected.injEq,Aj] at he;omega
   ·rcases jc.1 hd with rfl|hd
    ·exact⟨_,rfl,G,by have:=hG.below.size;omega,Yw⟩
    ·obtain ⟨D,he,h1,h2,hD⟩:=hG.marks _ hd;exact⟨D,he,h1,h2,wx.late.2 _ _ hD rfl⟩
theorem aKn {σ0 σ1 σ2 σ3:Type} {m:Nat} {ds:List Deferred} {g:Operand} {pl:List Nat} {assign body:Code} {gf:Nat} {lb:Array Value} {rg:World->Prop} {N:Nat} {f:Nat->AG} (hg:ev L g=some (.func (.func gf) #[] lb))
  (r7: ∀args w,(callFunc gf args).run P w= .ok (.enter gf args) w) (it:Iter P gf lb rg N f)
  (sk:pl.all (λp=>Nat.blt p m)=true) (tx: ∀k,(f k).length=pl.length) (hG:Gd B w00 ⟨m,ds,none⟩ w0) (Rx:Nat->σ0->σ1->σ2->σ3->List Row) (J:Nat->σ0->σ1->σ2->σ3->Prop)
  (h0: ∃x0 x1 x2 x3,J 0 x0 x1 x2 x3/\ ∀w,Hp B w0 w R->Hp B w0 w (Rx 0 x0 x1 x2 x3)) (pv: ∀k x0 x1 x2 x3 w,J k x0 x1 x2 x3->Hp B w0 w (Rx k x0 x1 x2 x3)->rg w)
  (round: ∀l k x0 x1 x2 x3 W2,k<N->J k x0 x1 x2 x3->Below B w0 W2->W P ⟨m,[],some l⟩ B W2 assign ⟨λL' R'=> ∀W3,Below B w0 W3->(∃rc,W3.heap[l]? =some (.loop rc))->W P ⟨m,[],some l⟩ B W3 body ⟨λ_ wc=> ∃y0 y1 y2 y3,J (k+1) y0 y1 y2 y3/\ ∀W4 w,Hp B W4 w wc->Hp B W4 w (Rx (k+1) y0 y1 y2 y3),λ_ _=>False,λ_ _ _=>False⟩ L' R',λ_ _=>False,λ_ _ _=>False⟩ (prm pl (f k) L) (Rx k x0 x1 x2 x3))
  (after: ∀W5 D x0 x1 x2 x3,J N x0 x1 x2 x3->Below B w0 W5->Gd B w00 ⟨m,mark D::ds,none⟩ W5->VN ⟨m,mark D::ds,none⟩ B W5 F L (Rx N x0 x1 x2 x3)):
  V P ⟨m,ds,none⟩ B w0 (.rangeFunc g pl.toArray assign body) F L R:=by
 obtain⟨x0,x1,x2,x3,h1,h2⟩:=h0;refine aQd (σ:=σ0 × σ1 × σ2 × σ3) hg r7 it sk tx hG (λk p=>Rx k p.1 p.2.1 p.2.2.1 p.2.2.2) (λk p=>J k p.1 p.2.1 p.2.2.1 p.2.2.2) ⟨(x0,x1,x2,x3),h1,h2⟩ (λk p=>pv k p.1 p.2.1 p.2.2.1 p.2.2.2) (λl k p W2 hk hp hb=>iV (round l k p.1 p.2.1 p.2.2.1 p.2.2.2 W2 hk hp hb) ?_ (λ_ _ h=>h) (λ_ _ _ h=>h)) (λW5 D p=>after W5 D p.1 p.2.1 p.2.2.1 p.2.2.2);intro L' R' h W3 Kv a6;refine iV (h W3 Kv a6) ?_ (λ_ _ h=>h) (λ_ _ _ h=>h);rintro _ wc ⟨y0,y1,y2,y3,g1,g2⟩;exact⟨(y0,y1,y2,y3),g1,g2⟩
theorem aYl {σ:Type} {m l0:Nat} {g:Operand} {pl:List Nat} {assign body:Code} {gf:Nat} {lb:Array Value} {rg:World->Prop} {N:Nat} {f:Nat->AG} {Q:fK} (hg:ev L g=some (.func (.func gf) #[] lb))
  (r7: ∀args w,(callFunc gf args).run P w= .ok (.enter gf args) w) (it:Iter P gf lb rg N f)
  (sk:pl.all (λp=>Nat.blt p m)=true) (tx: ∀k,(f k).length=pl.length) (u6: ∃rc,w0.heap[l0]? =some (.loop rc)) (Rx:Nat->σ->List Row) (J:Nat->σ->Prop) (h0: ∃s,J 0 s/\ ∀w,Hp B w0 w R->Hp B w0 w (Rx 0 s)) (pv: ∀k s w,J k s->Hp B w0 w (Rx k s)->rg w)
  (round: ∀l k s W2,k<N->J k s->Below B w0 W2->W P ⟨m,[],some l⟩ B W2 assign ⟨λL' R'=> ∀W3,Below B w0 W3->(∃rc,W3.heap[l]? =some (.loop rc))->W P ⟨m,[],some l⟩ B W3 body ⟨λ_ wc=> ∃s',J (k+1) s'/\ ∀W4 w,Hp B W4 w wc->Hp B W4 w (Rx (k+1) s'),λ_ _=>False,λ_ _ _=>False⟩ L' R',λ_ _=>False,λ_ _ _=>False⟩ (prm pl (f k) L) (Rx k s))
  (after: ∀s,J N s->Q.nrm L (Rx N s)):
  W P ⟨m,[],some l0⟩ B w0 (.rangeFunc g pl.toArray assign body) Q L R:=by
 obtain⟨r0,Qn⟩:=u6;intro a w hs hp;have Yx:=hp.late.2 _ _ Qn rfl;refine wpIn_rangeFunc ?_;intro fn _;obtain⟨rec,kf⟩: ∃rec:LoopState->Loop,rec=λst=> {state:=st,pending:=none,fn,tmps:=a.tmps,params:=pl.toArray,assign,body,defers:=r0.defers}:=⟨_,rfl⟩;obtain⟨W1,j6⟩: ∃W1,w.alloc (.loop (rec .ready))=W1:=⟨_,rfl⟩;have An:W1.heap[w.heap.size]? =some (.loop (rec .ready)):=by rw[<-j6];exact World.alloc_heap_new w _
 obtain⟨s0,z8,No⟩:=h0;have qv:Hp B w0 W1 (Rx 0 s0):=by rw[<-j6];exact(No w hp).allocObj _
 have Ti:w0.heap.size<=w.heap.size:=hp.below.size;have Tj:=hp.base;refine⟨w.heap.size,[],W1,{target:= .fn (.func gf) lb,args:= #[.func (.yield w.heap.size) #[] #[]]},W1,gf,#[.func (.yield w.heap.size) #[] #[]]++lb,W1,?_,?_,λ_ _=>trivial,?_,λh=>(by cases h),?_⟩
 ·rw[<-j6,kf];exact run_enterLoop_inner Yx _ _ _ _ _
 ·simp only[resolve,hs.ev hg];simp[go_sem]
 ·simp[invoke,go_sem,r7]
 ·refine CallsIn.mono (aHu (w0:=w0) (m:=m) (L:=L) it sk tx Rx J pv round (l:=w.heap.size) (rec:=rec) kf ⟨hs.size,rfl,hs.val⟩ G G (λ_=>True) (λ_ _ _ _ _ _ _=>trivial) (λ_ _ _=>trivial) An trivial z8 qv) ?_;rintro e W2 ⟨⟨v,rfl⟩,s,hJ,pe,un,_⟩;have ue:=run_endLoop (P:=P) un (by rw[kf];simp);have Tu:(rec .ready).pending=none:=by rw[kf]
  refine⟨none,W2.putObj w.heap.size (.loop {rec .ready with state:= .exhausted}),ue.trans (bu (λp=>Result.ok p _) Tu),?_⟩;have d8:=hs.defers;exact⟨L,Rx N s,⟨hs.size,by simp only[jd,d8],hs.val⟩,pe.putObj un rfl _ G G,after s hJ⟩
theorem aQa {σ0 σ1 σ2 σ3:Type} {m l0:Nat} {g:Operand} {pl:List Nat} {assign body:Code} {gf:Nat} {lb:Array Value} {rg:World->Prop} {N:Nat} {f:Nat->AG} {Q:fK} (hg:ev L g=some (.func (.func gf) #[] lb))
  (r7: ∀args w,(callFunc gf args).run P w= .ok (.enter gf args) w) (it:Iter P gf lb rg N f)
  (sk:pl.all (λp=>Nat.blt p m)=true) (tx: ∀k,(f k).length=pl.length) (u6: ∃rc,w0.heap[l0]? =some (.loop rc)) (Rx:Nat->σ0->σ1->σ2->σ3->List Row) (J:Nat->σ0->σ1->σ2->σ3->Prop)
  (h0: ∃x0 x1 x2 x3,J 0 x0 x1 x2 x3/\ ∀w,Hp B w0 w R->Hp B w0 w (Rx 0 x0 x1 x2 x3)) (pv: ∀k x0 x1 x2 x3 w,J k x0 x1 x2 x3->Hp B w0 w (Rx k x0 x1 x2 x3)->rg w)
  (round: ∀l k x0 x1 x2 x3 W2,k<N->J k x0 x1 x2 x3->Below B w0 W2->W P ⟨m,[],some l⟩ B W2 assign ⟨λL' R'=> ∀W3,Below B w0 W3->(∃rc,W3.heap[l]? =some (.loop rc))->W P ⟨m,[],some l⟩ B W3 body ⟨λ_ wc=> ∃y0 y1 y2 y3,J (k+1) y0 y1 y2 y3/\ ∀W4 w,Hp B W4 w wc->Hp B W4 w (Rx (k+1) y0 y1 y2 y3),λ_ _=>False,λ_ _ _=>False⟩ L' R',λ_ _=>False,λ_ _ _=>False⟩ (prm pl (f k) L) (Rx k x0 x1 x2 x3))
  (after: ∀x0 x1 x2 x3,J N x0 x1 x2 x3->Q.nrm L (Rx N x0 x1 x2 x3)):
  W P ⟨m,[],some l0⟩ B w0 (.rangeFunc g pl.toArray assign body) Q L R:=by
 obtain⟨x0,x1,x2,x3,h1,h2⟩:=h0;refine aYl (σ:=σ0 × σ1 × σ2 × σ3) hg r7 it sk tx u6 (λk p=>Rx k p.1 p.2.1 p.2.2.1 p.2.2.2) (λk p=>J k p.1 p.2.1 p.2.2.1 p.2.2.2) ⟨(x0,x1,x2,x3),h1,h2⟩ (λk p=>pv k p.1 p.2.1 p.2.2.1 p.2.2.2) (λl k p W2 hk hp hb=>iV (round l k p.1 p.2.1 p.2.2.1 p.2.2.2 W2 hk hp hb) ?_ (λ_ _ h=>h) (λ_ _ _ h=>h)) (λp=>after p.1 p.2.1 p.2.2.1 p.2.2.2);intro L' R' h W3 Kv a6;refine iV (h W3 Kv a6) ?_ (λ_ _ h=>h) (λ_ _ _ h=>h);rintro _ wc ⟨y0,y1,y2,y3,g1,g2⟩;exact⟨(y0,y1,y2,y3),g1,g2⟩
def SlR (k:IntKind) (Rs:List Row) (vals:AG) (ls:AD):Prop:=vals.length=ls.length/\ ∀j:Nat,j<ls.length-> ∃(A:AF) (c:Nat),vals[j]? =some (.slice A (ls.getD j []).length c)/\ ∀(B:Nat) (w0 w:World),Hp B w0 w Rs->Rd w A (ls.getD j []).length c 1 (ints k (ls.getD j []))
theorem SlR.nil (k:IntKind):SlR k [] [] []:=⟨rfl,λj hj=>by simp at hj⟩
theorem SlR.snoc {k:IntKind} {Rs:List Row} {vals:AG} {ls:AD} {A:AF} {n c e:Nat} {l:AH} {ro:Bool} (h:SlR k Rs vals ls) (hn:n=l.length):SlR k (⟨e,1,A,n,c,ints k l,ro⟩::Rs) (vals++[.slice A n c]) (ls++[l]):=by
 subst hn;refine⟨by simp[h.1],λj hj=> ?_⟩;rcases gm j ls.length with g|g
 ·obtain ⟨A',c',h1,h2⟩:=h.2 j g
  have e1:(ls++[l]).getD j []=ls.getD j []:=by
   rw[ai,ai,jl g]
  rw[e1];exact⟨A',c',by rw[jl (by rw[h.1];exact g)];exact h1,λB w0 w hw=>h2 B w0 w hw.tail⟩
 ·have s5:j=ls.length:=by simp at hj;omega
  subst s5;have e1:(ls++[l]).getD ls.length []=l:=by simp[ai]
  rw[e1];refine⟨A,c,by rw[<-h.1];simp,λB w0 w hw=> ?_⟩;exact rdr (R:=⟨e,1,A,l.length,c,ints k l,ro⟩::Rs) 0 rfl w hw
theorem SlR.at {k:IntKind} {Rs:List Row} {vals:AG} {ls:AD} (h:SlR k Rs vals ls) {i:Int} (h0:0<=i) (h1:i<ls.length): ∃(A:AF) (c:Nat),vals[i.toNat]? =some (.slice A (rdl ls i).length c)/\ ∀(B:Nat) (w0 w:World),Hp B w0 w Rs->Rd w A (rdl ls i).length c 1 (ints k (rdl ls i)):=h.2 i.toNat G
theorem Hp.left {w:World} {X T:List Row} (h:Hp B w0 w (X++T)):Hp B w0 w X:=h.sublist (List.sublist_append_left X T)
theorem Hp.toTail0 {w:World} {X Rs Y:List Row} (h:Hp B w0 w ((X++Rs)++Y)):Hp B w0 w (X++(Y++Rs)):=by
 refine h.perm ?_;rw[gq];exact zl X uk
theorem bNq {Q:fK} {c:Code} {d:Nat} {v:Value} (h:lk L d=some v) (k:W P n B w0 c Q ((d,v)::L) R):W P n B w0 c Q L R:=λa w hs hp=>k a w ⟨hs.size,hs.defers,λt u ht=>by
 unfold lk at ht;cases e:Nat.beq d t with
 |true=>rw[e] at ht;simp only[cond_true] at ht;obtain rfl:=yf e;exact hs.val _ _ (h.trans ht)
 |false=>rw[e] at ht;simp only[cond_false] at ht;exact hs.val _ _ ht⟩ hp
end
end Go.Eng
namespace Go.Eng
open Go Go.RowKit Go.Proofs Go.Sort
section
variable {P:Program} {B:Nat} {w0:World} {R:List Row}
def aYf (P:Program) (f g:Nat) (cb:Array Value) (k:Nat):Prop:=
 ∀(α:Type) [Inhabited α] (enc:α->AG) (_: ∀x,(enc x).length=k) (_: ∀x,∀v∈enc x,v.oneCell'=true) (cf:α->α->Int) (_:SWO (ltOf cf)) (go off cap:Nat) (d:Array α) (w:World)
  (_:CmpLays P g cb enc k cf go off d.size w) (_:HoldsK enc k w go off d) (_:go<w.heap.size) (_:d.size<4611686018427387904),
  Calls P f #[.slice (some ⟨go,off,none⟩) d.size cap, .func (.func g) #[] cb] w λe w'=>e= .returned (.tuple #[])/\ ∃d' n os,PermIn 0 d.size d d'/\SortedIn (ltOf cf) 0 d.size d'/\w'=sortWorldK enc k w go off n d' os
def UC (P:Program) (f:Nat):Prop:= ∀(p:AF) (cap:Nat) (fv:Value) (w:World),Calls P f #[.slice p 0 cap,fv] w λe w'=>e= .returned (.tuple #[])/\w'=w
theorem Hp.putRow {w:World} (hw:Hp B w0 w R) {i T k m c go:Nat} {vs:AG} (hi:R[i]? =some ⟨T,k,some ⟨go,0,none⟩,m,c,vs,false⟩) (xs:Array Value) (Uq:xs.size=m*k) (n:Nat) (os:Array Obj):
  Hp B w0 (grow (putRow id (Sort.ahead w n) go 0 xs) os) (R.set i ⟨T,k,some ⟨go,0,none⟩,m,c,xs.toList,false⟩)/\Hp B w0 (grow (putRow id (Sort.ahead w n) go 0 xs) os) (R.eraseIdx i):=by
 have ij:=Row.lies_w (hw.own _ (gu hi)) rfl;rcases ij.2 with⟨hv,hn⟩|⟨g,cap,cur,hv,hb,hg,hnc,tc,ke,ht⟩
 ·simp at hv
 simp only[ku,mr,Az,Aj,Ak] at hv;obtain⟨rfl,rfl⟩:=hv;simp only at ht ke hg hnc hb;have bp:go<w.heap.size:=(gp.1 hg).1
 have hsz:w.heap.size<=(grow (Go.Sort.putRow id (Sort.ahead w n) go 0 xs) os).heap.size:=by
  rw[size_grow,Go.Sort.size_putRow];exact Bo _ _
 have hk: ∀k,k<w.heap.size->go≠k->(grow (Go.Sort.putRow id (Sort.ahead w n) go 0 xs) os).heap[k]? =w.heap[k]? :=by
  intro k hk Cd;rw[heap_grow_old _ _ (by rw[Go.Sort.size_putRow];exact hk)];simp[Go.Sort.putRow,mapBlock,vw,Cd,Sort.ahead]
 have Ek:(grow (Go.Sort.putRow id (Sort.ahead w n) go 0 xs) os).heap[go]? =some (.cells (putCells id 0 xs cur) T (0,0)):=by
  rw[heap_grow_old _ _ (by rw[Go.Sort.size_putRow];exact bp)];simp[Go.Sort.putRow,mapBlock,vw,Sort.ahead,hg,onCells]
 refine⟨?_,hw.but hi rfl rfl rfl (by show w.drawn<=w.drawn+n;omega) hsz λk h1 h2=>hk k h1 (h2 _ rfl)⟩;refine hw.upd hi (row:=some go) ⟨rfl,rfl,rfl,hsz,λk h1 cv=>hk k h1 λe=>cv (by rw[e])⟩ ?_ (λk hk=> ?_) ?_ (λa' np=> .inl ⟨a',np,rfl⟩)
 ·show w.drawn<=w.drawn+n;omega
 ·obtain rfl:=je hk;exact⟨_,rfl,rfl⟩
 ·unfold Row.lies;simp only;refine⟨by rw[jy,Uq], .inr ⟨go,c,_,rfl,hb,Ek,hnc,tc,?_,?_⟩⟩
  ·simp only[putCells,Array.size_mapIdx];exact ke
  ·apply ul;intro t;rw[ou];split
   ·rename_i yv
    have Wg:t<cur.size:=by
     have:m*k<=c*k:=ut _ hnc;omega
    rw[si,si,qb (by simp[putCells];exact Wg),qb (by rw[Uq];exact yv)];simp only[putCells,Array.getElem_mapIdx,id];rw[di ⟨qg _,by rw[og,Uq];exact yv⟩,yz,uo _ t (by rw[Uq];exact yv)]
   ·rename_i yv;rw[lu (by rw[jy,Uq];omega)]
theorem NS {α:Type} [Inhabited α] {enc:α->AG} {k:Nat} (hk: ∀x,(enc x).length=k) (d:Array α):(flatK enc k d).toList=d.toList.flatMap enc:=by
 have hlen: ∀l:List α,(l.flatMap enc).length=l.length*k:=λl=>by
  induction l with
  |nil=>simp
  |cons x l ih=>rw[zw,ah,ih,hk,dn,xz];omega
 have Yt: ∀(l:List α) (t:Nat) (x:α),0<k->l[t/k]? =some x->(l.flatMap enc)[t]? =(enc x)[t%k]? :=λl=>by
  induction l with
  |nil=>intro t x _ h;simp at h
  | cons y l ih=>
   intro t x k0 h;rw[zw];rcases gm t k with g|g
   ·rw [Dw g] at h;simp only[List.getElem?_cons_zero,mr] at h;subst h;rw[jl (by rw[hk];exact g),lh g]
   ·have e:t/k=(t-k)/k+1:=by
     rw[<-rq g,Nat.add_div_right _ k0];simp
    rw[e,Cv] at h;rw[ji (by rw[hk];exact g),hk,ih (t-k) x k0 h,<-zi g]
 apply ul;intro t;have hs:(flatK enc k d).size=d.size*k:=size_flatK _ _ _;rcases gm t (d.size*k) with h|h
 ·have k0:0<k:=Cr λe=>by subst e;simp at h
  have Su:t/k<d.size:=Nat.div_lt_of_lt_mul (by rw[zy];exact h)
  have e1:(flatK enc k d)[t]? =some ((flatK enc k d)[t]!):=by
   rw[qb (by rw[hs];exact h),uo _ t (by rw[hs];exact h)]
  rw[si,e1,get_flatK enc k d t h,Yt d.toList t d[t/k] k0 (by rw[si,qb Su]),uo d _ Su];have hm:t%k<(enc d[t/k]).length:=by rw[hk];exact yh _ k0
  rw[av hm,uo (enc d[t/k]) (t%k) hm]
 ·rw[lu (by rw[jy,hs];exact h),lu (by rw[hlen,jy];exact h)]
theorem aVi {α:Type} {enc:α->AG} {k:Nat} (hk: ∀x,(enc x).length=k) (l:List α):(l.flatMap enc).length=l.length*k:=by
 induction l with
 |nil=>simp
 |cons x l ih=>rw[zw,ah,ih,hk,dn,xz];omega
theorem MQ {α:Type} [Inhabited α] {d d':Array α} (h:PermIn 0 d.size d d'):d'.toList.Perm d.toList:=by
 obtain⟨hs,_,hp⟩:=h;have e1:(d'.extract 0 d.size).toList=d'.toList:=by rw[<-hs];simp
 have e2:(d.extract 0 d.size).toList=d.toList:=cD
 rw[e1,e2] at hp;exact hp
theorem PO {α:Type} [Inhabited α] {cf:α->α->Int} {d':Array α} {n:Nat} (h:SortedIn (ltOf cf) 0 n d') (hn:d'.size=n):d'.toList.Pairwise λx y=> ¬cf y x<0:=by
 refine ed.2 λa b ha u4 vj=> ?_;rw[jy] at ha u4;have h1:=h a b (qg _) vj G;rw[uo d' a ha,uo d' b u4] at h1;simp only[ltOf,uq] at h1;simpa using h1
theorem bAq {w:World} (hw:Hp B w0 w R) {i T k c:Nat} {A:AF} {vs:AG} (hi:R[i]? =some ⟨T,k,A,0,c,vs,false⟩):R.set i ⟨T,k,A,0,c,[],false⟩=R/\vs=[]:=by
 have ij:=Row.lies_w (hw.own _ (gu hi)) rfl;have hl:=ij.1;simp only[Bq] at hl;obtain rfl:=dw hl;refine⟨?_,rfl⟩;apply ul;intro j;rw[xm];split
 ·rename_i h;subst h;split
  ·exact hi.symm
  ·rename_i h2;rw[lu G]
 ·rfl
theorem aDl {α:Type} {f g k:Nat} {cb:Array Value} {enc:α->AG} (Xx:aYf P f g cb k) (Xw:UC P f) (hk: ∀x,(enc x).length=k) (h1: ∀x,∀v∈enc x,v.oneCell'=true) {T c:Nat} {A:AF} {l:List α} (i:Nat) (hi:R[i]? =some ⟨T,k,A,l.length,c,l.flatMap enc,false⟩) (hsz:l.length<4611686018427387904) (cmp:α->α->Int) (hO:SWO (ltOf cmp))
  (Nz: ∀W,Hp B w0 W (R.eraseIdx i)-> ∀x∈l,∀y∈l,
   Ct P g (#[.agg (enc x).toArray, .agg (enc y).toArray]++cb) W.heap.size W [] (λv _=>v= .int .i64 (cmp x y))):
  Ct P f #[.slice A l.length c, .func (.func g) #[] cb] B w0 R (λv R'=>v= .tuple #[]/\ ∃l':List α,l'.Perm l/\l'.Pairwise (λx y=> ¬cmp y x<0)/\R'=R.set i ⟨T,k,A,l'.length,c,l'.flatMap enc,false⟩):=by
 intro w hw;rcases l with _|⟨x0,l0⟩
 ·refine (Xw A c _ w).mono ?_;rintro e w' ⟨rfl,rfl⟩;obtain⟨h1,h2⟩:=bAq hw hi;exact⟨_,_,rfl,hw,rfl,[], .refl _, .nil,h1.symm⟩
 generalize hl:x0::l0=l at*;have ff:0<l.length:=by rw[<-hl];simp
 have ij:=Row.lies_w (hw.own _ (gu hi)) rfl;rcases ij.2 with⟨_,hn⟩|⟨go,cap,cur,hv,hb,hg,hnc,tc,ke,ht⟩
 ·simp only at hn;omega
 simp only[ku,Ak] at hv;obtain⟨rfl,rfl⟩:=hv;simp only at ht ke hg hnc
 haveI:Inhabited {p:α//p∈l}:=⟨⟨l[0],mg _⟩⟩
 obtain⟨d,hd⟩: ∃d:Array {p:α//p∈l},d=l.attach.toArray:=⟨_,rfl⟩;have d8:d.size=l.length:=by rw[hd];simp
 have Sy:d.toList.map Subtype.val=l:=by rw[hd];exact Fh l
 have Lb: ∀x: {p:α//p∈l},(enc x.1).length=k:=λx=>hk x.1;have hfm: ∀e:List {p:α//p∈l},e.flatMap (λx=>enc x.1)=(e.map Subtype.val).flatMap enc:=λe=>by rw[List.flatMap_map]
 have bp:go<w.heap.size:=(gp.1 hg).1
 have hH:HoldsK (λx: {p:α//p∈l}=>enc x.1) k w go 0 d:=by
  intro j hj
  have xi:j<l.length*k:=by
   have:j<(flatK (λx: {p:α//p∈l}=>enc x.1) k d).size:=hj;rw[size_flatK,d8] at this;exact this
  have hf:=NS Lb d;rw[hfm,Sy] at hf
  have e:(l.flatMap enc)[j]? =some ((flatK (λx: {p:α//p∈l}=>enc x.1) k d)[j]!):=by
   rw[<-hf,si,qb hj,uo _ j hj]
  refine⟨?_,?_⟩
  ·rw [og];exact hw.cellAt i hi rfl e
  ·exact hw.openAt i (0+j) hi rfl rfl
 have xv:CmpLays P g cb (λx: {p:α//p∈l}=>enc x.1) k (λx y=>cmp x.1 y.1) go 0 d.size w:=by
  intro m' os dk Su x y;have hW:=(hw.putRow hi (flatK (λx: {p:α//p∈l}=>enc x.1) k dk) (by rw[size_flatK,Su,d8]) m' os).2;refine(Nz (sortWorldK (λx: {p:α//p∈l}=>enc x.1) k w go 0 m' dk os) hW x.1 x.2 y.1 y.2 _ (Hp.refl _)).mono ?_;rintro e w' ⟨v,R',rfl,hh,rfl⟩;exact⟨rfl,aAf hh.below hh.late.1⟩
 have Xu:SWO (ltOf λ(x y: {p:α//p∈l})=>cmp x.1 y.1):=⟨λx=>hO.irrefl x.1,λx y z=>hO.trans x.1 y.1 z.1,λx y z=>hO.ntrans x.1 y.1 z.1⟩;have d7:=Xx _ (λx: {p:α//p∈l}=>enc x.1) Lb (λx=>h1 x.1) _ Xu go 0 c d w xv hH bp (by rw[d8];exact hsz);rw[d8] at d7;refine d7.mono ?_;rintro e w' ⟨rfl,d',n,os,sg,Hc,rfl⟩;rw[<-d8] at sg;have Cp:d'.size=l.length:=by rw[sg.1,d8]
 have hW:=(hw.putRow hi (flatK (λx: {p:α//p∈l}=>enc x.1) k d') (by rw[size_flatK,Cp]) n os).1;rw[NS Lb,hfm] at hW
 have da:(d'.toList.map Subtype.val).Perm l:=by
  have:=(MQ sg).map Subtype.val;rwa[Sy] at this
 refine⟨_,_,rfl,hW,rfl,d'.toList.map Subtype.val,da,?_,?_⟩
 ·exact ik.2 (PO Hc Cp)
 ·rw[da.length_eq]
end
end Go.Eng
namespace Go.Pure
open Go Go.Eng
def Bd (u:AH) (n k:Nat):Prop:=k<n/\ ∀e,e<k->lt u e=lt u (n-k+e)
def MB (u:AH) (n:Nat) (k:Int):Prop:=0<=k/\Bd u n k.toNat/\ ∀q:Nat,Bd u n q->(q:Int)<=k
def KI (u:AH) (i:Nat) (n:Int):Prop:=0<=n/\Bd u i n.toNat/\ ∀q:Nat,Bd u i q->n<q->lt u q≠lt u i
variable {u:AH}
theorem MB.one:MB u 1 0:=⟨G,⟨G,λe he=>by simp at he⟩,λq h=>by have:=h.1;omega⟩
theorem MB.bd {n:Nat} {k:Int} (h:MB u n k):0<=k/\k<n:=⟨h.1,by have:=h.2.1.1;have:=h.1;omega⟩
theorem KI.bd {n:Nat} {k:Int} (h:KI u n k):0<=k/\k<n:=⟨h.1,by have:=h.2.1.1;have:=h.1;omega⟩
theorem KI.init {i:Nat} {n:Int} (h:MB u i n):KI u i n:=⟨h.1,h.2.1,λq hq hn=>by have:=h.2.2 q hq;omega⟩
theorem KI.step {i:Nat} {n m:Int} (h:KI u i n) (cv:lt u n.toNat≠lt u i) (hb:MB u n.toNat m):KI u i m:=by
 obtain⟨h0,⟨h1,h2⟩,h3⟩:=h;obtain⟨g0,⟨g1,g2⟩,g3⟩:=hb;refine⟨g0,⟨G,λe he=> ?_⟩,λq hq Zb=> ?_⟩
 ·rw [g2 e he,h2 (n.toNat-m.toNat+e) G];congr 1;omega
 ·rcases xw q n.toNat with a|a|a
  ·have:Bd u n.toNat q:=⟨a,λe he=>by
    rw[hq.2 e he,h2 (n.toNat-q+e) G];congr 1
    omega⟩
   have:=g3 q this;omega
  ·subst a;exact cv
  ·exact h3 q hq G
theorem KI.hit {i:Nat} {n:Int} (h:KI u i n) (he:lt u n.toNat=lt u i):MB u (i+1) (n+1):=by
 obtain⟨h0,⟨h1,h2⟩,h3⟩:=h;refine⟨G,⟨G,λe hE=> ?_⟩,λq hq=> ?_⟩
 ·rcases gm e n.toNat with a|a
  ·rw[h2 e a];congr 1;omega
  ·obtain rfl:e=n.toNat:=G
   rw[he];congr 1;omega
 ·rcases q with _|q
  ·omega
  ·have hb:Bd u i q:=⟨by have:=hq.1;omega,λe hE=>by rw[hq.2 e G];congr 1;omega⟩;have hl:=hq.2 q G;have:=hq.1;rw[show i+1-(q+1)+q=i by omega] at hl;rcases bz n q with a|a
   ·exact absurd hl (h3 q hb a)
   ·omega
theorem KI.miss {i:Nat} {n:Int} (h:KI u i n) (hn:n<=0) (he:lt u n.toNat≠lt u i):MB u (i+1) n:=by
 obtain⟨h0,⟨h1,h2⟩,h3⟩:=h;obtain rfl:n=0:=G
 refine⟨G,⟨G,λe hE=>by simp at hE⟩,λq hq=> ?_⟩;rcases q with _|q
 ·omega
 ·have hb:Bd u i q:=⟨by have:=hq.1;omega,λe hE=>by rw[hq.2 e G];congr 1;omega⟩;have hl:=hq.2 q G;have:=hq.1;rw[show i+1-(q+1)+q=i by omega] at hl;rcases ek q with a|a
  ·subst a;exact absurd hl he
  ·exact absurd hl (h3 q hb G)
theorem aKb {n k:Nat} (hn:n=u.length) (hk:k<n):Bd u n k↔PH u (n-k):=by
 subst hn;rw[MR];constructor
 ·intro h i hi;have:=h.2 i G;unfold lt at this;rw[this];congr 1;omega
 ·intro h;refine⟨hk,λe he=> ?_⟩;have:=h e G;unfold lt;rw[<-this];congr 1;omega
theorem MB.least {k:Int} (hn:0<u.length) (h:MB u u.length k):(u.length:Int)-k=lp u:=by
 obtain⟨r,e,r1,r2,hp,On⟩:=JX hn;obtain⟨k0,hb,ua⟩:=h;have vl:=hb.1;have h1:=ua (u.length-r) ((aKb rfl G).2 (by rw[show u.length-(u.length-r)=r by omega];exact hp));have h2:=(aKb rfl hb.1).1 hb;rcases gm (u.length-k.toNat) r with a|a
 ·exact absurd h2 (On _ G a)
 ·omega
theorem yS: ∀a b:AH,cmpL b a= -cmpL a b
 |[],[]=>rfl
 |[],_::_=>rfl
 |_::_,[]=>rfl
 |x::a,y::b=>by
  rw[cmpL,cmpL,yS a b];split<;>split<;>omega
theorem cmpL_eq: ∀a b:AH,cmpL a b=0↔a=b
 |[],[]=>by simp[cmpL]
 |[],_::_=>by simp[cmpL]
 |_::_,[]=>by simp[cmpL]
 | x::a,y::b=>by
  have ih:=cmpL_eq a b;rw[cmpL];split
  ·simp;omega
  ·split
   ·simp;omega
   ·rw[ih];simp;omega
theorem aJs: ∀a b c:AH,cmpL a b<=0->cmpL b c<=0->cmpL a c<=0
 |[],[],_,_,h=>h
 |[],_::_,[],_,h=>by simp[cmpL] at h
 |[],_::_,_::_,_,_=>by simp[cmpL]
 |_::_,[],_,h,_=>by simp[cmpL] at h
 |_::_,_::_,[],_,h=>by simp[cmpL] at h
 | x ::a,y::b,z::c,h1,h2=>by
  have ih:=aJs a b c;rw[cmpL] at h1 h2 ⊢;split at h1
  ·split at h2
   ·rw[di G];omega
   ·split at h2
    ·omega
    ·rw[di G];omega
  ·split at h1
   ·omega
   ·split at h2
    ·rw[di G];omega
    ·split at h2
     ·omega
     ·rw[df G,df G];exact ih h1 h2
abbrev RT:=AH × Int
def kM (a b:RT):Int:=if cmpL a.1 b.1≠0 then cmpL a.1 b.1 else iG a.2 b.2
theorem qK (a b:RT):kM b a= -kM a b:=by
 unfold kM;rw[yS a.1 b.1,aOs a.2 b.2];split<;>split<;>omega
theorem VR (a b:RT):kM a b=0↔a=b:=by
 unfold kM;have h1:=cmpL_eq a.1 b.1;have h2:= @kJ a.2 b.2;rw[Prod.ext_iff];split
 ·rename_i c;constructor
  ·intro h;exact absurd h c
  ·intro h;exact absurd (h1.2 h.1) c
 ·rename_i c;rw[h2];constructor
  ·intro h;exact⟨h1.1 G,h⟩
  ·intro h;exact h.2
theorem bCl {a b:Int}:iG a b<=0↔a<=b:=by unfold iG;split<;>(try split)<;>omega
theorem IK {a b:RT}:kM a b<=0↔cmpL a.1 b.1<0\/a.1=b.1/\a.2<=b.2:=by
 unfold kM;have h1:=cmpL_eq a.1 b.1;have h2:= @bCl a.2 b.2;split
 ·rename_i c;constructor
  ·intro h;left;omega
  ·rintro (h|h)
   ·omega
   ·exact absurd (h1.2 h.1) c
 ·rename_i c;rw[h2];constructor
  ·intro h;exact .inr ⟨h1.1 G,h⟩
  ·rintro (h|h)
   ·omega
   ·exact h.2
theorem JY (a b c:RT) (h1:kM a b<=0) (h2:kM b c<=0):kM a c<=0:=by
 rw[IK] at h1 h2 ⊢;have h:=aJs a.1 b.1 c.1;have e1:=cmpL_eq a.1 b.1;have e2:=cmpL_eq b.1 c.1;have e3:=cmpL_eq a.1 c.1;rcases h1 with h1|h1
 ·rcases h2 with h2|h2
  ·have a1:=h G G;rcases Cm a1 with g|g
   ·exact .inl g
   ·have e:=e3.1 g;rw[e,yS b.1 c.1] at h1;omega
  ·exact .inl (by rw[<-h2.1];exact h1)
 ·rcases h2 with h2|h2
  ·exact .inl (by rw[h1.1];exact h2)
  ·exact .inr ⟨h1.1.trans h2.1,G⟩
theorem JC {l m:List RT} (hp:l.Perm m) (hl:l.Pairwise λa b=>kM a b<=0) (hm:m.Pairwise λa b=>kM a b<=0):l=m:=
 hp.eq_of_pairwise (λa b _ _ h1 h2=>(VR a b).1 (by rw[qK a b] at h2;omega)) hl hm
def lw (u:AH):AH:=kS u (nQ u)
def jR (c:AH):AH:=c.take (rl c).toNat
def gB (c:AH):Int:=(c.length:Int)/rl c
def lQ (u:AH):RT:=(jR (lw u),gB (lw u))
def dE (ws:AD):List RT:=(ws.filter λw=>decide (0<w.length)).map lQ
def fI (ws:AD):List RT:=(dE ws).mergeSort λa b=>decide (kM a b<=0)
def KR (r:RT):AH:=rep r.1 r.2
def canon (ws:AD):AD:=(fI ws).map KR
theorem iK (ws:AD):(fI ws).Perm (dE ws):=List.mergeSort_perm _ _
theorem uR (ws:AD):(fI ws).Pairwise λa b=>kM a b<=0:=by
 have:=List.pairwise_mergeSort (le:=λa b:RT=>decide (kM a b<=0)) (λa b c h1 h2=>ni (JY a b c (yu h1) (yu h2))) (λa b=>by
  rw[Ar,zz,zz,qK a b];omega) (dE ws)
 exact this.imp λh=>yu h
theorem FM {ws:AD} {l:List RT} (hp:l.Perm (dE ws)) (hs:l.Pairwise λa b=>kM a b<=0):l=fI ws:=JC (hp.trans (iK ws).symm) hs (uR ws)
theorem YS {ws xs:AD} (hp:(dE ws).Perm (dE xs)):fI ws=fI xs:=FM ((iK ws).trans hp) (uR ws)
theorem kL (u:AH):(lw u).length=u.length:=nW u _
theorem bGu:lw []=[]:=rfl
theorem aRi {r:Nat} (hr:r<=u.length) (hn:0<u.length):om (kS u r)=rot u r:=by
 have h1:=pX (kS u r);rw[nW] at h1;funext d;rw[<-h1.mod d,<-(UZ (s:=u) r).mod d];have hd:=yh d hn;have:=mY hr hd;rw[pQ (by rw[nW];exact hd)];rw[show((r:Nat):Int)=(r:Int) from rfl] at*;exact this
theorem UY {r q:Nat} (hr:r<=u.length) (hn:0<u.length):rot (kS u r) q=rot u (r+q):=by
 funext d;show om (kS u r) (q+d)=om u (r+q+d);rw[aRi hr hn];show om u (r+(q+d))=_;rw[mo]
theorem bBd (u:AH):nQ (lw u)=0:=by
 rcases ek u.length with z|z
 ·rw[dw z];rfl
 ·have hl:=kL u;have fl:=yM z;have hb:iN u u.length<=u.length:=by have:=fl.lt;omega
  have e:lw u=kS u (iN u u.length:Nat):=rfl
  have f2:FL (lw u) 0:=⟨G,λr hr=>by
   rw[e,UY hb z,UY hb z]
   exact fl.any _,λr hr=>G⟩
  have f3:=yM (s:=lw u) G;have:=f3.one f2;unfold nQ;omega
theorem bGl {a b:AH} (hl:a.length=b.length) (h:om a=om b):a=b:=by
 refine bL hl λj h0 h1=> ?_;have:=congrFun h j.toNat;rw[pQ G,pQ G] at this;exact this
theorem bFt {c:AH} (h:0<c.length):(c.length:Int)%rl c=0:=by
 obtain⟨r,e,r1,r2,_,_⟩:=JX h;unfold rl;split
 ·exact Int.emod_self
 ·omega
theorem LQ {c:AH} (h:0<c.length):((jR c).length:Int)=rl c:=by
 have:=pK h;unfold jR;rw[ax];omega
theorem QT {c:AH} (h:0<c.length):gB c*rl c=c.length:=Int.ediv_mul_cancel (Int.dvd_of_emod_eq_zero (bFt h))
theorem sZ {c:AH} (h:0<c.length):0<gB c:=by
 have h1:=QT h;have h2:=pK h;rcases bz 0 (gB c) with a|a
 ·exact a
 ·have:=Int.mul_nonneg_of_nonpos_of_nonpos a (show -(rl c)<=0 by omega);rw[Int.mul_neg] at this;omega
theorem aZj {c:AH} (h:0<c.length):om (jR c)=om c:=by
 obtain⟨r,e,r1,r2,ho,_⟩:=VB h;funext i;rw[ho i];unfold jR;rw[e];rfl
theorem rW {c:AH} (h:0<c.length):rep (jR c) (gB c)=c:=by
 have hr:=LQ h;have hp:=pK h;have ht:=sZ h
 have hl:(rep (jR c) (gB c)).length=c.length:=by
  rw[oC];have h1:=QT h
  have:((gB c).toNat*(jR c).length:Int)=c.length:=by
   rw[lm G,hr,h1]
  exact_mod_cast this
 refine bGl hl ?_;rw[show gB c=((gB c).toNat:Int) by omega];funext i;rw[aTk G G,aZj h]
theorem EY {w:AH} (h:0<w.length):KR (lQ w)=lw w:=rW (by rw[kL];exact h)
theorem aMj {ws:AD} {r:RT} (h:r∈dE ws): ∃w∈ws,0<w.length/\r=lQ w:=by
 unfold dE at h;obtain⟨w,hw,e⟩:=ii.1 h;obtain⟨h1,h2⟩:=nu.1 hw;exact⟨w,h1,yu h2,e.symm⟩
theorem tV {ws:AD} {r:RT} (h:r∈fI ws): ∃w∈ws,0<w.length/\r=lQ w:=aMj ((iK ws).subset h)
theorem SC {ws:AD} {c:AH} (h:c∈canon ws): ∃w∈ws,0<w.length/\c=lw w:=by
 obtain⟨r,hr,rfl⟩:=ii.1 h;obtain⟨w,h1,h2,rfl⟩:=tV hr;exact⟨w,h1,h2,EY h2⟩
theorem kT (a b:AD):dE (a++b)=dE a++dE b:=by unfold dE;rw[tq,iv]
theorem TM (ws:AD):(canon ws).length=(dE ws).length:=by
 unfold canon;rw[bq,(iK ws).length_eq]
end Go.Pure
namespace Go.Eng
open Go Go.RowKit Go.Pure
section
variable {P:Program} {n:Nd} {B:Nat} {w0:World} {L:Env} {R:List Row} {ty:TypeId}
theorem aLz {w:World} {A:AF} {m c:Nat} {k:IntKind} {u:AH} (h:Rd w A m c 1 (ints k u)) (hA:A.isNone=true):u=[]:=by
 cases u with
 |nil=>rfl
 |cons y l=>
  obtain⟨b,g,_⟩:=h.at_ 0 (.int k y) (by simp[ints]);rw[g] at hA;cases hA
theorem SlR.weak {k:IntKind} {Rs Rf:List Row} {vals:AG} {ls:AD} (h:SlR k Rs vals ls) (hr: ∀B w0 w,Hp B w0 w Rf->Hp B w0 w Rs):SlR k Rf vals ls:=
 ⟨h.1,λj hj=>by
  obtain⟨A,c,h1,h2⟩:=h.2 j hj
  exact⟨A,c,h1,λB w0 w hw=>h2 B w0 w (hr B w0 w hw)⟩⟩
theorem SlR.right {k:IntKind} {Rs:List Row} {vals:AG} {ls:AD} (h:SlR k Rs vals ls) (X:List Row):SlR k (X++Rs) vals ls:=h.weak λ_ _ _ hw=>hw.right
theorem SlR.left {k:IntKind} {Rs:List Row} {vals:AG} {ls:AD} (h:SlR k Rs vals ls) (T:List Row):SlR k (Rs++T) vals ls:=h.weak λ_ _ _ hw=>hw.left
theorem aAg {l m:AD} {j:Nat} (h:j<l.length):(l++m).getD j []=l.getD j []:=by
 rw[ai,ai,jl h]
theorem SlR.app {k:IntKind} {Rs:List Row} {v1 v2:AG} {l1 l2:AD} (h:SlR k Rs v1 l1) (g:SlR k Rs v2 l2):SlR k Rs (v1++v2) (l1++l2):=by
 refine⟨by simp[h.1,g.1],λj hj=> ?_⟩;rcases gm j l1.length with q|q
 ·obtain ⟨A,c,h1,h2⟩:=h.2 j q;rw[aAg q,jl (by rw[h.1];exact q)];exact⟨A,c,h1,h2⟩
 ·rw [ah] at hj;obtain⟨A,c,h1,h2⟩:=g.2 (j-l1.length) G
  have e:(l1++l2).getD j []=l2.getD (j-l1.length) []:=by
   rw[ai,ai,ji q]
  rw[e,ji (by rw[h.1];exact q),h.1];exact⟨A,c,h1,h2⟩
theorem SlR.take {k:IntKind} {Rs:List Row} {vals:AG} {ls:AD} (h:SlR k Rs vals ls) (i:Nat):SlR k Rs (vals.take i) (ls.take i):=by
 refine⟨by simp[h.1],λj hj=> ?_⟩;rw[ax] at hj;obtain⟨A,c,h1,h2⟩:=h.2 j G
 have e:(ls.take i).getD j []=ls.getD j []:=by
  rw[ai,ai,rf G]
 rw[e,rf G];exact⟨A,c,h1,h2⟩
theorem SlR.drop {k:IntKind} {Rs:List Row} {vals:AG} {ls:AD} (h:SlR k Rs vals ls) (i:Nat):SlR k Rs (vals.drop i) (ls.drop i):=by
 refine⟨by simp[h.1],λj hj=> ?_⟩;rw[az] at hj;obtain⟨A,c,h1,h2⟩:=h.2 (i+j) G
 have e:(ls.drop i).getD j []=ls.getD (i+j) []:=by
  rw[ai,ai,qz]
 rw[e,qz];exact⟨A,c,h1,h2⟩
theorem SlR.single {k:IntKind} {Rs:List Row} {A:AF} {m c:Nat} {l:AH} (hm:m=l.length) (h: ∀B w0 w,Hp B w0 w Rs->Rd w A m c 1 (ints k l)):SlR k Rs [.slice A m c] [l]:=by
 subst hm;refine⟨rfl,λj hj=> ?_⟩;simp only[ib] at hj;obtain rfl:j=0:=G
 exact⟨A,c,rfl,h⟩
theorem SlR.push {k:IntKind} {Rs:List Row} {vals:AG} {ls:AD} {A:AF} {m c:Nat} {l:AH} (h:SlR k Rs vals ls) (hm:m=l.length) (hr: ∀B w0 w,Hp B w0 w Rs->Rd w A m c 1 (ints k l)):SlR k Rs (vals++[.slice A m c]) (ls++[l]):=h.app (SlR.single hm hr)
theorem SlR.one {k:IntKind} {Rs:List Row} {vals:AG} {ls:AD} (h:SlR k Rs vals ls): ∀v∈vals,v.oneCell'=true:=λv hv=>by
 obtain⟨j,hj,e⟩:=gz.1 hv;obtain⟨A,c,h1,_⟩:=h.2 j (by rw[<-h.1];exact hj);rw[av hj,e] at h1;obtain rfl:=je h1;simp[Value.oneCell']
def OkB (ls:AD):Prop:= ∀l∈ls,aN l/\l.length<=140737488355327
theorem SlR.slw {Rs:List Row} {vals:AG} {ls:AD} (h:SlR .u8 Rs vals ls) (hb:OkB ls) {w:World} (hw:Hp B w0 w Rs):SlW .u8 w vals ls:=
 ⟨h.1,λj hj=>by
  obtain⟨A,c,h1,h2⟩:=h.2 j hj
  have hm:ls.getD j []∈ls:=by
   rw[ai,av hj];exact mg hj
  exact⟨A,c,h1,h2 _ _ _ hw,λx hx=>dR ((hb _ hm).1 x hx),(hb _ hm).2⟩⟩
theorem SlW.take {k:IntKind} {w:World} {vals:AG} {ls:AD} (h:SlW k w vals ls) (i:Nat):SlW k w (vals.take i) (ls.take i):=by
 refine⟨by simp[h.1],λj hj=> ?_⟩;rw[ax] at hj
 have e:(ls.take i).getD j []=ls.getD j []:=by
  rw[ai,ai,rf G]
 rw[e,rf G];exact h.2 j G
theorem SlW.one {k:IntKind} {w:World} {vals:AG} {ls:AD} (h:SlW k w vals ls): ∀v∈vals,v.oneCell'=true:=λv hv=>by
 obtain⟨j,hj,e⟩:=gz.1 hv;obtain⟨A,c,h1,_⟩:=h.2 j (by rw[<-h.1];exact hj);rw[av hj,e] at h1;obtain rfl:=je h1;simp[Value.oneCell']
theorem SlW.app {k:IntKind} {w:World} {v1 v2:AG} {l1 l2:AD} (h:SlW k w v1 l1) (g:SlW k w v2 l2):SlW k w (v1++v2) (l1++l2):=by
 refine⟨by simp[h.1,g.1],λj hj=> ?_⟩;rcases gm j l1.length with q|q
 ·rw [aAg q,jl (by rw[h.1];exact q)];exact h.2 j q
 ·rw [ah] at hj
  have e:(l1++l2).getD j []=l2.getD (j-l1.length) []:=by
   rw[ai,ai,ji q]
  rw[e,ji (by rw[h.1];exact q),h.1];exact g.2 (j-l1.length) G
theorem SlW.okB {w:World} {vals:AG} {ls:AD} (h:SlW .u8 w vals ls):OkB ls:=λl hl=>by
 obtain⟨j,hj,e⟩:=gz.1 hl;obtain⟨A,c,_,_,h3,h4⟩:=h.2 j hj;have e2:ls.getD j []=l:=by rw[ai,av hj,e];rfl
 rw[e2] at h3 h4;exact⟨byteL_wf h3,h4⟩
structure RC where
 A:AF
 c:Nat
 root:AH
 times:Int
def encR (r:RC):AG:=[.slice r.A r.root.length r.c, .int .i64 r.times]
def RC.rt (r:RC):RT:=(r.root,r.times)
def rdG (l:List RC) (i:Int):RC:=l.getD i.toNat ⟨none,0,[],0⟩
def rgs (l:List RC):AG:=l.flatMap encR
def RgR (Rs:List Row) (l:List RC):Prop:= ∀r∈l,aN r.root/\ ∀(B:Nat) (w0 w:World),Hp B w0 w Rs->Rd w r.A r.root.length r.c 1 (ints .u8 r.root)
theorem RgR.nil (Rs:List Row):RgR Rs []:=λr h=>by cases h
theorem RgR.weak {Rs Rf:List Row} {l:List RC} (h:RgR Rs l) (hr: ∀B w0 w,Hp B w0 w Rf->Hp B w0 w Rs):RgR Rf l:=λr h'=>⟨(h r h').1,λB w0 w hw=>(h r h').2 B w0 w (hr B w0 w hw)⟩
theorem RgR.right {Rs:List Row} {l:List RC} (h:RgR Rs l) (X:List Row):RgR (X++Rs) l:=h.weak λ_ _ _ hw=>hw.right
theorem RgR.snoc {Rs:List Row} {l:List RC} {e m:Nat} {A:AF} {c:Nat} {u:AH} {t:Int} {ro:Bool} (h:RgR Rs l) (hm:m=u.length) (hb:aN u):RgR (⟨e,1,A,m,c,ints .u8 u,ro⟩::Rs) (l++[⟨A,c,u,t⟩]):=λr hr=>by
 subst hm;rcases dz.1 hr with hr|hr
 ·exact⟨(h r hr).1,λB w0 w hw=>(h r hr).2 B w0 w hw.tail⟩
 ·obtain rfl:=ic.1 hr;exact⟨hb,λB w0 w hw=>rdr (R:=⟨e,1,A,u.length,c,ints .u8 u,ro⟩::Rs) 0 rfl w hw⟩
theorem RgR.perm {Rs:List Row} {l m:List RC} (h:RgR Rs l) (hp:m.Perm l):RgR Rs m:=λr hr=>h r (hp.subset hr)
theorem aHy (l:List RC):(rgs l).length=l.length*2:=aVi (enc:=encR) (λ_=>rfl) l
theorem aHz (l m:List RC):rgs (l++m)=rgs l++rgs m:=Bv
theorem aZp (l:List RC): ∀v∈rgs l,v.oneCell'=true:=λv hv=>by
 obtain⟨r,_,h⟩:=Ai.1 hv;simp only[encR,jc,vk,Gm] at h;rcases h with rfl|rfl<;>rfl
theorem aVr (x:RC): ∀v∈encR x,v.oneCell'=true:=λv hv=>by
 simp only[encR,jc,vk,Gm] at hv;rcases hv with rfl|rfl<;>rfl
theorem yG {l:List RC} {i:Int} (h0:0<=i) (h1:i<l.length):rdG l i∈l:=by
 unfold rdG;rw[ai,av G];exact mg _
theorem bFy {l:List RC} {i:Int} (h0:0<=i) (h1:i<l.length):((rgs l).drop (i.toNat*2)).take 2=encR (rdG l i):=by
 have e:l=l.take i.toNat++rdG l i::l.drop (i.toNat+1):=by
  conv=>lhs;rw[<-gy i.toNat l]
  congr 1;rw[ll G];congr 1;unfold rdG;rw[ai,av G];rfl
 have hl:(rgs (l.take i.toNat)).length=i.toNat*2:=by rw[aHy,ax,zo G]
 have e2:rgs l=rgs (l.take i.toNat)++(encR (rdG l i)++rgs (l.drop (i.toNat+1))):=by
  conv=>lhs;rw[e]
  rw[aHz];rfl
 rw[e2,Jh hl];rfl
theorem bDl {x:Operand} {t:TypeId} {d:TypeDesc} {A:AF} {m c:Nat} {l:List RC} {i:Int} (hu:P.underlying t=some d) (hd:GX d=true) (ge:(P.info? t).map (·.size)=some 2) (hx:ev L x=some (.pointer (pat A (i.toNat*2)))) (hr:RdC B w0 R A m c 2 (rgs l)) (h0:0<=i) (h1:i<l.length):
  Yl P n B w0 (.load t x) ty L R (.agg #[.slice (rdG l i).A (rdG l i).root.length (rdG l i).c, .int .i64 (rdG l i).times]):=by
 have:=aPu (P:=P) (n:=n) (B:=B) (w0:=w0) (R:=R) (ty:=ty) hu hd ge hx rfl hr (by rw[aHy];omega) G;rwa[bFy h0 h1] at this
theorem aPm {s x:Operand} {t e:TypeId} {z:Value} {bytes m p c c2:Nat} {A A2:AF} {l news:List RC} (i:Nat) (hi:R[i]? =some ⟨e,2,A,p,c,rgs l,false⟩) (ht:P.underlying t=some (.slice e)) (dt:(P.info? e).map (λi=>(i.zero,i.size,i.bytes))=some (some z,2,bytes)) (hz:z.cells.size=2) (o7:Nat.blt 0 bytes=true)
  (hs:ev L s=some (.slice A p c)) (hx:ev L x=some (.slice A2 m c2)) (gr:RdC B w0 R A2 m c2 2 (rgs news)) (kl:(p+m)*bytes<=140737488355328):
  Ac P n B w0 (.call {callee:= .builtin .append,args:= #[s,x],argTypes:= #[t,t]}) ty L R (λv R'=> ∃A' c',v= .slice A' (p+m) c'/\R'=R.set i ⟨e,2,A',p+m,c',rgs (l++news),false⟩):=by
 have:=fJ (P:=P) (n:=n) (B:=B) (w0:=w0) (ty:=ty) i hi rfl ht dt hz rfl o7 hs hx gr (aZp news) kl;simp only[<-aHz] at this;exact this
theorem bHz {t e:TypeId} {x:Operand} (r:RC) (ht:P.underlying t=some (.slice e)) (dt:(P.info? e).map (λi=>(i.zero,i.size))=some (some (.agg #[.slice none 0 0, .int .i64 0]),2)) (hx:ev L x=some (.agg #[.slice r.A r.root.length r.c, .int .i64 r.times])):
  Ac P n B w0 (.buildSlice t 1 #[(0,x)]) ty L R (λv R'=> ∃g,v= .slice (some ⟨g,0,none⟩) 1 1/\R'=⟨e,2,some ⟨g,0,none⟩,1,1,rgs [r],false⟩::R):=by
 have hv:evp L [(0,x)]=some [(0, .agg #[.slice r.A r.root.length r.c, .int .i64 r.times])]:=by simp[evp,hx]
 exact qG (P:=P) (n:=n) (B:=B) (w0:=w0) (L:=L) (R:=R) (ty:=ty) (len:=1) (ps:=[(0,x)]) (cells:= #[.slice r.A r.root.length r.c, .int .i64 r.times]) ht dt hv cC cC cA (by rfl)
end
end Go.Eng
namespace Go.Proofs.YtdbebmmhdefgdaaGreat
open Go Go.Eng Go.Pure
open Tryz
set_option maxRecDepth 100000
variable {w:World} {x:Int} {ap nw:AF} {bl an qu oe:Nat} {u t:AH}
theorem SQ:
  CF 194 #[I x] w (λv R'=>v=bf):=by
 refine fn1 Iy Z Z Z ?_;refine wq<|wn Z<|wq<|wm Z<|wm Z<|wy (Yl.f (jP Z Z))<|wn Z<|bQ ?_;refine⟨_,Z,?_⟩;rfl
theorem pV {y:Int}:
  CF 121 #[I x,I y] w (λv R'=>v=I (iG x y)):=by
 refine fn1 Tryz.func121 Z Z Z ?_;refine wq<|wn Z<|wq<|wm Z<|wa (aC bEq Z (Ct.quiet (λw hw=>SQ))) ?_;rintro _ _⟨rfl,rfl⟩;refine wn Z<|wq<|wm Z<|wa (aC bEq Z (Ct.quiet (λw hw=>SQ))) ?_;rintro _ _⟨rfl,rfl⟩;refine wn Z<|aD<|wq<|wm Z<|aA<|aP Z<|aI<|aD<|wq<|wm Z<|aA<|aP Z ?_;refine aI<|aD<|wq<|wm Z<|wm Z<|wL Z Z<|aA<|bA Z (λba=> ?_) (λba=> ?_)
 ·refine wq<|wn Z<|bQ ?_;refine⟨_,Z,?_⟩;exact bu (Value.int .i64) (by unfold iG;rw[di G])
 ·refine aI<|aD<|wq<|wm Z<|wm Z<|wy (dA Z Z)<|aA<|bA Z (λcj=> ?_) (λcj=> ?_)
  ·refine wq<|wn Z<|bQ ?_;refine⟨_,Z,?_⟩;exact bu (Value.int .i64) (by unfold iG;rw[df G,di G])
  ·refine aI<|wq<|wn Z<|bQ ?_;refine⟨_,Z,?_⟩;exact bu (Value.int .i64) (by unfold iG;rw[df G,df G])
theorem xX (ac:Rd w ap bl an 1 (ints .u8 u)) (qs:Rd w nw qu oe 1 (ints .u8 t)):
  CF 96 #[sl ap bl an,sl nw qu oe] w (λv R'=>v=I (cmpL u t)):=by
 obtain rfl:=ac.lenI;obtain rfl:=qs.lenI;refine fn1 Tryz.func96 Z Z Z ?_;have kc:=ac.max;have Us:=qs.max;refine wq<|wn Z<|aD<|wq<|wn Z<|aH ?_;refine gZ (λ(i:Int)=>[(0,sl ap u.length an),(1,sl nw t.length oe),(5,I i)]) (λi=>[]) (λi=>(0<=i)/\(i<=u.length)/\(i<=t.length)/\(cmpL u t=cmpL (u.drop i.toNat) (t.drop i.toNat))) (λi=>(u.length-i).toNat) ?_ ?_
 ·exact⟨0,⟨G,G,G,cD⟩,KP⟩
 intro i ⟨bb,Ok,hit,hc⟩;refine aD<|wq<|wm Z<|wm Z<|wy (aL af Z)<|wL Z Z<|wm Z<|bV 5 [(0,sl ap u.length an),(1,sl nw t.length oe),(5,I i),(15, .bool (decide ((i<(u.length:Int))/\(i<(t.length:Int)))))] [] ?_ ?_
 ·refine bN 10 Z (λba=> ?_) (λba=> ?_)
  ·refine aB Z Z<|wm Z<|aB Z Z<|wm Z<|aB Z Z<|wy (aL af Z)<|aB Z Z<|wL Z Z<|wy (aS Z Z)<|aA ?_;exact KP
  ·refine aM Z Z Z Z<|aM Z Z Z Z<|aM Z Z Z Z<|aM Z Z Z Z<|wy (aO Z Z)<|aA ?_;exact KP
 refine aA<|bA Z (λcj=> ?_) (λcj=> ?_)
 ·refine aI<|aD<|aH<|aD<|bF mixed<|wD 0 Z (aJ Z)<|wD 1 Z (aJ Z)<|wD 2 Z (aF af sz5 Z Z (ac.c _))<|wD 3 Z (aU bn Z Z (ac.c _))<|wD 4 Z (aJ Z)<|wD 5 Z (aJ Z)<|wD 6 Z (aF af sz5 Z Z (qs.c _))<|wD 7 Z (aU bn Z Z (qs.c _))<|wD 8 Z (jP Z Z)<|wN ?_;refine bA Z (λfh=> ?_) (λfh=> ?_)
  ·refine aD<|aD<|bF mixed<|wD 0 Z (aJ Z)<|wD 1 Z (aJ Z)<|wD 2 Z (aF af sz5 Z Z (ac.c _))<|wD 3 Z (aU bn Z Z (ac.c _))<|wD 4 Z (aJ Z)<|wD 5 Z (aJ Z)<|wD 6 Z (aF af sz5 Z Z (qs.c _))<|wD 7 Z (aU bn Z Z (qs.c _))<|wD 8 Z (eZ Z Z)<|wN<|bA Z (λjj=> ?_) (λjj=> ?_)
   ·refine wq<|wn Z<|bQ ?_;refine⟨_,Z,?_⟩;exact bu (Value.int .i64) (by rw[hc,qM bb G G,di G])
   ·refine aI<|wq<|wn Z<|bQ ?_;refine⟨_,Z,?_⟩;exact bu (Value.int .i64) (by rw[hc,qM bb G G,df G,di G])
  ·refine aI<|aK<|wm Z<|wA Z Z<|wn Z ?_;exact⟨i+1,⟨G,G,G,(by rw[hc,qM bb G G,df G,df G])⟩,G,KP⟩
 ·refine aR<|aD<|aH<|wq<|wm Z<|wy (aL af Z)<|wm Z<|wy (aL af Z)<|wL Z Z<|wn Z<|bA Z (λkb=> ?_) (λkb=> ?_)
  ·refine wq<|wn Z<|bQ ?_;refine⟨_,Z,?_⟩;exact bu (Value.int .i64) (by rw[hc,uB bb Ok hit G,di G])
  ·refine wq<|wm Z<|wy (aL af Z)<|wm Z<|wy (aL af Z)<|wy (dA Z Z)<|wn Z<|bA Z (λwv=> ?_) (λwv=> ?_)
   ·refine wq<|wn Z<|bQ ?_;refine⟨_,Z,?_⟩;exact bu (Value.int .i64) (by rw[hc,uB bb Ok hit G,df G,di G])
   ·refine aI<|wq<|wn Z<|bQ ?_;refine⟨_,Z,?_⟩;exact bu (Value.int .i64) (by rw[hc,uB bb Ok hit G,df G,df G])
theorem WI (ac:Rd w ap bl an 1 (ints .u8 u)) (qs:Rd w nw qu oe 1 (ints .u8 t)) (Qc:u.length<=1000000) (bp:t.length<=1000000):
  CF 258 #[sl ap bl an,sl nw qu oe] w (λv R'=>v=I (OG u t)):=by
 obtain rfl:=ac.lenI;obtain rfl:=qs.lenI;refine fn1 Tryz.func258 Z Z Z ?_;have kc:=ac.max;have Us:=qs.max;refine wq<|wn Z<|aD<|wq<|wm Z<|wy (aL af Z)<|wy (fD Z Z)<|wm Z<|bV 4 [(0,sl ap u.length an),(1,sl nw t.length oe),(15, .bool (decide (((u.length:Int)=0)\/((t.length:Int)=0))))] [] ?_ ?_
 ·refine bN 11 Z (λba=> ?_) (λba=> ?_)
  ·refine aM Z Z Z Z<|aM Z Z Z Z<|aM Z Z Z Z<|wy (aS Z Z)<|aA ?_;exact KP
  ·refine aB Z Z<|wm Z<|aB Z Z<|wy (aL af Z)<|aB Z Z<|wy (fD Z Z)<|wy (aO Z Z)<|aA ?_;exact KP
 refine aA<|bA Z (λcj=> ?_) (λcj=> ?_)
 ·refine aD<|bF mixed<|wD 0 Z (aJ Z)<|wD 1 Z (aJ Z)<|wD 2 Z (aL af Z)<|wD 3 Z (sW Z Z)<|wD 4 Z (dV af sz5 Z Z (ac.c _) (by first|omega|exact jv _ G|exact iy _ G) (by first|omega|exact jv _ G|exact iy _ G)) ?_;refine wD 5 Z (aJ Z)<|wD 6 Z (aJ Z)<|wD 7 Z (aL af Z)<|wD 8 Z (sW Z Z)<|wD 9 Z (dV af sz5 Z Z (qs.c _) (by first|omega|exact jv _ G|exact iy _ G) (by first|omega|exact jv _ G|exact iy _ G)) ?_;refine wC 10 Z (aC bBz Z (Ct.quiet (λw hw=>xX ((RdC.toI (ac.c _) G) w hw) ((RdC.toI (qs.c _) G) w hw)))) ?_;rintro _ _⟨rfl,rfl⟩;refine⟨.inr hiZ,?_⟩;refine wD 11 Z (bB Z)<|wN<|bQ ?_;refine⟨_,Z,?_⟩;exact bu (Value.int .i64) (by rw[aGa u t G];unfold OG;rw[di G])
 ·refine aI<|aD<|wq<|wn Z<|aH ?_;refine gZ (λ(k:Int)=>[(0,sl ap u.length an),(1,sl nw t.length oe),(5,I k)]) (λk=>[]) (λk=>(0<=k)/\(k<=u.length+t.length)/\(OG u t=OE u t ((u.length:Int)+t.length-k).toNat k)) (λk=>((u.length:Int)+t.length-k).toNat) ?_ ?_
  ·exact⟨0,⟨G,G,(by unfold OG;rw[df G];congr 1<;>omega)⟩,KP⟩
  intro k ⟨ju,tz,hO⟩;refine aD<|wq<|wm Z<|wm Z<|wy (aL af Z)<|wm Z<|wy (aL af Z)<|wy (cK Z Z (by first|omega|exact jv _ G|exact iy _ G)) ?_;refine wL Z Z<|aA<|bA Z (λfh=> ?_) (λfh=> ?_)
  ·refine aI<|aD<|aH<|aD<|bF mixed<|wD 0 Z (aJ Z)<|wD 1 Z (aJ Z)<|wD 2 Z (aJ Z)<|wD 3 Z (aL af Z)<|wD 4 Z (rR Z Z (by first|omega|exact jv _ G|exact iy _ G) (by first|omega|exact jv _ G|exact iy _ G)) ?_;refine wD 5 Z (aF af sz5 Z Z (ac.c _) (by first|omega|exact jv _ G|exact iy _ G) (by first|omega|exact jv _ G|exact iy _ G)) ?_;refine wD 6 Z (aU bn Z Z (ac.c _) (by first|omega|exact jv _ G|exact iy _ G) (by first|omega|exact jv _ G|exact iy _ G)) ?_;refine wD 7 Z (aJ Z)<|wD 8 Z (aJ Z)<|wD 9 Z (aJ Z)<|wD 10 Z (aL af Z)<|wD 11 Z (rR Z Z (by first|omega|exact jv _ G|exact iy _ G) (by first|omega|exact jv _ G|exact iy _ G)) ?_;refine wD 12 Z (aF af sz5 Z Z (qs.c _) (by first|omega|exact jv _ G|exact iy _ G) (by first|omega|exact jv _ G|exact iy _ G)) ?_;refine wD 13 Z (aU bn Z Z (qs.c _) (by first|omega|exact jv _ G|exact iy _ G) (by first|omega|exact jv _ G|exact iy _ G)) ?_;refine wD 14 Z (bB Z)<|wD 15 Z (bB Z)<|wN<|aD<|wq<|wm Z<|wm Z<|wL Z Z<|aA<|bA Z (λjj=> ?_) (λjj=> ?_)
   ·refine wq<|wn Z<|bQ ?_;refine⟨_,Z,?_⟩;exact bu (Value.int .i64) (by rw[hO,OD G (by unfold iG;rw[di G];decide)];unfold iG;rw[di G])
   ·refine aI<|wq<|wm Z<|wm Z<|wy (dA Z Z)<|aA<|bA Z (λkb=> ?_) (λkb=> ?_)
    ·refine wq<|wn Z<|bQ ?_;refine⟨_,Z,?_⟩;exact bu (Value.int .i64) (by rw[hO,OD G (by unfold iG;rw[df G,di G];decide)];unfold iG;rw[df G,di G])
    ·refine aI<|aK<|wm Z<|wy (cK Z Z (by first|omega|exact jv _ G|exact iy _ G)) ?_;refine wn Z ?_;exact⟨k+1,⟨G,G,(by rw[hO,bCk G (by unfold iG;rw[df G,df G])];congr 1<;>omega)⟩,G,KP⟩
  ·refine aR<|wq<|wn Z<|bQ ?_;refine⟨_,Z,?_⟩;exact bu (Value.int .i64) (by rw[hO,show((u.length:Int)+t.length-k).toNat=0 by omega];rfl)
variable {u:AH} {i k:Int} {w:World} {ap:AF} {bl an:Nat}
theorem NK (s:AH): ∀n:Nat,0<n->iN s n<n
 | 1,_=>by
  have e:iN s 1=0:=by
   rw[iN,iN];split<;>rfl
  omega
 |n+2,_=>by
  have ih:=NK s (n+1) G;rw[iN];split<;>omega
theorem aMr (i1:1<=i) (hk:k=iN u i.toNat) (h:cmpL (kS u i) (kS u k)<0):i=iN u (i+1).toNat:=by
 rw[show(i+1).toNat=i.toNat+1 by omega,iN,di (by rw[<-hk,lm G];exact h)];omega
theorem aTx (i1:1<=i) (hk:k=iN u i.toNat) (h: ¬cmpL (kS u i) (kS u k)<0):k=iN u (i+1).toNat:=by
 rw[show(i+1).toNat=i.toNat+1 by omega,iN,df (by rw[<-hk,lm G];exact h),hk]
theorem bGn (ac:Rd w ap bl an 1 (ints .u8 u)) (am:aN u) (hN:u.length<=1000000):
  CF 116 #[sl ap bl an] w (λv R'=> ∃A c,v=sl A (lw u).length c/\R'=[(ru 5 A ((lw u).length) c (lw u))]):=by
 obtain rfl:=ac.lenI;refine fn1 Tryz.func116 Z Z Z ?_;have kc:=ac.max;have Mm:=VO u;have hfe:([u.drop (nQ u).toNat,u.take (nQ u).toNat]:AD).flatten=lw u:=by simp[lw,kS]
 have hlw:=kL u;refine wq<|wn Z<|wq<|wm Z<|wa (aC bLo Z (Ct.quiet (λw hw=>bHx ((ac.c _) w hw) cE))) ?_;rintro _ _⟨rfl,rfl⟩;refine wn Z<|aD<|bF mixed<|wD 0 Z (aJ Z)<|wD 1 Z (aJ Z)<|wD 2 Z (dF af sz5 Z Z)<|wD 3 Z (aJ Z)<|wD 4 Z (aJ Z)<|wD 5 Z (dV af sz5 Z Z (ac.c _)) ?_;have m4:SlW .u8 w [sl (jH ap (nQ u).toNat an 1) (u.length-(nQ u).toNat) (an-(nQ u).toNat),sl ap ((nQ u).toNat) an] [u.drop (nQ u).toNat,u.take (nQ u).toNat]:=((gD _ _).snoc (ac.fromI (l:=(nQ u).toNat) G) (λx hx=>dR (am x (ny hx))) (by rw[az];omega)).snoc (ac.toI G) (λx hx=>dR (am x (lc hx))) (by rw[ax];omega);refine wC 6 Z (iQ [Value.slice (jH ap (nQ u).toNat an 1) (u.length-(nQ u).toNat) (an-(nQ u).toNat),Value.slice ap ((nQ u).toNat) an] ay nS Z Z Z Z) ?_;rintro _ _⟨cy,rfl,rfl⟩;refine⟨.inr hrZ,?_⟩;refine wC 7 Z (aC AB Z (Ct.fresh (λw hw=>iO ((rdr 0 Z) w hw) (m4.c hw) (by rw[hfe];exact⟨G,cD⟩)))) ?_;rintro _ _⟨_,rfl,en,es,rfl,rfl⟩;refine⟨.inr hrZ,?_⟩;refine wD 8 Z (bB Z)<|wN<|aT [0] 99 cC Z ?_;refine⟨_,Z,?_⟩;rw[hfe];exact⟨_,_,Z,Z⟩
theorem qN (ac:Rd w ap bl an 1 (ints .u8 u)) (hN:u.length<=1000000):
  CF 57 #[sl ap bl an] w (λv R'=> ∃A c,v=sl A (u).length c/\R'=[(ru 5 A ((u).length) c (u))]):=by
 obtain rfl:=ac.lenI;refine fn1 Tryz.func57 Z Z Z ?_;have kc:=ac.max;refine wq<|bT (R1:=[(ru 5 none 0 0 ([]))]) (Sub.refl _) (λ_ h=>h.nil 5 1)<|wn Z<|aD<|wq<|wm Z<|wy (aHg af Z Z)<|aA<|KM Z (λba=> ?_) (λba=> ?_)
 ·refine wq<|wn Z<|aT [0] 99 cC Z ?_;refine⟨_,Z,?_⟩;obtain rfl:=aLz ac ba;exact⟨_,_,Z,Z⟩
 ·refine aI<|wq<|wa (bH .u8 [] af zs5 Z Z Z) ?_;rintro _ _⟨cy,rfl,rfl⟩;refine wm Z<|wa (aQ 0 Z af zb5 Z Z Z (ac.c _)) ?_;rintro _ _⟨en,es,rfl,rfl⟩;refine bC (v:=sl en (0+u.length) es) Z<|wn Z<|aT [0] 99 cC Z ?_;refine⟨_,Z,?_⟩;simp only[jd,og];exact⟨_,_,Z,Z⟩
theorem WJ {nw:AF} {qu oe:Nat} {t:AH} (ac:Rd w ap bl an 1 (ints .u8 u)) (qs:Rd w nw qu oe 1 (ints .u8 t)) (am:aN u) (w7:aN t):
  CF 120 #[sl ap bl an,sl nw qu oe] w (λv R'=>v=I (cmpL u t)):=by
 obtain rfl:=ac.lenI;obtain rfl:=qs.lenI;refine fn1 Tryz.func120 Z Z Z ?_;have kc:=ac.max;have Us:=qs.max;refine wq<|wn Z<|wq<|wm Z<|wm Z<|wa (bNh Tryz.func193 cA cA cA cA Z Z (ac.c _) (qs.c _) am w7) ?_;rintro _ _⟨rfl,rfl⟩;refine wn Z<|bQ ?_;refine⟨_,Z,?_⟩;rfl
theorem aKq (ac:Rd w ap bl an 1 (ints .u8 u)) (hi:0<=i/\i<u.length) (hk:0<=k/\k<u.length) (hN:u.length<=1000000):
  CF 162 #[sl ap bl an,I i,I k] w (λv R'=>v=I (cmpL (kS u i) (kS u k))):=by
 obtain rfl:=ac.lenI;refine fn1 Tryz.func162 Z Z Z ?_;have kc:=ac.max;refine wq<|wn Z<|aD<|wq<|wm Z<|wy (Yl.f (eZ Z Z))<|wm Z<|aB Z Z<|wm Z<|aB Z Z<|wm Z<|aB Z Z ?_;refine wy (aL af Z)<|aB Z Z<|wy (Yl.f (iD Z Z))<|wy (aO Z Z)<|wm Z<|aB Z Z<|wm Z<|aB Z Z<|wy (Yl.f (eZ Z Z))<|wy (aO Z Z)<|wm Z<|aB Z Z<|wm Z<|aB Z Z<|wm Z ?_;refine aB Z Z<|wy (aL af Z)<|aB Z Z<|wy (Yl.f (iD Z Z))<|wy (aO Z Z)<|aA<|aP Z<|aI<|wq<|wm Z<|wm Z<|wa (aC aVt Z (Ct.fresh (λw hw=>vV ((ac.c _) w hw) ⟨hi.1,G⟩ cE))) ?_;rintro _ _⟨_,rfl,cg,ce,rfl,rfl⟩;refine wm Z<|wm Z<|wa (aC aVt Z (Ct.fresh (λw hw=>vV ((ac.c _) w hw) ⟨hk.1,G⟩ cE))) ?_;rintro _ _⟨_,rfl,ns,pi,rfl,rfl⟩;refine wa (aC bBz Z (Ct.quiet (λw hw=>xX ((rdr 1 Z) w hw) ((rdr 0 Z) w hw)))) ?_;rintro _ _⟨rfl,rfl⟩;refine wn Z<|aT [] 99 cC Z ?_;refine⟨_,Z,?_⟩;rfl
theorem bCx (ac:Rd w ap bl an 1 (ints .u8 u)) (hN:u.length<=1000000):
  CF 94 #[sl ap bl an] w (λv R'=>v=I (nQ u)):=by
 obtain rfl:=ac.lenI;refine fn1 Tryz.func94 Z Z Z ?_;have kc:=ac.max;refine wq<|wn Z<|wq<|wn Z<|aD<|wq<|wn Z<|aH ?_;refine dI (λ(i:Int) (k:Int)=>[(0,sl ap u.length an),(3,I k),(4,I i)]) (λi k=>[]) (λi k=>(1<=i)/\(i<=u.length\/i=1)/\(k=iN u i.toNat)) (λi k=>(u.length-i).toNat) ?_ ?_
 ·exact⟨1,0,⟨G,G,(by have:=NK u 1 cC;show(0:Int)=((iN u 1:Nat):Int);omega)⟩,KP⟩
 intro i k ⟨gd,Oi,hk⟩;have Mk:=NK u i.toNat G;refine aD<|wq<|wm Z<|wm Z<|wy (aL af Z)<|wL Z Z<|aA<|bA Z (λba=> ?_) (λba=> ?_)
 ·refine aI<|aD<|aH<|wq<|wm Z<|wm Z<|wm Z<|wa (aC bLz Z (Ct.quiet (λw hw=>aKq ((ac.c _) w hw) cE cE cE))) ?_;rintro _ _⟨rfl,rfl⟩;refine wL Z Z<|aA<|bA Z (λcj=> ?_) (λcj=> ?_)
  ·refine aK<|wm Z<|wn Z<|aK<|wm Z<|wA Z Z<|wn Z ?_;exact⟨i+1,i,⟨G,G,(aMr gd hk cF)⟩,G,KP⟩
  ·refine aI<|aK<|wm Z<|wA Z Z<|wn Z ?_;exact⟨i+1,k,⟨G,G,(aTx gd hk cF)⟩,G,KP⟩
 ·refine aR<|wq<|wm Z<|wn Z<|bQ ?_;refine⟨_,Z,?_⟩;rcases ek u.length with z|z
  ·obtain rfl:k=0:=G
   have e:nQ u=0:=by unfold nQ;rw[z];rfl
   rw[e]
  ·obtain rfl:i=u.length:=G
   rw[hk,cz];rfl
theorem bGo (ac:Rd w ap bl an 1 (ints .u8 u)) (hN:u.length<=1000000):
  CF 52 #[sl ap bl an] w (λv R'=> ∃A c,v=sl A (lw u).length c/\R'=[(ru 5 A ((lw u).length) c (lw u))]):=by
 obtain rfl:=ac.lenI;refine fn1 Tryz.func52 Z Z Z ?_;have kc:=ac.max;have Mm:=VO u;refine wq<|wn Z<|wq<|wm Z<|wm Z<|wa (aC bNx Z (Ct.quiet (λw hw=>bCx ((ac.c _) w hw) cE))) ?_;rintro _ _⟨rfl,rfl⟩;refine wa (aC aVt Z (Ct.fresh (λw hw=>vV ((ac.c _) w hw) ⟨Mm.1,Mm.2.1⟩ cE))) ?_;rintro _ _⟨_,rfl,cg,ce,rfl,rfl⟩;refine wn Z<|aT [0] 99 cC Z ?_;exact⟨_,Z,_,_,Z,Z⟩
theorem TT {L:AH} {z:Int} (i1:1<=i) (hi:i<u.length) (hl:L.length=u.length) (hM: ∀j:Int,0<=j->j<i->j<u.length->MB u (j+1).toNat (rd L j)) (h:MB u (i.toNat+1) z): ∀j:Int,0<=j->j<i+1->j<u.length->MB u (j+1).toNat (rd (upd L i z) j):=λj h0 h1 h2=>by
 by_cases e:j=i
 ·subst e;rw[eX G G,show(j+1).toNat=j.toNat+1 by omega];exact h
 ·rw [fP G h0 (λq=>e q.symm)];exact hM j h0 G h2
theorem aGn (ac:Rd w ap bl an 1 (ints .u8 u)) (hN:u.length<=1000000):
  CF 242 #[sl ap bl an] w (λv R'=> ∃(A:AF) (c:Nat) (L:AH),v=sl A L.length c/\L.length=u.length/\(∀j:Int,0<=j->j<u.length->j<u.length->MB u (j+1).toNat (rd L j))/\R'=[(ri 3 A L.length c L)]):=by
 obtain rfl:=ac.lenI;refine fn1 Tryz.func242 Z Z Z ?_;have kc:=ac.max;refine wq<|wn Z<|wq<|wm Z<|wy (aL af Z)<|wa (dM aa zb3 Z Z) ?_;rintro _ _⟨aq,rfl,rfl⟩;refine gM (R1:=[(ri 3 (GG aq) u.length u.length (List.replicate u.length (0:Int)))]) Z<|bC (v:=sl (GG aq) u.length u.length) Z<|wn Z<|wq<|wn Z<|aD<|wq<|wn Z<|aH ?_;refine gN (λ(i:Int) (z:Int) (L:AH)=>[(0,sl ap u.length an),(3,sl (GG aq) u.length u.length),(4,I z),(5,I i)]) (λi z L=>[(ri 3 (GG aq) u.length u.length L)]) (λi z L=>(1<=i)/\(i<=u.length\/i=1)/\(L.length=u.length)/\(∀j:Int,0<=j->j<i->j<u.length->MB u (j+1).toNat (rd L j))/\(MB u i.toNat z)) (λi z L=>(u.length-i).toNat) ?_ ?_
 ·exact⟨1,0,List.replicate u.length (0:Int),⟨G,G,(by rw[dh]),(λj h0 h1 h2=>by obtain rfl:j=0:=G;have e:rd (List.replicate u.length (0:Int)) 0=0:=(by unfold rd;rw[ai,Ag];split<;>rfl);rw[e];exact MB.one),(MB.one)⟩,KP⟩
 intro i z L ⟨gd,Oi,s8,hM,hn⟩;refine aD<|wq<|wm Z<|wm Z<|wy (aL af Z)<|wL Z Z<|aA<|bA Z (λba=> ?_) (λba=> ?_)
 ·refine aI<|aD<|aH<|aD<|aH ?_;refine gZ (λ(m:Int)=>[(0,sl ap u.length an),(3,sl (GG aq) u.length u.length),(4,I m),(5,I i)]) (λm=>[(ri 3 (GG aq) u.length u.length L)]) (λm=>(KI u i.toNat m)) (λm=>m.toNat) ?_ ?_
  ·exact⟨z,(KI.init hn),KP⟩
  intro m hK;have hKb:=hK.bd;refine aD ?_;refine uM [(0,sl ap u.length an),(3,sl (GG aq) u.length u.length),(4,I m),(5,I i),(27, .bool (decide ((0<m)/\((rd u i)≠(rd u m)))))] [(ri 3 (GG aq) u.length u.length L)] ?_ ?_
  ·refine bF mixed<|wD 0 Z (aJ Z)<|wD 1 Z (dA Z Z)<|wD 2 Z (aJ Z)<|oZ 17 Z (λcj=> ?_) (λcj=> ?_)
   ·refine wG 3 Z Z Z (aJ Z)<|wG 4 Z Z Z (aJ Z)<|wG 5 Z Z Z (aF af sz5 Z Z (ac.c _))<|wG 6 Z Z Z (aU bn Z Z (ac.c _))<|wG 7 Z Z Z (aJ Z)<|wG 8 Z Z Z (aJ Z)<|wG 9 Z Z Z (aF af sz5 Z Z (ac.c _))<|wG 10 Z Z Z (aU bn Z Z (ac.c _))<|wG 11 Z Z Z (jP Z Z)<|wD 12 Z (aS Z Z)<|wN ?_;exact KP
   ·refine wO 3 Z Z Z<|wO 4 Z Z Z<|wO 5 Z Z Z<|wO 6 Z Z Z<|wO 7 Z Z Z<|wO 8 Z Z Z<|wO 9 Z Z Z<|wO 10 Z Z Z<|wO 11 Z Z Z<|wD 12 Z (aO Z Z)<|wN ?_;exact KP
  refine bA Z (λfh=> ?_) (λfh=> ?_)
  ·have ge:rd u m≠rd u i:=λe=>fh.2 e.symm;have Xr:=hM (m-1) G G G;rw[show(m-1+1).toNat=m.toNat by omega] at Xr;refine aI<|aH<|aK<|wm Z<|wm Z<|wS Z Z<|wy (aF aa sz3 Z Z (rdr 0 Z))<|wy (aU au Z Z (rdr 0 Z))<|wn Z ?_;exact⟨rd L (m-1),(hK.step (by rw[<-NI,<-NI];exact ge) Xr),(by have:=Xr.bd;omega),KP⟩
  ·refine aR<|aD<|aD<|bF mixed<|wD 0 Z (aJ Z)<|wD 1 Z (aJ Z)<|wD 2 Z (aF af sz5 Z Z (ac.c _))<|wD 3 Z (aU bn Z Z (ac.c _))<|wD 4 Z (aJ Z)<|wD 5 Z (aJ Z)<|wD 6 Z (aF af sz5 Z Z (ac.c _))<|wD 7 Z (aU bn Z Z (ac.c _))<|wD 8 Z (fD Z Z)<|wN<|bA Z (λjj=> ?_) (λjj=> ?_)
   ·have Qe:=hK.hit (by rw[<-NI,<-NI];exact jj.symm);refine aK<|wm Z<|wA Z Z<|wn Z<|aK<|wm Z<|wm Z<|wm Z<|wy (aF aa sz3 Z Z (rdr 0 Z))<|dC (bG 0 Z sz3 Z Z) ?_;rintro _ _ rfl;refine gM (R1:=[(ri 3 (GG aq) u.length u.length (upd L i (m+1)))]) Z<|aA<|aK<|wm Z<|wA Z Z<|wn Z ?_;exact⟨i+1,m+1,upd L i (m+1),⟨G,G,(by rw[aX];exact s8),(TT gd G s8 hM Qe),(by rw[show(i+1).toNat=i.toNat+1 by omega];exact Qe)⟩,G,KP⟩
   ·have Qe:=hK.miss G (by rw[<-NI,<-NI];exact λe=>jj e.symm);refine aI<|aK<|wm Z<|wm Z<|wm Z<|wy (aF aa sz3 Z Z (rdr 0 Z))<|dC (bG 0 Z sz3 Z Z) ?_;rintro _ _ rfl;refine gM (R1:=[(ri 3 (GG aq) u.length u.length (upd L i m))]) Z<|aA<|aK<|wm Z<|wA Z Z<|wn Z ?_;exact⟨i+1,m,upd L i m,⟨G,G,(by rw[aX];exact s8),(TT gd G s8 hM Qe),(by rw[show(i+1).toNat=i.toNat+1 by omega];exact Qe)⟩,G,KP⟩
 ·refine aR<|wq<|wm Z<|wn Z<|bU (R1:=[(ri 3 (GG aq) u.length u.length L)]) (λ_ h=>h.sel [0] cC Z) ?_;exact⟨_,Z,_,_,L,by rw[s8],s8,λj h0 h1 _=>hM j h0 G h1,by rw[s8]⟩
theorem aMu (ac:Rd w ap bl an 1 (ints .u8 u)) (hN:u.length<=1000000):
  CF 189 #[sl ap bl an] w (λv R'=>v=I (lp u)):=by
 obtain rfl:=ac.lenI;refine fn1 Tryz.func189 Z Z Z ?_;have kc:=ac.max;refine wq<|wn Z<|aD<|wq<|wm Z<|wy (aL af Z)<|wy (fD Z Z)<|aA<|bA Z (λba=> ?_) (λba=> ?_)
 ·refine wq<|wn Z<|bQ ?_;refine⟨_,Z,?_⟩;exact bu (Value.int .i64) (by rw[dw (show u.length=0 by omega)];rfl)
 ·refine aI<|wq<|wm Z<|wy (aL af Z)<|wm Z<|wa (aC bKq Z (Ct.fresh (λw hw=>aGn ((ac.c _) w hw) cE))) ?_;rintro _ _⟨_,rfl,cg,ce,L_3,rfl,s8,hLM,rfl⟩;refine wm Z<|wy (aL af Z)<|wS Z Z<|wy (aF aa sz3 Z Z (rdr 0 Z))<|wy (aU au Z Z (rdr 0 Z))<|wy (mE Z Z (by have hq:=(hLM (u.length-1) G G G).bd;omega)) ?_;refine wn Z<|aT [] 99 cC Z ?_;refine⟨_,Z,?_⟩;exact bu (Value.int .i64) (MB.least G (by have:=hLM (u.length-1) G G G;rw[show((u.length:Int)-1+1).toNat=u.length by omega] at this;exact this))
theorem aRn (ac:Rd w ap bl an 1 (ints .u8 u)) (hN:u.length<=1000000):
  CF 115 #[sl ap bl an] w (λv R'=> ∃(A:AF) (c:Nat),v= .tuple #[sl A (jR u).length c,I (gB u)]/\R'=[(ru 5 A ((jR u).length) c (jR u))]):=by
 obtain rfl:=ac.lenI;refine fn2 Tryz.func115 Z Z Z ?_;have kc:=ac.max;refine wq<|bT (R1:=[(ru 5 none 0 0 ([]))]) (Sub.refl _) (λ_ h=>h.nil 5 1)<|wg Z<|wn Z<|aD<|wq<|wm Z<|wy (aL af Z)<|wy (fD Z Z)<|aA<|bA Z (λba=> ?_) (λba=> ?_)
 ·refine wq<|wg Z<|wn Z<|aT [0] 99 cC Z ?_;refine⟨_,_,Z,Z,?_⟩;obtain rfl:=dw (show u.length=0 by omega);exact⟨_,_,Z,Z⟩
 ·have Ld:=NL (u:=u) G;refine aI<|wq<|wm Z<|wa (aC bLp Z (Ct.quiet (λw hw=>aMu ((ac.c _) w hw) cE))) ?_;rintro _ _⟨rfl,rfl⟩;refine wn Z<|aD<|wq<|wm Z<|wy (aL af Z)<|wm Z<|wy (rR Z Z)<|wy (jP Z Z)<|aA<|bA Z (λcj=> ?_) (λcj=> ?_)
  ·refine aK<|wm Z<|wy (aL af Z)<|wn Z<|aD<|bF mixed<|wD 0 Z (aJ Z)<|wD 1 Z (aJ Z)<|wD 2 Z (dV af sz5 Z Z (ac.c _))<|wD 4 Z (aJ Z)<|wD 5 Z (aL af Z)<|wD 6 Z (aJ Z)<|wD 7 Z (vP Z Z G G G)<|wC 3 Z (aC aOd Z (Ct.fresh (λw hw=>qN ((RdC.toI (ac.c _) G) w hw) (by rw[ax];omega)))) ?_;rintro _ _⟨_,rfl,cg,ce,rfl,rfl⟩;refine⟨.inr hrZ,?_⟩;refine wD 8 Z (bB Z)<|wD 9 Z (bB Z)<|wN<|aT [0] 99 cC Z ?_;refine⟨_,_,Z,Z,?_⟩;have e:rl u=u.length:=by unfold rl;rw[di cF]
   unfold jR gB;rw[e];exact⟨_,_,Z,Z⟩
  ·refine aI<|aD<|bF mixed<|wD 0 Z (aJ Z)<|wD 1 Z (aJ Z)<|wD 2 Z (dV af sz5 Z Z (ac.c _))<|wD 4 Z (aJ Z)<|wD 5 Z (aL af Z)<|wD 6 Z (aJ Z)<|wD 7 Z (vP Z Z G G G)<|wC 3 Z (aC aOd Z (Ct.fresh (λw hw=>qN ((RdC.toI (ac.c _) G) w hw) (by rw[ax];omega)))) ?_;rintro _ _⟨_,rfl,ns,pi,rfl,rfl⟩;refine⟨.inr hrZ,?_⟩;refine wD 8 Z (bB Z)<|wD 9 Z (bB Z)<|wN<|aT [0] 99 cC Z ?_;refine⟨_,_,Z,Z,?_⟩;have e:rl u=lp u:=by unfold rl;rw[df cF]
   unfold jR gB;rw[e];exact⟨_,_,Z,Z⟩
variable {w w0:World} {ap:AF} {bl an B g:Nat} {u:AH} {R:List Row} {V:Int}
theorem WG (ac:Rd w ap bl an 1 (ints .u8 u)) (hN:u.length<=1000000):
  CF 50 #[sl ap bl an] w (λv R'=> ∃g A c,v=PG g/\R'=[(rc 146 1 g [sl A u.length c]),(ru 5 A u.length c u)]):=by
 obtain rfl:=ac.lenI;refine fn1 Tryz.func50 Z Z Z ?_;have kc:=ac.max;refine wq<|wn Z<|wq<|wm Z<|wa (aC aOd Z (Ct.fresh (λw hw=>qN ((ac.c _) w hw) hN))) ?_;rintro _ _⟨_,rfl,cg,ce,rfl,rfl⟩;refine wy (gX (v:= .agg #[sl cg u.length ce]) Z (λw=>cA))<|wa (cB (sz:=1) rfl rfl) ?_;rintro _ _⟨fi,rfl,rfl⟩;refine wn Z<|bU (R1:=[(rc 146 1 fi [sl cg u.length ce]),(ru 5 cg u.length ce u)]) hiZ ?_;exact⟨_,Z,_,_,_,Z,Z⟩
theorem zK {k:Int} (ac:RdC B w0 R ap bl an 1 (ints .u8 u)) (cr:bl=u.length) (hN:u.length<=1000000) (hk:0<=k/\k<=u.length):
  CT 156 #[PG g,I k] B w0 ((rc 146 1 g [sl ap bl an])::R) (λv R'=> ∃A1 c1,v= .tuple #[sl A1 k.toNat c1,bt]/\R'=(ru 5 A1 k.toNat c1 (u.take k.toNat))::(rc 146 1 g [sl ((jH ap k.toNat an 1)) (bl-k.toNat) (an-k.toNat)])::R):=by
 subst cr;refine fn2 Tryz.func156 Z Z Z ?_;refine wq<|wg Z<|wn Z<|aD<|wq<|wm Z<|wy (kZ Ab Z Z)<|wm Z<|aB Z Z<|wm Z<|aB Z Z<|wy (Yl.f (eZ Z Z)) ?_;refine wy (aO Z Z)<|wm Z<|aB Z Z<|wm Z<|aB Z Z<|wm Z<|aB Z Z<|wy (aG Z)<|aB Z Z<|wy (yF 0 0 Ae dH Z)<|aB Z Z<|wy (yL 0 af Z Z Z)<|aB Z Z<|wy (aL af Z)<|aB Z Z ?_;refine wy (Yl.f (dA Z Z))<|wy (aO Z Z)<|aA<|aP Z<|aI<|wq<|wm Z<|wy (aG Z)<|wy (yF 0 0 Ae dH Z)<|wy (yL 0 af Z Z Z)<|wm Z<|wy (dV af sz5 Z Z (RdC.right ac [_]))<|wa (aC aOd Z (Ct.fresh (λw hw=>qN ((RdC.toI (RdC.right ac [_]) G) w hw) (by rw[ax];omega)))) ?_;rintro _ _⟨_,rfl,cg,ce,rfl,rfl⟩;refine wn Z<|wq<|wm Z<|wm Z<|wy (aG Z)<|wy (yF 0 0 Ae dH Z)<|wy (yL 1 af Z Z Z)<|wm Z<|wy (dF af sz5 Z Z)<|wy (aG Z)<|wy (yF 0 0 Ae dH Z)<|dC (bE 1 Z Z Z dH Z Z Z Z (ak Z)) ?_;rintro _ _ rfl;refine aA<|wq<|wm Z<|wg Z<|wn Z<|bU (R1:=((ru 5 cg (((u).take (k).toNat).length) ce ((u).take (k).toNat))::(rc 146 1 g [sl (jH ap (k).toNat an 1) (u.length-(k).toNat) (an-(k).toNat)])::R)) hiZ ?_;refine⟨_,_,Z,Z,?_⟩;have e:(u.take k.toNat).length=k.toNat:=by rw[ax];omega
 rw[e];exact⟨_,_,Z,Z⟩
theorem aNi {ki:AF} {qe kj:Nat} {b:AH} {k:Nat} (ie:Rd w ki qe kj 1 (ints .u8 b)) (cx:aN b) (hN:b.length<=1000000) (h:vM b V k):CF 227 #[sl ki qe kj] w (λv R'=>v= .tuple #[.int .u64 V,I (k:Int),bt]):=
 (bBo ie cx hN).mono λv R' hv=>by
  rcases hv with⟨V',k',g,rfl⟩|⟨g,rfl⟩
  ·obtain ⟨rfl,rfl⟩:=g.one h;rfl
  ·exact(g ⟨V,k,h⟩).elim
theorem UJ {eh:Int} {m:Nat} (ac:RdC B w0 R ap bl an 1 (ints .u8 u)) (cr:bl=u.length) (hN:u.length<=1000000) (am:aN u) (hG:vM u V m) (hm:V<=eh) (hb:eh<=9223372036854775807):
  CT 157 #[PG g,I eh] B w0 ((rc 146 1 g [sl ap bl an])::R) (λv R'=>v= .tuple #[I V,bt]/\R'=(rc 146 1 g [sl (jH ap m an 1) (bl-m) (an-m)])::R):=by
 subst cr;have Ys:=hG.1;have hgm:m<=u.length:=by obtain⟨_,h2,t,h3⟩:=hG;have h4:=bu List.length h3;rw[ah] at h4;omega
 refine fn2 Tryz.func157 Z Z Z ?_;refine wq<|wg Z<|wn Z<|aD<|wq<|wm Z<|wy (kZ Ab Z Z)<|wm Z<|aB Z Z<|wm Z<|aB Z Z<|wy (Yl.f (eZ Z Z)) ?_;refine wy (aO Z Z)<|aA<|aP Z<|aI<|wq<|wm Z<|wy (aG Z)<|wy (yF 0 0 Ae dH Z)<|wy (yL 0 af Z Z Z)<|wa (aC bKx Z (Ct.quiet (λw hw=>aNi ((RdC.right ac [_]) w hw) am hN hG))) ?_;rintro _ _⟨rfl,rfl⟩;refine wm Z<|wX Z Z<|wX Z Z<|wX Z Z<|wg Z<|wg Z<|wn Z<|aD<|wq<|wm Z<|wy (dW Z)<|wm Z<|aB Z Z ?_;refine wm Z<|aB Z Z<|wm Z<|aB Z Z<|wy (gW au fe Z)<|aB Z Z<|wy (Yl.f (dA Z Z))<|wy (aO Z Z)<|aA<|aP Z<|aI<|wq<|wm Z<|wm Z ?_;refine wy (aG Z)<|wy (yF 0 0 Ae dH Z)<|wy (yL 0 af Z Z Z)<|wm Z<|wy (dF af sz5 Z Z)<|wy (aG Z)<|wy (yF 0 0 Ae dH Z)<|dC (bE 0 Z Z Z dH Z Z Z Z (ak Z)) ?_;rintro _ _ rfl;refine aA<|wq<|wm Z<|wy (iR fe au Z)<|wg Z<|wn Z<|bU (R1:=((rc 146 1 g [sl (jH ap ((m:Int)).toNat an 1) (u.length-((m:Int)).toNat) (an-((m:Int)).toNat)])::R)) hiZ ?_;refine⟨_,_,Z,Z,?_⟩;exact⟨Z,Z⟩
variable {w:World} {k:Int}
theorem pU {w4:AF} {Uw w9:Nat} {ks:AH} (Ks:Rd w w4 Uw w9 1 (ints .i64 ks)) (dr:(0<=k/\k<=1048576)/\ ∀x∈ks,0<=x/\x<k):
  CF 264 #[sl w4 Uw w9,I k] w (λv R'=> ∃A c,v= .tuple #[sl A k.toNat c,bt]/\R'=[(ri 3 A k.toNat c (eF ks k))]):=by
 obtain rfl:=Ks.lenI;refine fn2 Tryz.func264 Z Z Z ?_;have m_ks:=Ks.max;have hk:=dr.1;refine wq<|wg Z<|wn Z<|aD<|wq<|wm Z<|wL Z Z<|wm Z<|bV 3 [(0,sl w4 ks.length w9),(1,I k),(14, .bool (decide ((k<0)\/(1048576<k))))] [] ?_ ?_
 ·refine bN 11 Z (λba=> ?_) (λba=> ?_)
  ·refine aM Z Z Z Z<|aM Z Z Z Z<|wy (aS Z Z)<|aA ?_;exact KP
  ·refine aB Z Z<|wm Z<|aB Z Z<|wy (dA Z Z)<|wy (aO Z Z)<|aA ?_;exact KP
 refine rT 14 Z G<|aA<|aP Z<|aI<|wq<|wm Z<|wa (dM aa zb3 Z Z) ?_;rintro _ _⟨aq,rfl,rfl⟩;refine bC (v:=sl (GG aq) ((k).toNat) ((k).toNat)) Z<|wn Z<|aD<|wq<|wm Z<|wy (aL aa Z)<|wm Z<|aA<|aH ?_;refine dI (λ(m:Int) (V:AH)=>[(1,I k),(6,sl (GG aq) ((k).toNat) ((k).toNat)),(17,sl w4 ks.length w9),(18,I (ks.length:Int)),(19,I m)]) (λm V=>[(ri 3 (GG aq) ((k).toNat) ((k).toNat) V)]) (λm V=>(0<=m)/\(m<=ks.length)/\(V=eF (ks.take m.toNat) k)) (λm V=>(ks.length-m).toNat) ?_ ?_
 ·exact⟨0,List.replicate ((k).toNat) (0:Int),⟨G,G,((aBp k).symm)⟩,KP⟩
 intro m V ⟨rv,mt,hV⟩;refine wq<|wL Z Z<|aA<|aD<|bA Z (λcj=> ?_) (λcj=> ?_)
 ·have hx:=dr.2 _ (bI (L:=ks) rv G)
  have hb:0<=rd V (rd ks m)/\rd V (rd ks m)<=m:=by
   have a:=OB (ks:=ks.take m.toNat) (k:=k) (x:=rd ks m);rw[<-hV,ax] at a;omega
  refine aI<|aD<|aH<|wq<|wy (aF aa sz3 Z Z (Ks.c _))<|wy (aU au Z Z (Ks.c _))<|wn Z<|aD<|wq<|wm Z<|wL Z Z<|wm Z ?_;refine bV 4 [(1,I k),(6,sl (GG aq) ((k).toNat) ((k).toNat)),(8,I (rd ks m)),(17,sl w4 ks.length w9),(18,I (ks.length:Int)),(19,I m),(29, .bool (decide (((rd ks m)<0)\/(k<=(rd ks m)))))] [(ri 3 (GG aq) ((k).toNat) ((k).toNat) V)] ?_ ?_
  ·refine bN 25 Z (λfh=> ?_) (λfh=> ?_)
   ·refine aM Z Z Z Z<|aM Z Z Z Z<|aM Z Z Z Z<|wy (aS Z Z)<|aA ?_;exact KP
   ·refine aB Z Z<|wm Z<|aB Z Z<|wm Z<|aB Z Z<|wy (iD Z Z)<|wy (aO Z Z)<|aA ?_;exact KP
  refine rT 29 Z G<|aA<|aP Z<|aI<|aK<|wm Z<|wm Z<|wy (aF aa sz3 Z Z (rdr 0 Z))<|wy (aU au Z Z (rdr 0 Z))<|wA Z Z<|wy (aF aa sz3 Z Z (rdr 0 Z))<|dC (bG 0 Z sz3 Z Z) ?_;rintro _ _ rfl;refine aA<|aK<|wA Z Z<|wm Z<|aA ?_;exact⟨m+1,upd V (rd ks m) ((rd V (rd ks m))+1),⟨G,G,(by rw[dJ rv G,<-TH hx.1 hx.2,<-hV])⟩,G,KP⟩
 ·refine aR<|wq<|wm Z<|wg Z<|wn Z<|aT [0] 99 cC Z ?_;refine⟨_,_,Z,Z,?_⟩;have e:ks.take m.toNat=ks:=bi G;rw[e] at hV;subst hV;exact⟨_,_,Z,Z⟩
theorem xZ {Ne:AF} {Uv Nk:Nat} {cs:AH} (Kr:Rd w Ne Uv Nk 1 (ints .i64 cs)) (ke: ∀x∈cs,0<=x) (Hi:cs.sum<=1000000000) (kt:cs.length<=1048576):
  CF 280 #[sl Ne Uv Nk] w (λv R'=> ∃A c,v=sl A (dD cs).length c/\R'=[(ri 3 A ((dD cs).length) c (dD cs))]):=by
 obtain rfl:=Kr.lenI;refine fn1 Tryz.func280 Z Z Z ?_;have m_cs:=Kr.max;refine wq<|wn Z<|wq<|wm Z<|wy (aL aa Z)<|wa (dM aa zb3 Z Z) ?_;rintro _ _⟨aq,rfl,rfl⟩;refine bC (v:=sl (GG aq) cs.length cs.length) Z<|wn Z<|wq<|wn Z<|aD<|wq<|wm Z<|wy (aL aa Z)<|wm Z<|aA<|aH ?_;refine gN (λ(i:Int) (n:Int) (V:AH)=>[(3,sl (GG aq) cs.length cs.length),(4,I n),(10,sl Ne cs.length Nk),(11,I (cs.length:Int)),(12,I i)]) (λi n V=>[(ri 3 (GG aq) cs.length cs.length V)]) (λi n V=>(0<=i)/\(i<=cs.length)/\(n=ps cs i)/\(V.length=cs.length)/\(∀j:Int,0<=j->j<i->rd V j=ps cs j)) (λi n V=>(cs.length-i).toNat) ?_ ?_
 ·exact⟨0,0,List.replicate cs.length (0:Int),⟨G,G,(Z),(by rw[dh]),(λj h1 h2=>G)⟩,KP⟩
 intro i n V ⟨bb,gd,hn,hl,hV⟩;refine wq<|wL Z Z<|aA<|aD<|bA Z (λba=> ?_) (λba=> ?_)
 ·have vl:=wM ke i;have g9:=wM ke (i+1);rw[lY bb G] at g9;refine aI<|aD<|aH<|wq<|wm Z<|wy (aF aa sz3 Z Z (Kr.c _))<|wy (aU au Z Z (Kr.c _))<|wg Z<|wn Z<|wq<|wm Z<|wm Z ?_;refine wm Z<|wy (aF aa sz3 Z Z (rdr 0 Z))<|dC (bG 0 Z sz3 Z Z) ?_;rintro _ _ rfl;refine aA<|aK<|wm Z<|wm Z<|wA Z Z<|wn Z<|aK<|wA Z Z<|wm Z<|aA ?_;exact⟨i+1,n+(rd cs i),upd V i n,⟨G,G,(by rw[lY bb G,hn]),(by rw[aX];exact hl),(fA bb G hV hn)⟩,G,KP⟩
 ·refine aR<|wq<|wm Z<|wn Z<|aT [0] 99 cC Z ?_;refine⟨_,Z,?_⟩;obtain rfl:V=dD cs:=bL (hl.trans (fH cs).symm) λj h1 h2=>by rw[oD h1 G];exact hV j h1 G
  rw[fH];exact⟨_,_,Z,Z⟩
theorem uW {nv:AF} {m6 oc:Nat} {order:AH} {ux:AF} {Id va:Nat} {keys:AH} (qn:Rd w nv m6 oc 1 (ints .i64 order)) (ot:Rd w ux Id va 1 (ints .i64 keys)) (hk:0<=k/\k<=1048576) (Mj: ∀x∈keys,0<=x/\x<k) (ho: ∀i∈order,0<=i/\i<keys.length) (hlen:order.length<=1000000):
  CF 239 #[sl nv m6 oc,sl ux Id va,I k] w (λv R'=> ∃A c,v= .tuple #[sl A order.length c,bt]/\R'=[(ri 3 A order.length c (cZ order keys k.toNat))]):=by
 obtain rfl:=qn.lenI;obtain rfl:=ot.lenI;refine fn2 Tryz.func239 Z Z Z ?_;have Wk:=qn.max;have m_keys:=ot.max;have Qa: ∀i∈order,0<=rd keys i/\rd keys i<k:=λi hi=>Mj _ (bI (ho i hi).1 (ho i hi).2);refine wq<|wg Z<|wn Z<|aD<|wq<|wm Z<|wm Z<|wa (aC aAz Z (Ct.fresh (λw hw=>pU ((ot.c _) w hw) ⟨hk,Mj⟩))) ?_;rintro _ _⟨_,rfl,cg,ce,rfl,rfl⟩;refine wm Z<|wX Z Z<|wX Z Z<|wg Z<|wn Z<|wq<|wm Z<|wy (dW Z)<|aA<|aP Z<|aI<|wq ?_;refine wm Z<|wa (dM aa zb3 Z Z) ?_;rintro _ _⟨fd,rfl,rfl⟩;refine bC (v:=sl (GG fd) ((k).toNat) ((k).toNat)) Z<|wn Z<|aD<|wq<|wm Z<|wy (aL aa Z)<|wm Z<|aA<|aH ?_;refine dI (λ(m:Int) (V:AH)=>[(0,sl nv order.length oc),(1,sl ux keys.length va),(10,sl (GG fd) ((k).toNat) ((k).toNat)),(27,sl nv order.length oc),(28,I (order.length:Int)),(29,I m)]) (λm V=>[(ri 3 (GG fd) ((k).toNat) ((k).toNat) V),(ri 3 cg ((k).toNat) ce (eF keys k))]) (λm V=>(0<=m)/\(m<=order.length)/\(V=eF ((order.take m.toNat).map (rd keys)) k)) (λm V=>(order.length-m).toNat) ?_ ?_
 ·exact⟨0,List.replicate ((k).toNat) (0:Int),⟨G,G,((aBp k).symm)⟩,KP⟩
 intro m V ⟨rv,mt,hV⟩;refine wq<|wL Z Z<|aA<|aD<|bA Z (λba=> ?_) (λba=> ?_)
 ·have hi:=ho _ (bI (L:=order) rv G);have hx:=Qa _ (bI (L:=order) rv G)
  have hb:0<=rd V (rd keys (rd order m))/\rd V (rd keys (rd order m))<=m:=by
   have a:=OB (ks:=(order.take m.toNat).map (rd keys)) (k:=k) (x:=rd keys (rd order m));rw[<-hV,bq,ax] at a;omega
  have ld:V.length=k.toNat:=by rw[hV,dY]
  refine aI<|aD<|aH<|wq<|wy (aF aa sz3 Z Z (qn.c _))<|wy (aU au Z Z (qn.c _))<|wn Z<|aD<|wq<|wm Z<|wL Z Z<|wm Z ?_;refine bV 5 [(0,sl nv order.length oc),(1,sl ux keys.length va),(10,sl (GG fd) ((k).toNat) ((k).toNat)),(12,I (rd order m)),(27,sl nv order.length oc),(28,I (order.length:Int)),(29,I m),(40, .bool (decide (((rd order m)<0)\/((keys.length:Int)<=(rd order m)))))] [(ri 3 (GG fd) ((k).toNat) ((k).toNat) V),(ri 3 cg ((k).toNat) ce (eF keys k))] ?_ ?_
  ·refine bN 35 Z (λcj=> ?_) (λcj=> ?_)
   ·refine aM Z Z Z Z<|aM Z Z Z Z<|aM Z Z Z Z<|aM Z Z Z Z<|wy (aS Z Z)<|aA ?_;exact KP
   ·refine aB Z Z<|wm Z<|aB Z Z<|wm Z<|aB Z Z<|wy (aL aa Z)<|aB Z Z<|wy (iD Z Z)<|wy (aO Z Z)<|aA ?_;exact KP
  refine rT 40 Z G<|aA<|aP Z<|aI<|aK<|wm Z<|wm Z<|wm Z<|wy (aF aa sz3 Z Z (ot.c _))<|wy (aU au Z Z (ot.c _))<|wy (aF aa sz3 Z Z (rdr 0 Z))<|wy (aU au Z Z (rdr 0 Z))<|wA Z Z<|wy (aF aa sz3 Z Z (rdr 0 Z))<|dC (bG 0 Z sz3 Z Z) ?_;rintro _ _ rfl;refine aA<|aK<|wA Z Z<|wm Z<|aA ?_;exact⟨m+1,upd V (rd keys (rd order m)) ((rd V (rd keys (rd order m)))+1),⟨G,G,(by rw[dJ rv G,iv,List.map_singleton,<-TH hx.1 hx.2,<-hV])⟩,G,KP⟩
 ·have Bk:V=(eF (order.map (rd keys)) k):=by rw[hV,bi G]
  have Kq:(dD V).length=k.toNat:=by rw[fH,hV,dY]
  refine aR<|wq<|wm Z<|wa (aC aJg Z (Ct.fresh (λw hw=>xZ ((rdr 0 Z) w hw) (by rw[Bk];exact mP _ _) (by rw[Bk,OA G Qa];omega) (by rw[Bk,dY];omega)))) ?_;rintro _ _⟨_,rfl,fm,kx,rfl,rfl⟩;refine wn Z<|wq<|wm Z<|wy (aL aa Z)<|wa (dM aa zb3 Z Z) ?_;rintro _ _⟨ir,rfl,rfl⟩;refine bC (v:=sl (GG ir) order.length order.length) Z<|wn Z<|aD<|wq<|wm Z<|wy (aL aa Z)<|wm Z<|aA<|aH ?_;refine gN (λ(q:Int) (S:AH) (Lr:AH)=>[(1,sl ux keys.length va),(13,sl fm ((dD V).length) kx),(14,sl (GG ir) order.length order.length),(56,sl nv order.length oc),(57,I (order.length:Int)),(58,I q)]) (λq S Lr=>[(ri 3 (GG ir) order.length order.length Lr),(ri 3 fm ((dD V).length) kx S),(ri 3 (GG fd) ((k).toNat) ((k).toNat) V),(ri 3 cg ((k).toNat) ce (eF keys k))]) (λq S Lr=>(0<=q)/\(q<=order.length)/\(EQ order keys S Lr k q)) (λq S Lr=>(order.length-q).toNat) ?_ ?_
  ·exact⟨0,dD V,List.replicate order.length (0:Int),⟨G,G,(by rw[Bk];exact aEi)⟩,KP⟩
  intro q S Lr ⟨js,xa,hP⟩;refine wq<|wL Z Z<|aA<|aD<|bA Z (λfh=> ?_) (λfh=> ?_)
  ·have hi:=ho _ (bI (L:=order) js G);have hx:=Qa _ (bI (L:=order) js G);have bp:=hP.lt Qa js G;have yd:=hP.len;have un:=hP.alen;refine aI<|aD<|aH<|wq<|wy (aF aa sz3 Z Z (qn.c _))<|wy (aU au Z Z (qn.c _))<|wn Z<|wq<|wm Z<|wm Z<|wm Z<|wm Z ?_;refine wy (aF aa sz3 Z Z (ot.c _))<|wy (aU au Z Z (ot.c _))<|wy (aF aa sz3 Z Z (rdr 1 Z))<|wy (aU au Z Z (rdr 1 Z))<|wm Z<|wy (aF aa sz3 Z Z (rdr 0 Z))<|dC (bG 0 Z sz3 Z Z) ?_;rintro _ _ rfl;refine aA<|aK<|wm Z<|wm Z<|wm Z<|wy (aF aa sz3 Z Z (ot.c _))<|wy (aU au Z Z (ot.c _))<|wy (aF aa sz3 Z Z (rdr 1 Z))<|wy (aU au Z Z (rdr 1 Z))<|wA Z Z<|wy (aF aa sz3 Z Z (rdr 1 Z))<|dC (bG 1 Z sz3 Z Z) ?_;rintro _ _ rfl;refine aA<|aK<|wA Z Z<|wm Z<|aA ?_;exact⟨q+1,upd S (rd keys (rd order q)) ((rd S (rd keys (rd order q)))+1),upd Lr (rd S (rd keys (rd order q))) (rd order q),⟨G,G,(hP.step Qa js G)⟩,G,KP⟩
  ·refine aR<|wq<|wm Z<|wg Z<|wn Z<|aT [0] 99 cC Z ?_;refine⟨_,_,Z,Z,?_⟩;have e:=hP.done Qa G;subst e;exact⟨_,_,Z,Z⟩
variable {w:World} {n i j k:Int} {dg:AF} {iz dd:Nat} {s:AH}
theorem mM {r:Int} (hr:0<=r/\r<=2) (hn:0<=n/\n<=1000000):
  CF 293 #[I n,I r] w (λv R'=> ∃A c,v=sl A (plc n.toNat r.toNat).length c/\R'=[(ri 3 A ((plc n.toNat r.toNat).length) c (plc n.toNat r.toNat))]):=by
 refine fn1 Tryz.func293 Z Z Z ?_;refine wq<|wn Z<|wq<|bT (R1:=[(ri 3 none 0 0 ([]))]) (Sub.refl _) (λ_ h=>h.nil 3 1)<|wn Z<|aD<|wq<|wm Z<|wn Z ?_;refine aH ?_;refine mX (λ(A1:AF) (n1:Nat) (c1:Nat) (a1:AH) (i:Int) (k:Nat)=>[(0,I n),(5,sl A1 n1 c1),(6,I i)]) (λA1 n1 c1 a1 i k=>[(ri 3 A1 n1 c1 a1)]) (λA1 n1 c1 a1 i k=>(n1=a1.length)/\(i=r+3*k)/\(a1=PY r.toNat k)/\(r+3*(k:Int)<n+3)) (λA1 n1 c1 a1 i k=>(n-i).toNat) ?_ ?_
 ·exact⟨none,0,0,[],r,0,⟨(Z),G,(Z),G⟩,KP⟩
 intro A1 n1 c1 a1 i k ⟨cm,hi,bc,hk⟩;have qt:=bu List.length bc;rw[YW] at qt;refine aD<|wq<|wm Z<|wm Z<|wL Z Z<|aA<|bA Z (λba=> ?_) (λba=> ?_)
 ·refine aI<|aD<|aH<|aK<|wm Z<|wm Z<|wa (bH .i64 [i] aa zs3 Z Z Z) ?_;rintro _ _⟨cy,rfl,rfl⟩;refine wa (aQ 1 Z aa zb3 Z Z Z (rdr 0 Z)) ?_;rintro _ _⟨en,es,rfl,rfl⟩;refine bC (v:=sl en (n1+1) es) Z<|wn Z<|aK<|wm Z<|wA Z Z<|wn Z ?_;exact⟨en,n1+1,es,a1++([i]),i+3,(k+1),⟨(by simp only[ah,cm];try rfl),G,(by rw[aMd,<-bc,show(r.toNat:Int)+3*(k:Int)=i by omega]),G⟩,G,SA,λ_ h=>h.sel [1] cC Z⟩
 ·refine aR<|wq<|wm Z<|wn Z<|aT [0] 99 cC Z ?_;refine⟨_,Z,?_⟩;obtain rfl:k=(n.toNat+2-r.toNat)/3:=G
  subst bc;obtain rfl:=cm;exact⟨_,_,Z,Z⟩
theorem YI (hn:0<=n/\n<=100000):
  CF 322 #[I n] w (λv R'=> ∃A c,v=sl A (smp n.toNat).length c/\R'=[(ri 3 A ((smp n.toNat).length) c (smp n.toNat))]):=by
 refine fn1 Tryz.func322 Z Z Z ?_;refine wq<|wn Z<|aD<|wq<|wm Z<|wL Z Z<|wm Z<|bV 3 [(0,I n),(8, .bool (decide ((n<0)\/(100000<n))))] [] ?_ ?_
 ·refine bN 5 Z (λba=> ?_) (λba=> ?_)
  ·refine aM Z Z Z Z<|aM Z Z Z Z<|wy (aS Z Z)<|aA ?_;exact KP
  ·refine aB Z Z<|wm Z<|aB Z Z<|wy (dA Z Z)<|wy (aO Z Z)<|aA ?_;exact KP
 refine rT 8 Z G<|aA<|aP Z<|aI<|wq<|wm Z<|wa (aC TD Z (Ct.fresh (λw hw=>mM cE G))) ?_;rintro _ _⟨_,rfl,cg,ce,rfl,rfl⟩;refine gM (R1:=[(ri 3 cg ((plc n.toNat 1).length) ce (plc n.toNat 1))]) Z<|bC (v:=sl cg ((plc n.toNat 1).length) ce) Z<|wm Z<|wa (aC TD Z (Ct.fresh (λw hw=>mM cE G))) ?_;rintro _ _⟨_,rfl,ns,pi,rfl,rfl⟩;refine gM (R1:=[(ri 3 ns ((plc n.toNat 2).length) pi (plc n.toNat 2)),(ri 3 cg ((plc n.toNat 1).length) ce (plc n.toNat 1))]) Z<|bC (v:=sl ns ((plc n.toNat 2).length) pi) Z<|wa (aQ 1 Z aa zb3 Z Z Z (rdr 0 Z) (by have:=kC n.toNat 1;have:=kC n.toNat 2;omega)) ?_;rintro _ _⟨gg,ef,rfl,rfl⟩;refine gM (R1:=[(ri 3 ns ((plc n.toNat 2).length) pi (plc n.toNat 2)),(ri 3 gg (((plc n.toNat 1).length)+((plc n.toNat 2).length)) ef ((plc n.toNat 1)++(plc n.toNat 2)))]) Z<|bC (v:=sl gg (((plc n.toNat 1).length)+((plc n.toNat 2).length)) ef) Z<|wn Z<|aT [1] 99 cC Z ?_;refine⟨_,Z,?_⟩;have e:(plc n.toNat 1).length+(plc n.toNat 2).length=(smp n.toNat).length:=(ah ..).symm;rw[e];exact⟨_,_,Z,Z⟩
theorem xB {s:AH} (co:Rd w dg iz dd 1 (ints .i64 s)) (hi:0<=i) (hs: ∀x∈s,0<=x/\x<=1000000):
  CF 324 #[sl dg iz dd,I i] w (λv R'=>v=I (iY s i)):=by
 obtain rfl:=co.lenI;refine fn1 Tryz.func324 Z Z Z ?_;have b6:=co.max;refine wq<|wn Z<|aD<|wq<|wm Z<|wm Z<|wy (aL aa Z)<|wy (iD Z Z)<|aA<|bA Z (λba=> ?_) (λba=> ?_)
 ·refine wq<|wn Z<|bQ ?_;refine⟨_,Z,?_⟩;exact bu (Value.int .i64) (by unfold iY;rw[di G])
 ·have hm:=hs _ (bI (L:=s) hi G);refine aI<|wq<|wm Z<|wm Z<|wy (aF aa sz3 Z Z (co.c _))<|wy (aU au Z Z (co.c _))<|wA Z Z<|wn Z<|bQ ?_;refine⟨_,Z,?_⟩;exact bu (Value.int .i64) (by unfold iY;rw[df G])
theorem SL {s:AH} {b:Int} (co:Rd w dg iz dd 1 (ints .i64 s)) (hb:0<=b/\b<=2) (hs: ∀x∈s,0<=x/\x<=1000000) (hN:s.length<=1000000):
  CF 295 #[sl dg iz dd,I b] w (λv R'=> ∃A c,v=sl A (s.length) c/\R'=[(ri 3 A s.length c (gG s b))]):=by
 obtain rfl:=co.lenI;refine fn1 Tryz.func295 Z Z Z ?_;have b6:=co.max;refine wq<|wn Z<|wq<|wm Z<|wy (aL aa Z)<|wa (dM aa zb3 Z Z) ?_;rintro _ _⟨aq,rfl,rfl⟩;refine bC (v:=sl (GG aq) s.length s.length) Z<|wn Z<|aD<|wq<|wm Z<|wy (aL aa Z)<|wm Z<|aA<|aH ?_;refine dI (λ(i:Int) (V:AH)=>[(0,sl dg s.length dd),(1,I b),(5,sl (GG aq) s.length s.length),(11,I (s.length:Int)),(12,I i)]) (λi V=>[(ri 3 (GG aq) s.length s.length V)]) (λi V=>(0<=i)/\(i<=s.length)/\(V.length=s.length)/\(∀j:Int,0<=j->j<i->rd V j=iY s (j+b))) (λi V=>(s.length-i).toNat) ?_ ?_
 ·exact⟨0,List.replicate s.length (0:Int),⟨G,G,(by rw[dh]),(λj h1 h2=>G)⟩,KP⟩
 intro i V ⟨bb,gd,ld,hV⟩;refine wq<|wL Z Z<|aA<|aD<|bA Z (λba=> ?_) (λba=> ?_)
 ·refine aI<|aD<|aH<|wq<|wm Z<|wn Z<|aK<|wm Z<|wm Z<|wm Z<|wm Z<|wm Z<|wA Z Z ?_;refine wa (aC aAx Z (Ct.quiet (λw hw=>xB ((co.c _) w hw) G cE))) ?_;rintro _ _⟨rfl,rfl⟩;refine wy (aF aa sz3 Z Z (rdr 0 Z))<|dC (bG 0 Z sz3 Z Z) ?_;rintro _ _ rfl;refine aA<|aK<|wA Z Z<|wm Z<|aA ?_;exact⟨i+1,upd V i (iY s (i+b)),⟨G,G,(by rw[aX];exact ld),(fA (f:=λj=>iY s (j+b)) bb G hV Z)⟩,G,KP⟩
 ·refine aR<|wq<|wm Z<|wn Z<|aT [0] 99 cC Z ?_;refine⟨_,Z,?_⟩;obtain rfl:V=gG s b:=aUl ld (λj h1 h2=>hV j h1 G);exact⟨_,_,Z,Z⟩
theorem aGx {s:AH} (co:Rd w dg iz dd 1 (ints .i64 s)) (hi:0<=i/\i<=1000000) (hj:0<=j/\j<=1000000) (hs: ∀x∈s,0<=x/\x<=1000000):
  CF 323 #[sl dg iz dd,I i,I j] w (λv R'=>v= .bool (decide (QF s i j))):=by
 obtain rfl:=co.lenI;refine fn1 Tryz.func323 Z Z Z ?_;have b6:=co.max;refine wq<|wn Z<|aD<|wq<|wm Z<|aA<|aH ?_;refine gZ (λ(b:Int)=>[(0,sl dg s.length dd),(1,I i),(2,I j),(8,I b)]) (λb=>[]) (λb=>(0<=b)/\(b<=3)/\(∀c:Int,0<=c->c<b->iY s (i+c)=iY s (j+c))) (λb=>(3-b).toNat) ?_ ?_
 ·exact⟨0,⟨G,G,(λc h1 h2=>G)⟩,KP⟩
 intro b ⟨o7,Kv,hk⟩;refine wq<|wL Z Z<|aA<|aD<|bA Z (λba=> ?_) (λba=> ?_)
 ·refine aI<|aD<|aH<|wq<|wm Z<|wn Z<|wq<|wm Z<|wm Z<|wm Z<|wA Z Z<|wa (aC aAx Z (Ct.quiet (λw hw=>xB ((co.c _) w hw) G cE))) ?_;rintro _ _⟨rfl,rfl⟩;refine wm Z<|wm Z<|wm Z<|wA Z Z<|wa (aC aAx Z (Ct.quiet (λw hw=>xB ((co.c _) w hw) G cE))) ?_;rintro _ _⟨rfl,rfl⟩;refine wy (jP Z Z)<|aA<|bA Z (λcj=> ?_) (λcj=> ?_)
  ·refine wq<|wn Z<|bQ ?_;refine⟨_,Z,?_⟩;exact bu Value.bool (qa (aXz o7 G cj)).symm
  ·refine aI<|aK<|wA Z Z<|wm Z<|aA ?_;exact⟨b+1,⟨G,G,(λc h1 h2=>(bz c b).elim (hk c h1) λg=>by rw[show c=b by omega];exact xh.1 cj)⟩,G,KP⟩
 ·refine aR<|wq<|wn Z<|bQ ?_;refine⟨_,Z,?_⟩;exact bu Value.bool (ni (bCz λc h1 h2=>hk c h1 G)).symm
theorem aMt {s:AH} {Kh:AF} {Uy Km:Nat} {rk:AH} {o:AH} (co:Rd w dg iz dd 1 (ints .i64 s)) (o6:Rd w Kh Uy Km 1 (ints .i64 rk)) (hR:RkO s o rk) (hi:(0<=i/\i<s.length)/\i%3≠0) (hj:(0<=j/\j<s.length)/\j%3=0) (hs: ∀x∈s,0<=x/\x<=1000000) (hN:s.length<=1000000):
  CF 296 #[sl dg iz dd,sl Kh Uy Km,I i,I j] w (λv R'=>v= .bool (decide (cmpL (s.drop i.toNat) (s.drop j.toNat)<0))):=by
 obtain rfl:=co.lenI;obtain rfl:=o6.lenI;refine fn1 Tryz.func296 Z Z Z ?_;have b6:=co.max;have m_rk:=o6.max;have nn:Nn s:=λx hx=>(hs x hx).1;refine wq<|wn Z<|aH ?_;refine gN (λ(p:Int) (q:Int) (c:Nat)=>[(0,sl dg s.length dd),(1,sl Kh rk.length Km),(2,I p),(3,I q)]) (λp q c=>[]) (λp q c=>(p=i+c)/\(q=j+c)/\(EqH c (eu s i.toNat) (eu s j.toNat))/\(c=0\/c=1/\i%3=2)) (λp q c=>2-c) ?_ ?_
 ·exact⟨i,j,0,⟨G,G,(λd hd=>G),(.inl rfl)⟩,KP⟩
 intro p q c ⟨hp,hq,he,hc⟩;have hcc:c<=1:=G
 have ld:=hR.len;refine aH<|aD<|wq<|wm Z<|wm Z<|wa (aC aAx Z (Ct.quiet (λw hw=>xB ((co.c _) w hw) G cE))) ?_;rintro _ _⟨rfl,rfl⟩;refine wm Z<|wm Z<|wa (aC aAx Z (Ct.quiet (λw hw=>xB ((co.c _) w hw) G cE))) ?_;rintro _ _⟨rfl,rfl⟩;refine wg Z<|wn Z<|wq<|wm Z<|wm Z<|wy (jP Z Z)<|aA<|bA Z (λba=> ?_) (λba=> ?_)
 ·refine wq<|wm Z<|wm Z<|wL Z Z<|wn Z<|bQ ?_;refine⟨_,Z,?_⟩;exact bu Value.bool (sj.2 (by subst hp hq;rw[iE];exact aUc nn hi.1.1 hj.1.1 he ba))
 ·have he2:=bBg nn hi.1.1 hj.1.1 he (by rw[<-hp,<-hq];exact xh.1 ba);refine aI<|wq<|wm Z<|wA Z Z<|wm Z<|wA Z Z<|wg Z<|wn Z<|wq<|wm Z<|wy (rR Z Z)<|wy (jP Z Z) ?_;refine wm Z<|bV 4 [(0,sl dg s.length dd),(1,sl Kh rk.length Km),(2,I (p+1)),(3,I (q+1)),(34, .bool (decide ((((p+1)%3)≠0)/\(((q+1)%3)≠0))))] [] ?_ ?_
  ·refine bN 30 Z (λcj=> ?_) (λcj=> ?_)
   ·refine aB Z Z<|wm Z<|aB Z Z<|wy (rR Z Z)<|aB Z Z<|wy (jP Z Z)<|wy (aS Z Z)<|aA ?_;exact KP
   ·refine aM Z Z Z Z<|aM Z Z Z Z<|aM Z Z Z Z<|wy (aO Z Z)<|aA ?_;exact KP
  refine aA<|bA Z (λfh=> ?_) (λfh=> ?_)
  ·have Mm:=aMs hR hi.1 hj.1 G he2 G G;rw[show i+((c+1:Nat):Int)=p+1 by omega,show j+((c+1:Nat):Int)=q+1 by omega] at Mm;refine aD<|bF mixed<|wD 0 Z (aJ Z)<|wD 1 Z (aJ Z)<|wD 2 Z (aJ Z)<|wD 3 Z (aL aa Z)<|wD 4 Z (sW Z Z)<|wD 5 Z (aF aa sz3 Z Z (o6.c _))<|wD 6 Z (aU au Z Z (o6.c _))<|wD 7 Z (aJ Z)<|wD 8 Z (aJ Z)<|wD 9 Z (aJ Z)<|wD 10 Z (aL aa Z)<|wD 11 Z (sW Z Z)<|wD 12 Z (aF aa sz3 Z Z (o6.c _)) ?_;refine wD 13 Z (aU au Z Z (o6.c _))<|wD 14 Z (eZ Z Z)<|wD 15 Z (bB Z)<|wN<|bQ ?_;refine⟨_,Z,?_⟩;exact bu Value.bool (sj.2 (by rw[iE,Eu Mm.1.1,Eu Mm.1.2];exact Mm.2))
  ·refine aI ?_;exact⟨p+1,q+1,(c+1),⟨G,G,(he2),G⟩,G,KP⟩
theorem PX {w:World} {s:AH} (co:Rd w dg iz dd 1 (ints .i64 s)) (IH: ∀ {w:World} {nw:AF} {qu oe:Nat} {t:AH} {j:Int},Rd w nw qu oe 1 (ints .i64 t)->t.length<s.length->((0<=j/\j<=1000000)/\ ∀x∈t,0<=x/\x<j)->t.length<=100000->CF 266 #[sl nw qu oe,I j] w (λv R'=> ∃(b:AH) (A:AF) (c:Nat),v=sl A t.length c/\b.Perm (iota t.length)/\b.Pairwise (bY t)/\R'=[(ri 3 A t.length c b)])) (dr:(0<=k/\k<=1000000)/\ ∀x∈s,0<=x/\x<k) (hN:s.length<=100000) (h2:2<=s.length):
  CF 294 #[sl dg iz dd,I k] w (λv R'=> ∃(o V:AH) (A A':AF) (c c' m:Nat),v= .tuple #[sl A o.length c,sl A' m c']/\m=V.length/\RkO s o V/\(∀(B:Nat) (w0 w:World),Hp B w0 w R'->Rd w A o.length c 1 (ints .i64 o))/\ ∀(B:Nat) (w0 w:World),Hp B w0 w R'->Rd w A' V.length c' 1 (ints .i64 V)):=by
 obtain rfl:=co.lenI;refine fn2 Tryz.func294 Z Z Z ?_;have b6:=co.max;have nn:Nn s:=λx hx=>(dr.2 x hx).1;have vq: ∀x∈s,0<=x/\x<=1000000:=λx hx=>by have:=dr.2 x hx;omega
 have lp1:=kC s.length 1;have lp2:=kC s.length 2;have lsm:=BP s.length;refine wq<|bT (R1:=((ri 3 none 0 0 ([]))::[])) (Sub.refl _) (λ_ h=>h.nil 3 1)<|wg Z<|wn Z<|wq<|wm Z<|wy (aL aa Z)<|wa (aC bJr Z (Ct.fresh (λw hw=>YI G))) ?_;rintro _ _⟨_,rfl,cg,ce,rfl,rfl⟩;refine bC (v:=sl cg ((smp s.length).length) ce) Z<|wn Z<|wq<|wm Z<|wn Z<|aD<|wq<|wn Z<|aH ?_;refine BC (λ(b:Int) (A1:AF) (n1:Nat) (c1:Nat) (O:AH) (A6:AF) (n6:Nat) (c6:Nat) (j:Nat) (Rs:List Row)=>[(0,sl dg s.length dd),(1,I k),(4,sl A1 n1 c1),(6,sl A6 n6 c6),(7,I b)]) (λb A1 n1 c1 O A6 n6 c6 j Rs=>((ri 3 none 0 0 ([]))::Rs)) (λb A1 n1 c1 O A6 n6 c6 j Rs=>(b=2-j)/\(j<=3)/\(O=bFk s k j)/\(n1=O.length)/\(n6=(smp s.length).length)/\(∀(B:Nat) (w0 w:World),Hp B w0 w Rs->Rd w A1 n1 c1 1 (ints .i64 O))/\(∀(B:Nat) (w0 w:World),Hp B w0 w Rs->Rd w A6 n6 c6 1 (ints .i64 (smp s.length)))) (λb A1 n1 c1 O A6 n6 c6 j Rs=>(b+1).toNat) ?_ ?_
 ·exact⟨2,cg,(smp s.length).length,ce,(smp s.length),cg,(smp s.length).length,ce,0,((ri 3 cg ((smp s.length).length) ce (smp s.length))::[]),⟨G,G,(Z),(Z),(Z),(λB w0 w h=>rdr 0 Z w h),(λB w0 w h=>rdr 0 Z w h)⟩,SA,λ_ h=>h.selR (F:=[_,_]) (F':=[_,_]) [1,0] cC Z⟩
 intro b A1 n1 c1 O A6 n6 c6 j Rs ⟨hj,hj3,hO,cm,hn6,h4,h6⟩;have s9:=FB dr.2 dr.1.1 j hj3;rw[<-hO] at s9;have Vl:=s9.length_eq;rw[BP] at Vl;refine aD<|wq<|wm Z<|wy (iD Z Z)<|aA<|bA Z (λba=> ?_) (λba=> ?_)
 ·have g9:0<=b/\b<=2:=G
  have sk:O.length=(cZ O (gG s b) (k+1).toNat).length:=((qI dr.2 dr.1.1 g9.1 (λx hx=>nZ (s9.subset hx))).length_eq).symm;refine aI<|aD<|aH<|aK<|wm Z<|wm Z<|wm Z<|wa (aC bEg Z (Ct.fresh (λw hw=>SL ((co.c _) w hw) G vq G))) ?_;rintro _ _⟨_,rfl,en,es,rfl,rfl⟩;refine wm Z<|wA Z Z<|wa (aC NV Z (Ct.fresh (λw hw=>uW ((λ_ h=>h4 _ _ _ (h.right (R':=[_,_]))) w hw) ((rdr 0 Z) w hw) G (ZZ dr.2 dr.1.1 G) (λx hx=>by have:=nZ (s9.subset hx);rw[GA];omega) G))) ?_;rintro _ _⟨_,rfl,fm,kx,rfl,rfl⟩;refine wm Z<|wX Z Z<|wX Z Z<|wn Z<|aK<|wm Z<|wS Z Z<|wn Z ?_;exact⟨b-1,fm,(O).length,kx,(cZ O (gG s b) (k+1).toNat),A6,n6,c6,(j+1),((ri 3 fm ((O).length) kx (cZ O (gG s b) ((k+1)).toNat))::Rs),⟨G,G,(by rw[hO,hj];rfl),(sk),(hn6),(λB w0 w h=>rdr 0 Z w h),(λB w0 w h=>h6 B w0 w h.tail)⟩,G,SA,λ_ h=>h.selR (F:=[_,_,_]) (F':=[_,_]) [2,0] cC Z⟩
 ·have hO3:O=bFl s k:=by rw[hO,show j=3 by omega];rfl
  have hOs:=aDd dr.2 dr.1.1;rw[<-hO3] at hOs;refine aR<|wq<|wm Z<|wy (aL aa Z)<|wA Z Z<|wa (dM aa zb3 Z Z) ?_;rintro _ _⟨ml,rfl,rfl⟩;refine bC (v:=sl (GG ml) (((s.length:Int)+3).toNat) (((s.length:Int)+3).toNat)) Z<|wn Z<|wq<|wn Z<|aD<|wq<|wm Z<|wy (aL aa Z)<|wm Z<|aA<|aH ?_;refine gN (λ(q:Int) (n:Int) (V:AH)=>[(0,sl dg s.length dd),(4,sl A1 n1 c1),(5,sl (GG ml) (((s.length:Int)+3).toNat) (((s.length:Int)+3).toNat)),(6,sl A6 n6 c6),(8,I n),(43,sl A1 n1 c1),(44,I (n1:Int)),(45,I q)]) (λq n V=>((ri 3 (GG ml) (((s.length:Int)+3).toNat) (((s.length:Int)+3).toNat) V)::(ri 3 none 0 0 ([]))::Rs)) (λq n V=>(0<=q)/\(q<=O.length)/\(RkI s O V q n)) (λq n V=>(O.length-q).toNat) ?_ ?_
  ·exact⟨0,0,List.replicate (((s.length:Int)+3).toNat) (0:Int),⟨G,G,(by rw[show((s.length:Int)+3).toNat=s.length+3 by omega];exact aRs)⟩,KP⟩
  intro q n V ⟨js,xa,hI⟩;have ld:=hI.len;have hnq:=hI.nq;have Le:=hI.n0;refine wq<|wL Z Z<|aA<|aD<|bA Z (λcj=> ?_) (λcj=> ?_)
  ·have It:0<=q-> ∀p:Int,0<=p->p<O.length->0<=rd O p/\rd O p<s.length:=λ_ p a b=>nZ (s9.subset (bI a b));refine aI<|aD<|aH<|wq<|wm Z<|wy (aF aa sz3 Z Z (λ_ h=>h4 _ _ _ (h.right (R':=[_,_]))))<|wy (aU au Z Z (λ_ h=>h4 _ _ _ (h.right (R':=[_,_]))))<|wg Z<|wn Z<|aD<|wq<|wm Z ?_;refine wy (fD Z Z)<|wm Z<|bV 10 [(0,sl dg s.length dd),(4,sl A1 n1 c1),(5,sl (GG ml) (((s.length:Int)+3).toNat) (((s.length:Int)+3).toNat)),(6,sl A6 n6 c6),(8,I n),(10,I (rd O q)),(43,sl A1 n1 c1),(44,I (n1:Int)),(45,I q),(62, .bool (decide ((q=0)\/(¬(QF s (rd O (q-1)) (rd O q))))))] ((ri 3 (GG ml) (((s.length:Int)+3).toNat) (((s.length:Int)+3).toNat) V)::(ri 3 none 0 0 ([]))::Rs) ?_ ?_
   ·refine bN 52 Z (λfh=> ?_) (λfh=> ?_)
    ·refine aM Z Z Z Z<|aM Z Z Z Z<|aM Z Z Z Z<|aM Z Z Z Z<|aM Z Z Z Z<|aM Z Z Z Z<|aM Z Z Z Z<|aM Z Z Z Z<|aM Z Z Z Z<|wy (aS Z Z)<|aA ?_;exact KP
    ·refine aB Z Z<|wm Z<|aB Z Z<|wm Z<|aB Z Z<|wm Z<|aB Z Z<|wS Z Z<|aB Z Z<|wy (aF aa sz3 Z Z (λ_ h=>h4 _ _ _ (h.right (R':=[_,_]))))<|aB Z Z<|wy (aU au Z Z (λ_ h=>h4 _ _ _ (h.right (R':=[_,_]))))<|aB Z Z<|wm Z<|aB Z Z ?_;refine wa (aC bJq Z (Ct.quiet (λw hw=>aGx ((co.c _) w hw) (by have:=It js (q-1) G G;omega) (by have:=It js q G G;omega) vq))) ?_;rintro _ _⟨rfl,rfl⟩;refine aB Z Z<|wy (uH Z)<|wy (aO Z Z)<|aA ?_;exact KP
   refine aA<|bA Z (λjj=> ?_) (λjj=> ?_)
   ·refine aK<|wm Z<|wA Z Z<|wn Z<|aK<|wm Z<|wm Z<|wm Z<|wy (aF aa sz3 Z Z (rdr 0 Z) (by have:=It js q G G;omega) (by have:=It js q G G;omega)) ?_;refine dC (bG 0 Z sz3 Z Z (by have:=It js q G G;omega) (by have:=It js q G G;omega)) ?_;rintro _ _ rfl;refine aA<|aK<|wA Z Z<|wm Z<|aA ?_;exact⟨q+1,n+1,upd V (rd O q) (n+1),⟨G,G,(hI.step s9 js G (.inl ⟨Z,bGp nn s9 hOs js G jj⟩))⟩,G,KP⟩
   ·refine aI<|aK<|wm Z<|wm Z<|wm Z<|wy (aF aa sz3 Z Z (rdr 0 Z) (by have:=It js q G G;omega) (by have:=It js q G G;omega)) ?_;refine dC (bG 0 Z sz3 Z Z (by have:=It js q G G;omega) (by have:=It js q G G;omega)) ?_;rintro _ _ rfl;refine aA<|aK<|wA Z Z<|wm Z<|aA ?_;exact⟨q+1,n,upd V (rd O q) n,⟨G,G,(hI.step s9 js G (.inr ⟨Z,bGm nn s9 js G jj⟩))⟩,G,KP⟩
  ·have Vi:RkI s O V O.length n:=by have e:q=O.length:=G;rw[<-e];exact hI
   refine aR<|aD<|wq<|wm Z<|wm Z<|wy (aL aa Z)<|wy (fD Z Z)<|aA<|bA Z (λkb=> ?_) (λkb=> ?_)
   ·refine wq<|wm Z<|wm Z<|wg Z<|wn Z<|aT [0] 2 cC Z ?_;refine⟨_,_,Z,Z,?_⟩;obtain rfl:=cm;have Sd:((s.length:Int)+3).toNat=V.length:=by have:=Vi.len;omega
    exact⟨O,V,_,_,_,_,_,Z,Sd,Vi.all s9 G,λB w0 w h=>h4 B w0 w h.tail,λB w0 w h=>by rw[<-Sd];exact rdr 0 rfl w h⟩
   ·have hF:=Vi.done s9;have h4l:4<=s.length:=Ik.1 λg=>kb (by have:=Vi.short s9 h2 G;omega);refine aI<|wq<|wm Z<|wy (aL aa Z)<|wa (aC TD Z (Ct.fresh (λw hw=>mM cE G))) ?_;rintro _ _⟨_,rfl,bw,bx,rfl,rfl⟩;refine bC (v:=sl bw ((plc s.length 1).length) bx) Z<|wn Z<|wq<|bT (R1:=((ri 3 none 0 0 ([]))::(ri 3 bw ((plc s.length 1).length) bx (plc s.length 1))::(ri 3 (GG ml) (((s.length:Int)+3).toNat) (((s.length:Int)+3).toNat) V)::(ri 3 none 0 0 ([]))::Rs)) (Sub.refl _) (λ_ h=>h.nil 3 1)<|wn Z<|aD<|wq<|wm Z<|wy (aL aa Z)<|wm Z<|aA ?_;refine aH ?_;refine eH (λ(A2:AF) (n2:Nat) (c2:Nat) (a2:AH) (i:Int)=>[(0,sl dg s.length dd),(5,sl (GG ml) (((s.length:Int)+3).toNat) (((s.length:Int)+3).toNat)),(6,sl A6 n6 c6),(8,I n),(11,sl bw ((plc s.length 1).length) bx),(12,sl A2 n2 c2),(79,sl bw ((plc s.length 1).length) bx),(80,I (((plc s.length 1).length:Nat):Int)),(81,I i)]) (λA2 n2 c2 a2 i=>((ri 3 A2 n2 c2 a2)::(ri 3 bw ((plc s.length 1).length) bx (plc s.length 1))::(ri 3 (GG ml) (((s.length:Int)+3).toNat) (((s.length:Int)+3).toNat) V)::(ri 3 none 0 0 ([]))::Rs)) (λA2 n2 c2 a2 i=>(n2=a2.length)/\(0<=i)/\(i<=(plc s.length 1).length)/\(a2=((plc s.length 1).take i.toNat).map (rd V))) (λA2 n2 c2 a2 i=>((plc s.length 1).length-i).toNat) ?_ ?_
    ·exact⟨none,0,0,[],0,⟨(Z),G,G,(Z)⟩,KP⟩
    intro A2 n2 c2 a2 i ⟨pj,bb,gd,Ns⟩;have Nv:=bu List.length Ns;rw[bq,ax] at Nv;refine wq<|wL Z Z<|aA<|aD<|bA Z (λwv=> ?_) (λwv=> ?_)
    ·have Qk:=(kQ (n:=s.length) (r:=1) G).1 (bI (L:=plc s.length 1) bb G);refine aI<|aD<|aH<|wq<|wy (aF aa sz3 Z Z (rdr 1 Z))<|wy (aU au Z Z (rdr 1 Z))<|wn Z<|aK<|wm Z<|wm Z<|wm Z<|wy (aF aa sz3 Z Z (rdr 2 Z))<|wy (aU au Z Z (rdr 2 Z)) ?_;refine wa (bH .i64 [rd V (rd (plc s.length 1) i)] aa zs3 Z Z Z) ?_;rintro _ _⟨jn,rfl,rfl⟩;refine wa (aQ 1 Z aa zb3 Z Z Z (rdr 0 Z)) ?_;rintro _ _⟨dy,ee,rfl,rfl⟩;refine bC (v:=sl dy (n2+1) ee) Z<|wn Z<|aK<|wA Z Z<|wm Z<|aA ?_;exact⟨dy,n2+1,ee,a2++([rd V (rd (plc s.length 1) i)]),i+1,⟨(by simp only[ah,pj];try rfl),G,G,(by rw[dJ bb G,iv,Ns];rfl)⟩,G,SA,λ_ h=>h.selR (F:=[_,_,_,_,_]) (F':=[_,_,_,_]) [1,2,3,4] cC Z⟩
    ·refine aR<|wq<|wm Z<|wa (bH .i64 [0] aa zs3 Z Z Z) ?_;rintro _ _⟨o4,rfl,rfl⟩;refine wa (aQ 1 Z aa zb3 Z Z Z (rdr 0 Z)) ?_;rintro _ _⟨uv,gh,rfl,rfl⟩;refine bC (v:=sl uv (n2+1) gh) Z<|wn Z<|aD<|wq<|wm Z<|wy (aL aa Z)<|wa (aC TD Z (Ct.fresh (λw hw=>mM cE G))) ?_;rintro _ _⟨_,rfl,li,lj,rfl,rfl⟩;refine bC (v:=sl li ((plc s.length 2).length) lj) Z<|wy (aL aa Z)<|wm Z<|aA<|aH ?_;refine eH (λ(A3:AF) (n3:Nat) (c3:Nat) (a3:AH) (u:Int)=>[(5,sl (GG ml) (((s.length:Int)+3).toNat) (((s.length:Int)+3).toNat)),(6,sl A6 n6 c6),(8,I n),(11,sl bw ((plc s.length 1).length) bx),(12,sl A3 n3 c3),(98,sl li ((plc s.length 2).length) lj),(99,I (((plc s.length 2).length:Nat):Int)),(100,I u)]) (λA3 n3 c3 a3 u=>((ri 3 li ((plc s.length 2).length) lj (plc s.length 2))::(ri 3 (GG o4) 1 1 ([0]))::(ri 3 A3 n3 c3 a3)::(ri 3 bw ((plc s.length 1).length) bx (plc s.length 1))::(ri 3 (GG ml) (((s.length:Int)+3).toNat) (((s.length:Int)+3).toNat) V)::(ri 3 none 0 0 ([]))::Rs)) (λA3 n3 c3 a3 u=>(n3=a3.length)/\(0<=u)/\(u<=(plc s.length 2).length)/\(a3=((plc s.length 1).map (rd V)++[0])++((plc s.length 2).take u.toNat).map (rd V))) (λA3 n3 c3 a3 u=>((plc s.length 2).length-u).toNat) ?_ ?_
     ·exact⟨uv,n2+1,gh,a2++([0]),0,⟨(by simp only[ah,pj];try rfl),G,G,(by rw[Ns,bi G];simp)⟩,KP⟩
     intro A3 n3 c3 a3 u ⟨Wc,ju,tz,Nt⟩;have Xz:=bu List.length Nt;rw[ah,ah,bq,bq,ax,ib] at Xz;refine wq<|wL Z Z<|aA<|aD<|bA Z (λCl=> ?_) (λCl=> ?_)
     ·have Qk:=(kQ (n:=s.length) (r:=2) G).1 (bI (L:=plc s.length 2) ju G);refine aI<|aD<|aH<|wq<|wy (aF aa sz3 Z Z (rdr 0 Z))<|wy (aU au Z Z (rdr 0 Z))<|wn Z<|aK<|wm Z<|wm Z<|wm Z<|wy (aF aa sz3 Z Z (rdr 4 Z))<|wy (aU au Z Z (rdr 4 Z)) ?_;refine wa (bH .i64 [rd V (rd (plc s.length 2) u)] aa zs3 Z Z Z) ?_;rintro _ _⟨c5,rfl,rfl⟩;refine wa (aQ 3 Z aa zb3 Z Z Z (rdr 0 Z)) ?_;rintro _ _⟨jx,jz,rfl,rfl⟩;refine bC (v:=sl jx (n3+1) jz) Z<|wn Z<|aK<|wA Z Z<|wm Z<|aA ?_;exact⟨jx,n3+1,jz,a3++([rd V (rd (plc s.length 2) u)]),u+1,⟨(by simp only[ah,Wc];try rfl),G,G,(by rw[dJ ju G,iv,Nt,gq];rfl)⟩,G,SA,λ_ h=>h.selR (F:=[_,_,_,_,_,_,_]) (F':=[_,_,_,_,_,_]) [1,2,3,4,5,6] cC Z⟩
     ·have zr:a3=blw s V:=by rw[Nt,bi G];rfl
      refine aR<|wq<|wn Z<|aD<|wq<|wm Z<|wm Z<|wA Z Z<|wa (aC bEj Z (Ct.fresh (λw hw=>IH ((rdr 2 Z) w hw) (by rw[zr,vF];omega) ⟨G,by rw[zr];exact aXo hF hI.n0⟩ (by rw[zr,vF];omega)))) ?_;rintro _ _⟨_,rfl,b1,nd,nh,rfl,dq,fg,rfl⟩;refine wy (aL aa Z)<|wm Z<|aA<|aH ?_;refine eH (λ(A4:AF) (n4:Nat) (c4:Nat) (a4:AH) (m:Int)=>[(4,sl A4 n4 c4),(5,sl (GG ml) (((s.length:Int)+3).toNat) (((s.length:Int)+3).toNat)),(6,sl A6 n6 c6),(11,sl bw ((plc s.length 1).length) bx),(115,sl nd a3.length nh),(116,I (a3.length:Int)),(117,I m)]) (λA4 n4 c4 a4 m=>((ri 3 nd a3.length nh b1)::(ri 3 li ((plc s.length 2).length) lj (plc s.length 2))::(ri 3 (GG o4) 1 1 ([0]))::(ri 3 A3 n3 c3 a3)::(ri 3 bw ((plc s.length 1).length) bx (plc s.length 1))::(ri 3 (GG ml) (((s.length:Int)+3).toNat) (((s.length:Int)+3).toNat) V)::(ri 3 A4 n4 c4 a4)::Rs)) (λA4 n4 c4 a4 m=>(n4=a4.length)/\(0<=m)/\(m<=b1.length)/\(a4=ofB s (b1.take m.toNat))) (λA4 n4 c4 a4 m=>(b1.length-m).toNat) ?_ ?_
      ·exact⟨none,0,0,[],0,⟨(Z),G,G,(Z)⟩,KP⟩
      intro A4 n4 c4 a4 m ⟨Wd,rv,mt,Bm⟩;have hbl1:b1.length=a3.length:=by rw[dq.length_eq,bD]
      have hal4:=bu List.length Bm;have Ya:=bAn (s:=s) (b1.take m.toNat);rw[ax] at Ya;refine wq<|wL Z Z<|aA<|aD<|bA Z (λSq=> ?_) (λSq=> ?_)
      ·have Vr:=aZ.1 (dq.subset (bI (L:=b1) rv G));rw[zr,vF] at Vr;refine aI<|aD<|aH<|wq<|wy (aF aa sz3 Z Z (rdr 0 Z))<|wy (aU au Z Z (rdr 0 Z))<|wn Z<|aH<|wq<|wm Z<|wm Z<|wy (aL aa Z) ?_;refine wL Z Z<|wn Z<|bA Z (λYk=> ?_) (λYk=> ?_)
       ·refine aK<|wm Z<|wm Z<|wm Z<|wy (aF aa sz3 Z Z (rdr 4 Z))<|wy (aU au Z Z (rdr 4 Z))<|wa (bH .i64 [rd (plc s.length 1) (rd b1 m)] aa zs3 Z Z Z) ?_;rintro _ _⟨g_30,rfl,rfl⟩;refine wa (aQ 7 Z aa zb3 Z Z Z (rdr 0 Z)) ?_;rintro _ _⟨v8,w8,rfl,rfl⟩;refine bC (v:=sl v8 (n4+1) w8) Z<|wn Z<|aK<|wA Z Z<|wm Z<|aA ?_;exact⟨v8,n4+1,w8,a4++([rd (plc s.length 1) (rd b1 m)]),m+1,⟨(by simp only[ah,Wd];try rfl),G,G,(by rw[dJ rv G,ZL G,Bm,bHt Vr.1 G])⟩,G,SA,λ_ h=>h.selR (F:=[_,_,_,_,_,_,_,_]) (F':=[_,_,_,_,_,_,_]) [1,2,3,4,5,6,7] cC Z⟩
       ·refine wq<|wm Z<|wm Z<|wy (aL aa Z)<|wy (dA Z Z)<|wn Z<|bA Z (λYi=> ?_) (λYi=> ?_)
        ·refine aK<|wm Z<|wm Z<|wm Z<|wS Z Z<|wy (aF aa sz3 Z Z (λ_ h=>h6 _ _ _ (h.right (R':=[_,_,_,_,_,_,_]))))<|wy (aU au Z Z (λ_ h=>h6 _ _ _ (h.right (R':=[_,_,_,_,_,_,_]))))<|wa (bH .i64 [rd (smp s.length) ((rd b1 m)-1)] aa zs3 Z Z Z) ?_;rintro _ _⟨Xf,rfl,rfl⟩;refine wa (aQ 7 Z aa zb3 Z Z Z (rdr 0 Z)) ?_;rintro _ _⟨i7,i9,rfl,rfl⟩;refine bC (v:=sl i7 (n4+1) i9) Z<|wn Z<|aK<|wA Z Z<|wm Z<|aA ?_;exact⟨i7,n4+1,i9,a4++([rd (smp s.length) ((rd b1 m)-1)]),m+1,⟨(by simp only[ah,Wd];try rfl),G,G,(by rw[dJ rv G,ZL G,Bm,bHs G G])⟩,G,SA,λ_ h=>h.selR (F:=[_,_,_,_,_,_,_,_]) (F':=[_,_,_,_,_,_,_]) [1,2,3,4,5,6,7] cC Z⟩
        ·refine aI<|aK<|wA Z Z<|wm Z<|aA ?_;exact⟨A4,n4,c4,a4,m+1,⟨(by simp only[ah,Wd];try rfl),G,G,(by rw[dJ rv G,ZK G,Bm])⟩,G,KP⟩
      ·rw [zr] at dq fg;have hof:a4=ofB s b1:=by rw[Bm,bi G]
       have Os:a4.Perm (smp s.length):=by rw[hof];exact aTl dq
       have Zm:a4.Pairwise (bY s):=by rw[hof];exact aEo hF hI.n0 dq fg
       refine aR<|aD<|wq<|wm Z<|wy (aL aa Z)<|wm Z<|aA<|aH ?_;refine dI (λ(z:Int) (V5:AH)=>[(4,sl A4 n4 c4),(5,sl (GG ml) (((s.length:Int)+3).toNat) (((s.length:Int)+3).toNat)),(147,sl A4 n4 c4),(148,I (n4:Int)),(149,I z)]) (λz V5=>((ri 3 nd a3.length nh b1)::(ri 3 li ((plc s.length 2).length) lj (plc s.length 2))::(ri 3 (GG o4) 1 1 ([0]))::(ri 3 A3 n3 c3 a3)::(ri 3 bw ((plc s.length 1).length) bx (plc s.length 1))::(ri 3 (GG ml) (((s.length:Int)+3).toNat) (((s.length:Int)+3).toNat) V5)::(ri 3 A4 n4 c4 a4)::Rs)) (λz V5=>(0<=z)/\(z<=a4.length)/\(RkN s a4 V5 z)) (λz V5=>(a4.length-z).toNat) ?_ ?_
       ·exact⟨0,V,⟨G,G,(hF.zero _)⟩,KP⟩
       intro z V5 ⟨vt,xb,Vk⟩;have hV5:=Vk.len;refine wq<|wL Z Z<|aA<|aD<|bA Z (λYj=> ?_) (λYj=> ?_)
       ·have hzi:=nZ (Os.subset (bI (L:=a4) vt G));refine aI<|aD<|aH<|wq<|wm Z<|wy (aF aa sz3 Z Z (rdr 6 Z))<|wy (aU au Z Z (rdr 6 Z))<|wg Z<|wn Z<|aK<|wm Z<|wm Z<|wm Z ?_;refine wA Z Z<|wy (aF aa sz3 Z Z (rdr 5 Z))<|dC (bG 5 Z sz3 Z Z) ?_;rintro _ _ rfl;refine aA<|aK<|wA Z Z<|wm Z<|aA ?_;exact⟨z+1,upd V5 (rd a4 z) (z+1),⟨G,G,(Vk.step Os vt G)⟩,G,KP⟩
       ·refine aR<|wq<|wm Z<|wm Z<|wg Z<|wn Z<|bU (R1:=[(ri 3 A4 n4 c4 a4),(ri 3 (GG ml) (((s.length:Int)+3).toNat) (((s.length:Int)+3).toNat) V5)]) (λ_ h=>(h.selR (F:=[_,_,_,_,_,_,_]) (F':=[_,_]) [6,5] cC Z).left (X:=[_,_])) ?_;refine⟨_,_,Z,Z,?_⟩;obtain rfl:=Wd;have Sd:((s.length:Int)+3).toNat=V5.length:=by have:=Vk.len;omega
        have hNe:RkN s a4 V5 a4.length:=by have e:z=a4.length:=G;rw[<-e];exact Vk
        exact⟨a4,V5,_,_,_,_,_,Z,Sd,hNe.done Os Zm,λB w0 w h=>rdr 0 Z w h,λB w0 w h=>by rw[<-Sd];exact rdr 1 rfl w h⟩
theorem aSo {l:AH} {a:Int} (h0:0<=a):rd (l.drop a.toNat) 0=rd l a:=by
 unfold rd;rw[ai,ai,qz];rfl
theorem IX {w:World} {s:AH} (co:Rd w dg iz dd 1 (ints .i64 s)) (IH: ∀ {w:World} {nw:AF} {qu oe:Nat} {t:AH} {j:Int},Rd w nw qu oe 1 (ints .i64 t)->t.length<s.length->((0<=j/\j<=1000000)/\ ∀x∈t,0<=x/\x<j)->t.length<=100000->CF 266 #[sl nw qu oe,I j] w (λv R'=> ∃(b:AH) (A:AF) (c:Nat),v=sl A t.length c/\b.Perm (iota t.length)/\b.Pairwise (bY t)/\R'=[(ri 3 A t.length c b)])) (dr:(0<=k/\k<=1000000)/\ ∀x∈s,0<=x/\x<k) (hN:s.length<=100000):
  CF 266 #[sl dg iz dd,I k] w (λv R'=> ∃(b:AH) (A:AF) (c:Nat),v=sl A s.length c/\b.Perm (iota s.length)/\b.Pairwise (bY s)/\R'=[(ri 3 A s.length c b)]):=by
 obtain rfl:=co.lenI;refine fn1 Tryz.func266 Z Z Z ?_;have b6:=co.max;have vq: ∀x∈s,0<=x/\x<=1000000:=λx hx=>by have:=dr.2 x hx;omega
 have lp0:=kC s.length 0;have lsm:=BP s.length;refine wq<|wn Z<|aD<|wq<|wm Z<|wy (aL aa Z)<|wL Z Z<|aA<|bA Z (λba=> ?_) (λba=> ?_)
 ·refine wq<|wm Z<|wy (aL aa Z)<|wa (aC TD Z (Ct.fresh (λw hw=>mM cE G))) ?_;rintro _ _⟨_,rfl,cg,ce,rfl,rfl⟩;refine bC (v:=sl cg ((plc s.length 0).length) ce) Z<|wm Z<|wy (aL aa Z)<|wy (dV aa sz3 Z Z (rdr 0 Z))<|wn Z<|bU (R1:=[(ri 3 cg ((plc s.length 0).length) ce (plc s.length 0))]) (λ_ h=>(h.selR (F:=[_]) (F':=[_]) [0] cC Z).left (X:=[_])) ?_;refine⟨_,Z,?_⟩;rw[aMc (show s.length<2 by omega),bD];exact⟨_,_,_,Z, .refl _,bGb G,Z⟩
 ·refine aI<|wq<|wm Z<|wm Z<|wa (aC bJz Z (Ct.fresh (λw hw=>PX ((co.c _) w hw) IH dr hN G))) ?_;rintro _ _⟨Rn,rfl,o1,V1,en,fm,es,kx,_,rfl,rfl,t6,Ox,i5⟩;refine bT (R1:=(Rn)) (Sub.refl _) (λ_ h=>Hp.toTail0 (X:=[]) (Y:=[]) h)<|wm Z<|wX Z Z<|wX Z Z<|wg Z<|wn Z<|wq<|wm Z<|wy (aL aa Z)<|wa (aC TD Z (Ct.fresh (λw hw=>mM cE G))) ?_;rintro _ _⟨_,rfl,gg,ef,rfl,rfl⟩;refine bC (v:=sl gg ((plc s.length 0).length) ef) Z<|wn Z<|wq<|wm Z<|wy (aL aa Z)<|wa (dM aa zb3 Z Z) ?_;rintro _ _⟨ml,rfl,rfl⟩;refine bC (v:=sl (GG ml) s.length s.length) Z<|wn Z<|aD<|wq<|wm Z<|wy (aL aa Z)<|wm Z<|aA<|aH ?_;refine dI (λ(i:Int) (V:AH)=>[(0,sl dg s.length dd),(1,I k),(5,sl en o1.length es),(6,sl fm V1.length kx),(7,sl gg ((plc s.length 0).length) ef),(8,sl (GG ml) s.length s.length),(35,I (s.length:Int)),(36,I i)]) (λi V=>((ri 3 (GG ml) s.length s.length V)::(ri 3 gg ((plc s.length 0).length) ef (plc s.length 0))::Rn)) (λi V=>(0<=i)/\(i<=s.length)/\(V.length=s.length)/\(∀j:Int,0<=j->j<i->rd V j=rd V1 (j+1))) (λi V=>(s.length-i).toNat) ?_ ?_
  ·exact⟨0,List.replicate s.length (0:Int),⟨G,G,(by rw[dh]),(λj h1 h2=>G)⟩,KP⟩
  intro i V ⟨bb,gd,ld,hV⟩;refine wq<|wL Z Z<|aA<|aD<|bA Z (λcj=> ?_) (λcj=> ?_)
  ·have hV1:=t6.len;refine aI<|aD<|aH<|wq<|wm Z<|wn Z<|aK<|wm Z<|wm Z<|wm Z<|wm Z<|wA Z Z<|wy (aF aa sz3 Z Z (λ_ h=>i5 _ _ _ (h.right (R':=[_,_])))) ?_;refine wy (aU au Z Z (λ_ h=>i5 _ _ _ (h.right (R':=[_,_]))))<|wy (aF aa sz3 Z Z (rdr 0 Z))<|dC (bG 0 Z sz3 Z Z) ?_;rintro _ _ rfl;refine aA<|aK<|wA Z Z<|wm Z<|aA ?_;exact⟨i+1,upd V i (rd V1 (i+1)),⟨G,G,(by rw[aX];exact ld),(fA (f:=λj=>rd V1 (j+1)) bb G hV Z)⟩,G,KP⟩
  ·have hB:V=bhd s V1:=bHw ld (λj h1 h2=>hV j h1 G);have Xi:=aSz t6;have Vg:=MU t6 dr.2 dr.1.1;have Ou:=aEj t6 dr.2 dr.1.1;have We:=t6.perm.length_eq;refine aR<|wq<|wm Z<|wm Z<|wm Z<|wy (aL aa Z)<|wA Z Z<|wa (aC NV Z (Ct.fresh (λw hw=>uW ((rdr 1 Z) w hw) ((rdr 0 Z) w hw) G (by rw[hB];exact aXp t6) (λx hx=>by rw[kQ G] at hx;omega) G))) ?_;rintro _ _⟨_,rfl,bw,bx,rfl,rfl⟩;generalize ya:cZ (plc s.length 0) V (((s.length:Int)+1)).toNat=ot1;refine wm Z<|wX Z Z<|wX Z Z<|wn Z<|wq<|wm Z<|wm Z<|wa (aC bEg Z (Ct.fresh (λw hw=>SL ((co.c _) w hw) G vq G))) ?_;rintro _ _⟨_,rfl,na,db,rfl,rfl⟩;refine wm Z<|wA Z Z<|wa (aC NV Z (Ct.fresh (λw hw=>uW ((rdr 1 Z) w hw) ((rdr 0 Z) w hw) G (ZZ dr.2 dr.1.1 G) (λx hx=>by rw[<-ya,hB] at hx;have:=Xi.subset hx;rw[kQ G] at this;rw[GA];omega) (by rw[<-ya,hB,Xi.length_eq];omega)))) ?_;rintro _ _⟨_,rfl,dy,ee,rfl,rfl⟩;generalize Og:cZ ot1 (gG s 0) ((k+1)).toNat=ot2;have Ov:oth s V1 k=ot2:=by unfold oth;rw[<-hB,ya,Og]
   rw[Ov] at Vg Ou;have un:=Vg.length_eq;have yd:ot1.length=ot2.length:=by rw[un,<-ya,hB,Xi.length_eq]
   refine wm Z<|wX Z Z<|wX Z Z<|wn Z<|wq<|bT (R1:=((ri 3 none 0 0 ([]))::(ri 3 dy ((ot1).length) ee ot2)::(ri 3 na ((s).length) db (gG s 0))::(ri 3 bw (((plc s.length 0)).length) bx ot1)::(ri 3 (GG ml) s.length s.length V)::(ri 3 gg ((plc s.length 0).length) ef (plc s.length 0))::Rn)) (Sub.refl _) (λ_ h=>h.nil 3 1)<|wn Z<|aD<|wq<|wm Z<|wy (aL aa Z) ?_;refine wm Z<|aA<|aH ?_;refine UI (λ(q:Int) (x:Int) (AL:AF) (nL:Nat) (cL:Nat) (acc:AH) (AO:AF) (nO:Nat) (cO:Nat)=>[(0,sl dg s.length dd),(5,sl AO nO cO),(6,sl fm V1.length kx),(10,sl AL nL cL),(66,sl dy ((ot1).length) ee),(67,I (((ot1).length:Nat):Int)),(68,I q)]) (λq x AL nL cL acc AO nO cO=>((ri 3 AL nL cL acc)::(ri 3 dy ((ot1).length) ee ot2)::(ri 3 na ((s).length) db (gG s 0))::(ri 3 bw (((plc s.length 0)).length) bx ot1)::(ri 3 (GG ml) s.length s.length V)::(ri 3 gg ((plc s.length 0).length) ef (plc s.length 0))::Rn)) (λq x AL nL cL acc AO nO cO=>(0<=q)/\(q<=ot2.length)/\(0<=x)/\(x<=o1.length)/\(MgI s o1 ot2 acc x q)/\(nL=acc.length)/\(nO=(o1.drop x.toNat).length)/\(∀(B:Nat) (w0 w:World),Hp B w0 w Rn->Rd w AO nO cO 1 (ints .i64 (o1.drop x.toNat)))) (λq x AL nL cL acc AO nO cO=>(ot2.length-q).toNat) ?_ ?_
   ·exact⟨0,0,none,0,0,[],en,o1.length,es,⟨G,G,G,G,(aTs),(Z),(Z),(Ox)⟩,KP⟩
   intro q x AL nL cL acc AO nO cO ⟨js,xa,hx0,xp,hM,hnL,hnO,h5⟩;have qt:=hM.len hx0 xp js xa;refine wq<|wL Z Z<|aA<|aD<|bA Z (λfh=> ?_) (λfh=> ?_)
   ·have hqq:q<ot2.length:=G
    have hqm:=(kQ G).1 (Vg.subset (bI (L:=ot2) js hqq));have hqj:(0<=rd ot2 q/\rd ot2 q<s.length)/\rd ot2 q%3=0:=G
    refine aI<|aD<|aH<|wq<|wy (aF aa sz3 Z Z (rdr 1 Z))<|wy (aU au Z Z (rdr 1 Z))<|wn Z<|aD<|aH ?_;refine uL (λ(y:Int) (AM:AF) (nM:Nat) (cM:Nat) (wd:AH) (AP:AF) (nP:Nat) (cP:Nat)=>[(0,sl dg s.length dd),(5,sl AP nP cP),(6,sl fm V1.length kx),(10,sl AM nM cM),(12,I (rd ot2 q)),(66,sl dy ((ot1).length) ee),(67,I (((ot1).length:Nat):Int)),(68,I q)]) (λy AM nM cM wd AP nP cP=>((ri 3 AM nM cM wd)::(ri 3 dy ((ot1).length) ee ot2)::(ri 3 na ((s).length) db (gG s 0))::(ri 3 bw (((plc s.length 0)).length) bx ot1)::(ri 3 (GG ml) s.length s.length V)::(ri 3 gg ((plc s.length 0).length) ef (plc s.length 0))::Rn)) (λy AM nM cM wd AP nP cP=>(0<=y)/\(y<=o1.length)/\(MgI s o1 ot2 wd y q)/\(nM=wd.length)/\(nP=(o1.drop y.toNat).length)/\(∀(B:Nat) (w0 w:World),Hp B w0 w Rn->Rd w AP nP cP 1 (ints .i64 (o1.drop y.toNat)))) (λy AM nM cM wd AP nP cP=>(o1.length-y).toNat) ?_ ?_
    ·exact⟨x,AL,nL,cL,acc,AO,nO,cO,⟨G,G,(hM),(hnL),(hnO),(h5)⟩,KP⟩
    intro y AM nM cM wd AP nP cP ⟨Ur,hy1,Sb,hnM,Zc,h6⟩;have Nv:=Sb.len Ur hy1 js G;have Zd:=Zc;rw[az] at Zd;have e0:=aSo (l:=o1) Ur
    have hoi:y<o1.length->(0<=rd (o1.drop y.toNat) 0/\rd (o1.drop y.toNat) 0<s.length)/\rd (o1.drop y.toNat) 0%3≠0:=λh=>by
     have:=mD.1 (t6.perm.subset (bI Ur h));rw[e0];omega
    refine aD<|wq<|wm Z<|wy (aL aa Z)<|wy (dA Z Z)<|wm Z<|bV 8 [(0,sl dg s.length dd),(5,sl AP nP cP),(6,sl fm V1.length kx),(10,sl AM nM cM),(12,I (rd ot2 q)),(66,sl dy ((ot1).length) ee),(67,I (((ot1).length:Nat):Int)),(68,I q),(83, .bool (decide ((0<(nP:Int))/\(cmpL ((s).drop ((rd (o1.drop y.toNat) 0)).toNat) ((s).drop ((rd ot2 q)).toNat)<0))))] ((ri 3 AM nM cM wd)::(ri 3 dy ((ot1).length) ee ot2)::(ri 3 na ((s).length) db (gG s 0))::(ri 3 bw (((plc s.length 0)).length) bx ot1)::(ri 3 (GG ml) s.length s.length V)::(ri 3 gg ((plc s.length 0).length) ef (plc s.length 0))::Rn) ?_ ?_
    ·refine bN 75 Z (λjj=> ?_) (λjj=> ?_)
     ·refine aB Z Z<|wm Z<|aB Z Z<|wm Z<|aB Z Z<|wm Z<|aB Z Z<|wy (aF aa sz3 Z Z (λ_ h=>h6 _ _ _ (h.right (R':=[_,_,_,_,_,_]))))<|aB Z Z<|wy (aU au Z Z (λ_ h=>h6 _ _ _ (h.right (R':=[_,_,_,_,_,_]))))<|aB Z Z<|wm Z<|aB Z Z<|wa (aC bJy Z (Ct.quiet (λw hw=>aMt ((co.c _) w hw) ((λ_ h=>i5 _ _ _ (h.right (R':=[_,_,_,_,_,_]))) w hw) t6 (hoi G) hqj vq G))) ?_;rintro _ _⟨rfl,rfl⟩;refine wy (aS Z Z)<|aA ?_;exact KP
     ·refine aM Z Z Z Z<|aM Z Z Z Z<|aM Z Z Z Z<|aM Z Z Z Z<|aM Z Z Z Z<|aM Z Z Z Z<|aM Z Z Z Z<|wy (aO Z Z)<|aA ?_;exact KP
    refine aA<|bA Z (λkb=> ?_) (λkb=> ?_)
    ·have Wh:y<o1.length:=G
     have u7:=iE.1 kb.2;rw[e0] at u7;refine aI<|aH<|bF mixed<|wD 0 Z (aJ Z)<|wD 1 Z (aJ Z)<|wD 2 Z (aF aa sz3 Z Z (λ_ h=>h6 _ _ _ (h.right (R':=[_,_,_,_,_,_]))))<|wD 3 Z (aU au Z Z (λ_ h=>h6 _ _ _ (h.right (R':=[_,_,_,_,_,_]))))<|wD 6 Z (aJ Z)<|wD 7 Z (dF aa sz3 Z Z)<|wC 4 Z (bH .i64 [rd (o1.drop y.toNat) 0] aa zs3 Z Z Z) ?_;rintro _ _⟨o4,rfl,rfl⟩;refine⟨.inr hrZ,?_⟩;refine wC 5 Z (aQ 1 Z aa zb3 Z Z Z (rdr 0 Z)) ?_;rintro _ _⟨uv,gh,rfl,rfl⟩;refine⟨.inl cA,?_⟩;refine fO (v:=sl uv (nM+1) gh) Z<|wD 8 Z (bB Z)<|wD 9 Z (bB Z)<|wN ?_
     exact⟨(y+1),uv,nM+1,gh,wd++([rd (o1.drop y.toNat) 0]),jH AP (1:Int).toNat cP 1,nP-(1:Int).toNat,cP-(1:Int).toNat,⟨G,G,(by rw[e0];exact Sb.left t6.sorted Ou Ur G js hqq u7),(by rw[ah,hnM];rfl),(by rw[az] at Zc ⊢;omega),(λB w0 w h=>by
        have g:=RdC.fromI (l:=(1:Int).toNat) (h6 B w0) G w h;rw[Fv,show y.toNat+(1:Int).toNat=(y+1).toNat by omega] at g
        exact g)⟩,G,SA,λ_ h=>h.selR (F:=[_,_,_,_,_,_,_]) (F':=[_,_,_,_,_,_]) [1,2,3,4,5,6] cC Z⟩
    ·have s6:y<o1.length->bY s (rd ot2 q) (rd o1 y):=λh=>by
      have h1:=hoi h;rw[e0] at h1 kb;rcases CR h1.1 hqj.1 G with g|g
      ·exact absurd ⟨G,iE.2 g⟩ kb
      ·exact g
     refine aR<|aK<|wm Z<|wm Z<|wa (bH .i64 [rd ot2 q] aa zs3 Z Z Z) ?_;rintro _ _⟨gi,rfl,rfl⟩;refine wa (aQ 1 Z aa zb3 Z Z Z (rdr 0 Z)) ?_;rintro _ _⟨gs,gw,rfl,rfl⟩;refine bC (v:=sl gs (nM+1) gw) Z<|wn Z<|aK<|wA Z Z<|wm Z<|aA ?_;exact⟨q+1,y,gs,nM+1,gw,wd++([rd ot2 q]),AP,nP,cP,⟨G,G,G,G,(Sb.right t6.sorted Ou Ur js G s6),(by rw[ah,hnM];rfl),(Zc),(h6)⟩,G,SA,λ_ h=>h.selR (F:=[_,_,_,_,_,_,_]) (F':=[_,_,_,_,_,_]) [1,2,3,4,5,6] cC Z⟩
   ·refine aR<|wq<|wm Z<|wm Z<|wa (aQ 0 Z aa zb3 Z Z Z (λ_ h=>h5 _ _ _ (h.right (R':=[_,_,_,_,_,_]))) (by have:=hnO;rw[az] at this;omega)) ?_;rintro _ _⟨jx,jz,rfl,rfl⟩;refine bC (v:=sl jx (nL+nO) jz) Z<|wn Z<|bU (R1:=[(ri 3 jx (nL+nO) jz (acc++(o1.drop x.toNat)))]) (λ_ h=>(h.selR (F:=[_,_,_,_,_,_]) (F':=[_]) [0] cC Z).left (X:=[_])) ?_;refine⟨_,Z,?_⟩;have hd:=hM.done t6.sorted G t6.perm Vg;have e:nL+nO=s.length:=by have:=hd.1.length_eq;rw[bD,ah] at this;omega
    rw[e];exact⟨_,_,_,Z,hd.1,hd.2,Z⟩
theorem YD (m:Nat): ∀ {w:World} {dg:AF} {iz dd:Nat} {s:AH} {k:Int},Rd w dg iz dd 1 (ints .i64 s)->s.length<m->((0<=k/\k<=1000000)/\ ∀x∈s,0<=x/\x<k)->s.length<=100000->
  CF 266 #[sl dg iz dd,I k] w (λv R'=> ∃(b:AH) (A:AF) (c:Nat),v=sl A s.length c/\b.Perm (iota s.length)/\b.Pairwise (bY s)/\R'=[(ri 3 A s.length c b)]):=by
 induction m with
 |zero=>intro w A n c s k _ h;omega
 |succ m ih=>
  intro w A n c s k co hm dr hN;exact IX co (λh1 h2 h3 h4=>ih h1 G h3 h4) dr hN
theorem PP {s:AH} (co:Rd w dg iz dd 1 (ints .i64 s)) (dr:(0<=k/\k<=1000000)/\ ∀x∈s,0<=x/\x<k) (hN:s.length<=100000):
  CF 266 #[sl dg iz dd,I k] w (λv R'=> ∃(b:AH) (A:AF) (c:Nat),v=sl A s.length c/\b.Perm (iota s.length)/\b.Pairwise (bY s)/\R'=[(ri 3 A s.length c b)]):=YD (s.length+1) co G dr hN
theorem PM {s:AH} (co:Rd w dg iz dd 1 (ints .i64 s)) (hs: ∀x∈s,0<=x/\x<1048576) (hN:s.length<=100000):
  CF 267 #[sl dg iz dd] w (λv R'=> ∃(m:Int) (A:AF) (c:Nat),v=sl A s.length c/\(∀x∈s,0<=x/\x<=m)/\R'=[(ri 3 A s.length c (sqz s m))]):=by
 obtain rfl:=co.lenI;refine fn1 Tryz.func267 Z Z Z ?_;have b6:=co.max;refine wq<|wn Z<|wq<|wn Z<|aD<|wq<|wm Z<|wy (aL aa Z)<|wm Z<|aA ?_;refine aH ?_;refine dI (λ(i:Int) (m:Int)=>[(0,sl dg s.length dd),(3,I m),(13,sl dg s.length dd),(14,I (s.length:Int)),(15,I i)]) (λi m=>[]) (λi m=>(0<=i)/\(i<=s.length)/\(0<=m)/\(m<=1048575)/\(∀x∈s.take i.toNat,x<=m)) (λi m=>(s.length-i).toNat) ?_ ?_
 ·exact⟨0,0,⟨G,G,G,G,(λx hx=>by cases hx)⟩,KP⟩
 intro i m ⟨bb,gd,rv,hmk,Mn⟩;refine wq<|wL Z Z<|aA<|aD<|bA Z (λba=> ?_) (λba=> ?_)
 ·have hsi:=hs _ (bI (L:=s) bb G);refine aI<|aD<|aH<|wq<|wy (aF aa sz3 Z Z (co.c _))<|wy (aU au Z Z (co.c _))<|wn Z<|aK<|wm Z<|wm Z<|wy (aPr Z Z)<|wn Z ?_;refine aK<|wA Z Z<|wm Z<|aA ?_
  exact⟨i+1,max m (rd s i),⟨G,G,G,G,(λx hx=>by
    rw[dJ bb G] at hx;rcases dz.1 hx with hx|hx
    ·have:=Mn x hx;omega
    ·rw[ic.1 hx];omega)⟩,G,KP⟩
 ·rw [bi G] at Mn;refine aR<|wq<|wm Z<|wA Z Z<|wa (dM aa zb3 Z Z) ?_;rintro _ _⟨aq,rfl,rfl⟩;refine bC (v:=sl (GG aq) ((m+1).toNat) ((m+1).toNat)) Z<|wn Z<|aD<|wq<|wm Z<|wy (aL aa Z)<|wm Z<|aA<|aH ?_;refine dI (λ(j:Int) (V:AH)=>[(0,sl dg s.length dd),(6,sl (GG aq) ((m+1).toNat) ((m+1).toNat)),(26,sl dg s.length dd),(27,I (s.length:Int)),(28,I j)]) (λj V=>[(ri 3 (GG aq) ((m+1).toNat) ((m+1).toNat) V)]) (λj V=>(0<=j)/\(j<=s.length)/\(V=thr (s.take j.toNat) m)) (λj V=>(s.length-j).toNat) ?_ ?_
  ·exact⟨0,List.replicate ((m+1).toNat) (0:Int),⟨G,G,((aYo m).symm)⟩,KP⟩
  intro j V ⟨sf,l6,hV⟩;refine wq<|wL Z Z<|aA<|aD<|bA Z (λcj=> ?_) (λcj=> ?_)
  ·have hsj:0<=rd s j/\rd s j<=m:=⟨(hs _ (bI (L:=s) sf G)).1,Mn _ (bI (L:=s) sf G)⟩;have ld:V.length=(m+1).toNat:=by rw[hV,kP]
   refine aI<|aD<|aH<|wq<|wy (aF aa sz3 Z Z (co.c _))<|wy (aU au Z Z (co.c _))<|wn Z<|aK<|wm Z<|wm Z<|wy (aF aa sz3 Z Z (rdr 0 Z))<|dC (bG 0 Z sz3 Z Z) ?_;rintro _ _ rfl;refine aA<|aK<|wA Z Z<|wm Z<|aA ?_;exact⟨j+1,upd V (rd s j) 1,⟨G,G,(by rw[dJ sf G,<-aQj hsj.1 hsj.2,<-hV])⟩,G,KP⟩
  ·have Se:V=thr s m:=by rw[hV,bi G]
   have Kq:(dD V).length=(m+1).toNat:=by rw[fH,Se,kP]
   refine aR<|wq<|wm Z<|wa (aC aJg Z (Ct.fresh (λw hw=>xZ ((rdr 0 Z) w hw) (by rw[Se];exact aQk s m) (by rw[Se];have:=aYn s m;omega) (by rw[Se,kP];omega)))) ?_;rintro _ _⟨_,rfl,lz,mc,rfl,rfl⟩;refine wn Z<|wq<|wm Z<|wy (aL aa Z)<|wa (dM aa zb3 Z Z) ?_;rintro _ _⟨jt,rfl,rfl⟩;refine bC (v:=sl (GG jt) s.length s.length) Z<|wn Z<|aD<|wq<|wm Z<|wy (aL aa Z)<|wm Z<|aA<|aH ?_;refine dI (λ(z:Int) (U:AH)=>[(9,sl lz ((dD V).length) mc),(10,sl (GG jt) s.length s.length),(41,sl dg s.length dd),(42,I (s.length:Int)),(43,I z)]) (λz U=>[(ri 3 (GG jt) s.length s.length U),(ri 3 lz ((dD V).length) mc (dD V)),(ri 3 (GG aq) ((m+1).toNat) ((m+1).toNat) V)]) (λz U=>(0<=z)/\(z<=s.length)/\(U.length=s.length)/\(∀j:Int,0<=j->j<z->rd U j=rd (dD (thr s m)) (rd s j))) (λz U=>(s.length-z).toNat) ?_ ?_
   ·exact⟨0,List.replicate s.length (0:Int),⟨G,G,(by rw[dh]),(λj h1 h2=>G)⟩,KP⟩
   intro z U ⟨vt,xb,Ax,hU⟩;refine wq<|wL Z Z<|aA<|aD<|bA Z (λfh=> ?_) (λfh=> ?_)
   ·have hsz:0<=rd s z/\rd s z<=m:=⟨(hs _ (bI (L:=s) vt G)).1,Mn _ (bI (L:=s) vt G)⟩;refine aI<|aD<|aH<|wq<|wm Z<|wy (aF aa sz3 Z Z (co.c _))<|wy (aU au Z Z (co.c _))<|wg Z<|wn Z<|aK<|wm Z<|wm Z<|wm Z ?_;refine wm Z<|wy (aF aa sz3 Z Z (rdr 1 Z))<|wy (aU au Z Z (rdr 1 Z))<|wy (aF aa sz3 Z Z (rdr 0 Z))<|dC (bG 0 Z sz3 Z Z) ?_;rintro _ _ rfl;refine aA<|aK<|wA Z Z<|wm Z<|aA ?_;exact⟨z+1,upd U z (rd (dD V) (rd s z)),⟨G,G,(by rw[aX];exact Ax),(fA (f:=λj=>rd (dD (thr s m)) (rd s j)) vt G hU (by rw[Se]))⟩,G,KP⟩
   ·refine aR<|wq<|wm Z<|wn Z<|aT [0] 99 cC Z ?_;refine⟨_,Z,?_⟩;have ka: ∀x∈s,0<=x/\x<=m:=λx hx=>⟨(hs x hx).1,Mn x hx⟩;obtain rfl:U=sqz s m:=bFn ka Ax (λj h1 h2=>hU j h1 G);exact⟨m,_,_,Z,ka,Z⟩
theorem aUk {s:AH} (co:Rd w dg iz dd 1 (ints .i64 s)) (dr:(0<=k/\k<=1048576)/\ ∀x∈s,0<=x/\x<k) (hN:s.length<=100000):
  CF 220 #[sl dg iz dd,I k] w (λv R'=> ∃(b:AH) (A:AF) (c:Nat),v= .tuple #[sl A s.length c,I 0]/\b.Perm (iota s.length)/\b.Pairwise (bY s)/\R'=[(ri 3 A s.length c b)]):=by
 obtain rfl:=co.lenI;refine fn2 Tryz.func220 Z Z Z ?_;have b6:=co.max;refine wq<|wg Z<|wn Z<|aD<|wq<|wm Z<|wy (aL aa Z)<|wy (Yl.f (dA Z Z))<|aA<|aP Z<|aI<|aD ?_;refine wq<|wm Z<|wm Z<|wa (aC aAz Z (Ct.fresh (λw hw=>pU ((co.c _) w hw) cE))) ?_;rintro _ _⟨_,rfl,cg,ce,rfl,rfl⟩;refine wm Z<|wX Z Z<|wX Z Z<|wg Z<|wn Z<|wq<|wm Z<|wy (dW Z)<|aA<|aP Z<|aI<|wq ?_;refine wm Z<|wa (aC bKk Z (Ct.fresh (λw hw=>PM ((co.c _) w hw) (λx hx=>by have:=dr.2 x hx;omega) hN))) ?_;rintro _ _⟨_,rfl,mq,ns,pi,rfl,Zb,rfl⟩;refine wm Z<|wy (aL aa Z)<|wA Z Z<|wa (aC bEj Z (Ct.fresh (λw hw=>PP ((rdr 0 Z) w hw) ⟨G,λx hx=>by have:=bFo Zb x hx;omega⟩ (by rw[JN];exact hN)))) ?_;rintro _ _⟨_,rfl,b1,gg,ef,rfl,dq,fg,rfl⟩;refine wg Z<|wn Z<|aT [0] 99 cC Z ?_;refine⟨_,_,Z,Z,?_⟩;have ho:=aKx Zb dq fg;rw[JN];exact⟨b1,_,_,Z,ho.1,ho.2,Z⟩
theorem aMy {ap:AF} {bl an:Nat} {u:AH} (ac:Rd w ap bl an 1 (ints .u8 u)) (am:aN u) (hN:u.length<=100000):
  CF 147 #[sl ap bl an] w (λv R'=> ∃(b:AH) (A:AF) (c:Nat),v= .tuple #[sl A u.length c,I 0]/\b.Perm (iota u.length)/\b.Pairwise (bY u)/\R'=[(ri 3 A u.length c b)]):=by
 obtain rfl:=ac.lenI;refine fn2 Tryz.func147 Z Z Z ?_;have kc:=ac.max;refine wq<|wg Z<|wn Z<|aD<|wq<|wm Z<|wy (aL af Z)<|wy (Yl.f (dA Z Z))<|aA<|aP Z<|aI<|aD ?_;refine aK<|wm Z<|wy (aL af Z)<|wa (dM aa zb3 Z Z) ?_;rintro _ _⟨aq,rfl,rfl⟩;refine bC (v:=sl (GG aq) u.length u.length) Z<|wn Z<|aD<|wq<|wm Z<|wy (aL af Z)<|wm Z<|aA<|aH ?_;refine dI (λ(i:Int) (V:AH)=>[(4,sl (GG aq) u.length u.length),(13,sl ap u.length an),(14,I (u.length:Int)),(15,I i)]) (λi V=>[(ri 3 (GG aq) u.length u.length V)]) (λi V=>(0<=i)/\(i<=u.length)/\(V.length=u.length)/\(∀j:Int,0<=j->j<i->rd V j=rd u j)) (λi V=>(u.length-i).toNat) ?_ ?_
 ·exact⟨0,List.replicate u.length (0:Int),⟨G,G,(by rw[dh]),(λj h1 h2=>G)⟩,KP⟩
 intro i V ⟨bb,gd,ld,hV⟩;refine wq<|wL Z Z<|aA<|aD<|bA Z (λba=> ?_) (λba=> ?_)
 ·have sv:=am.rd i;refine aI<|aD<|aH<|wq<|wm Z<|wy (aF af sz5 Z Z (ac.c _))<|wy (aU bn Z Z (ac.c _))<|wg Z<|wn Z<|aK<|wm Z<|wm Z<|wm Z ?_;refine wy (iR bn au Z)<|wy (aF aa sz3 Z Z (rdr 0 Z))<|dC (bG 0 Z sz3 Z Z) ?_;rintro _ _ rfl;refine aA<|aK<|wA Z Z<|wm Z<|aA ?_;exact⟨i+1,upd V i (rd u i),⟨G,G,(by rw[aX];exact ld),(fA (f:=λj=>rd u j) bb G hV Z)⟩,G,KP⟩
 ·have Sf:V=u:=bL ld (λj h1 h2=>hV j h1 G);refine aR<|wq<|wm Z<|wa (aC bKz Z (Ct.fresh (λw hw=>aUk ((rdr 0 Z) w hw) ⟨G,λx hx=>by rw[Sf] at hx;have:=am x hx;omega⟩ G))) ?_;rintro _ _⟨_,rfl,b1,lz,mc,rfl,dq,fg,rfl⟩;refine wX Z Z<|wX Z Z<|wg Z<|wn Z<|aT [0] 99 cC Z ?_;refine⟨_,_,Z,Z,?_⟩;subst Sf;exact⟨b1,_,_,Z,dq,fg,Z⟩
end Go.Proofs.YtdbebmmhdefgdaaGreat
namespace Go.Proofs.YtdbebmmhdefgdaaGreat
open Go Go.Eng Go.RowKit Go.Shelf Go.Proofs
variable {c j g:Nat} {xs:AG} {zs:AH} {A:AF}
attribute [local go_sem] Oper.semAt_some
theorem jB {W:World} {a:Addr} {n:Nat} (h:Rd W (some a) n c 1 xs) (hj:j<xs.length):W.cell? (a.add j)=some (xs[j]'hj):=by
 obtain⟨b,h1,h2⟩:=h.at_ j _ (av hj);obtain rfl:=je h1;exact h2
theorem _root_.Go.Eng.Iter.congr {P:Program} {gf:Nat} {lb:Array Value} {rg:World->Prop} {N:Nat} {f f':Nat->AG} (it:Iter P gf lb rg N f) (h: ∀k,k<N->f k=f' k):Iter P gf lb rg N f':=
 λl J W hR hD hY h0=>it l J W hR hD (λk W hk hJ=>by rw[h k hk];exact hY k W hk hJ) h0
theorem SS {k:IntKind} (h:j<zs.length):(ints k zs)[j]?.getD undef= .int k (rd zs (j:Int)):=by
 have:=Go.Eng.ints_at (k:=k) (l:=zs) (i:=(j:Int)) G G;rw[cz] at this;rw[this,oz]
set_option maxRecDepth 100000 in
theorem aXt (ua:xs.length<=1000000):Iter Tryz.prog 240 #[.pointer (some ⟨g,0,none⟩)] (λw=>Rd w (some ⟨g,0,none⟩) 1 1 1 [.slice A xs.length c]/\Rd w A xs.length c 1 xs) xs.length
  (λk=>[.int .i64 (((xs.length-1-k:Nat):Int)),xs[xs.length-1-k]?.getD undef]):=by
 intro l J W hR _ hY h0;rcases ek xs.length with hz|ff
 ·have hc:W.cell? ⟨g,0,none⟩=some (.slice A xs.length c):=jB (hR _ _ h0).1 (j:=0) cD;rw[hz] at hc;refine Ba Tryz.func240 rfl trivial ?_ rfl;simp only[Tryz.ntmps240,ql,dn,jb,Nat.reduceAdd,Nat.reduceSub,ww,wz,yt,ui,jd,jf]
  gi_wp2
  gi_loopw [3] (λi wr=>i= .int .i64 (-1)/\J 0 wr) (λ_ _=>0)
  case atStart=>exact⟨rfl,h0⟩
  case round=>
   obtain⟨rfl,sq⟩:=hrel
   gi_wp2
   go_end0
   exact⟨⟨_,rfl⟩,by rw[hz];exact sq⟩
 ·obtain ⟨a,rfl⟩: ∃a,A=some a:=by
   obtain⟨a,h1,_⟩:=(hR _ _ h0).2.at_ 0 _ (av ff);exact⟨a,h1⟩
  have hc:W.cell? ⟨g,0,none⟩=some (.slice (some a) xs.length c):=jB (hR _ _ h0).1 (j:=0) cD;refine Ba Tryz.func240 rfl trivial ?_ rfl;simp only[Tryz.ntmps240,ql,dn,jb,Nat.reduceAdd,Nat.reduceSub,ww,wz,yt,ui,jd,jf]
  gi_wp2
  gi_loopw [3] (λi wr=>(∃k j:Nat,k+j+1=xs.length/\i= .int .i64 (j:Int)/\J k wr)\/(i= .int .i64 (-1)/\J xs.length wr)) (λi _=>(intOf i+1).toNat)
  case atStart=>exact .inl ⟨0,xs.length-1,G,by rw[show((xs.length:Int)-1)=((xs.length-1:Nat):Int) by omega],h0⟩
  case round=>
   rcases hrel with⟨k,j,Py,rfl,sq⟩|⟨rfl,sq⟩
   ·obtain ⟨fn,tmps,assign,body,hy,Np⟩:=hY k wr G sq;rw[show xs.length-1-k=j by omega] at hy;have s5:j<xs.length:=G
    rw[av s5] at hy;simp only[oz] at hy;have ba:wr.cell? ⟨g,0,none⟩=some (.slice (some a) xs.length c):=jB (hR _ _ sq).1 (j:=0) cD;have cj:=jB (hR _ _ sq).2 s5
    gi_wp2
    refine⟨rfl,Np.mono ?_⟩;rintro e W3 ⟨rfl,In⟩
    gi_wp2
    go_roundw
    case rel=>
     rcases ek j with rfl|hj
     ·exact .inr ⟨cD,by rw[<-Py];exact In⟩
     ·exact .inl ⟨k+1,j-1,G,by rw[show((j:Int)-1)=((j-1:Nat):Int) by omega],In⟩
    case measure=>simp[intOf]
   ·gi_wp2
    go_end0
    exact⟨⟨_,rfl⟩,sq⟩
set_option maxRecDepth 100000 in
theorem aXu (ua:xs.length<=1000000):Iter Tryz.prog 241 #[.pointer (some ⟨g,0,none⟩)] (λw=>Rd w (some ⟨g,0,none⟩) 1 1 1 [.slice A xs.length c]/\Rd w A xs.length c 1 xs) xs.length
  (λk=>[.int .i64 (((xs.length-1-k:Nat):Int)),xs[xs.length-1-k]?.getD undef]):=by
 intro l J W hR _ hY h0;rcases ek xs.length with hz|ff
 ·have hc:W.cell? ⟨g,0,none⟩=some (.slice A xs.length c):=jB (hR _ _ h0).1 (j:=0) cD;rw[hz] at hc;refine Ba Tryz.func241 rfl trivial ?_ rfl;simp only[Tryz.ntmps241,ql,dn,jb,Nat.reduceAdd,Nat.reduceSub,ww,wz,yt,ui,jd,jf]
  gi_wp2
  gi_loopw [3] (λi wr=>i= .int .i64 (-1)/\J 0 wr) (λ_ _=>0)
  case atStart=>exact⟨rfl,h0⟩
  case round=>
   obtain⟨rfl,sq⟩:=hrel
   gi_wp2
   go_end0
   exact⟨⟨_,rfl⟩,by rw[hz];exact sq⟩
 ·obtain ⟨a,rfl⟩: ∃a,A=some a:=by
   obtain⟨a,h1,_⟩:=(hR _ _ h0).2.at_ 0 _ (av ff);exact⟨a,h1⟩
  have hc:W.cell? ⟨g,0,none⟩=some (.slice (some a) xs.length c):=jB (hR _ _ h0).1 (j:=0) cD;refine Ba Tryz.func241 rfl trivial ?_ rfl;simp only[Tryz.ntmps241,ql,dn,jb,Nat.reduceAdd,Nat.reduceSub,ww,wz,yt,ui,jd,jf]
  gi_wp2
  gi_loopw [3] (λi wr=>(∃k j:Nat,k+j+1=xs.length/\i= .int .i64 (j:Int)/\J k wr)\/(i= .int .i64 (-1)/\J xs.length wr)) (λi _=>(intOf i+1).toNat)
  case atStart=>exact .inl ⟨0,xs.length-1,G,by rw[show((xs.length:Int)-1)=((xs.length-1:Nat):Int) by omega],h0⟩
  case round=>
   rcases hrel with⟨k,j,Py,rfl,sq⟩|⟨rfl,sq⟩
   ·obtain ⟨fn,tmps,assign,body,hy,Np⟩:=hY k wr G sq;rw[show xs.length-1-k=j by omega] at hy;have s5:j<xs.length:=G
    rw[av s5] at hy;simp only[oz] at hy;have ba:wr.cell? ⟨g,0,none⟩=some (.slice (some a) xs.length c):=jB (hR _ _ sq).1 (j:=0) cD;have cj:=jB (hR _ _ sq).2 s5
    gi_wp2
    refine⟨rfl,Np.mono ?_⟩;rintro e W3 ⟨rfl,In⟩
    gi_wp2
    go_roundw
    case rel=>
     rcases ek j with rfl|hj
     ·exact .inr ⟨cD,by rw[<-Py];exact In⟩
     ·exact .inl ⟨k+1,j-1,G,by rw[show((j:Int)-1)=((j-1:Nat):Int) by omega],In⟩
    case measure=>simp[intOf]
   ·gi_wp2
    go_end0
    exact⟨⟨_,rfl⟩,sq⟩
theorem OX (ua:zs.length<=1000000):Iter Tryz.prog 241 #[.pointer (some ⟨g,0,none⟩)] (λw=>Rd w (some ⟨g,0,none⟩) 1 1 1 [.slice A zs.length c]/\Rd w A zs.length c 1 (ints .i64 zs)) zs.length
  (λk=>[.int .i64 (((zs.length-1-k:Nat):Int)), .int .i64 (rd zs ((zs.length-1-k:Nat):Int))]):=by
 have h:=aXu (g:=g) (A:=A) (c:=c) (xs:=ints .i64 zs) (by rw[bX];exact ua);rw[bX] at h;exact h.congr λk hk=>by rw[SS G]
set_option maxRecDepth 100000 in
theorem aQc:Iter Tryz.prog 346 #[.pointer (some ⟨g,0,none⟩)] (λw=>Rd w (some ⟨g,0,none⟩) 1 1 1 [.slice A xs.length c]/\Rd w A xs.length c 1 xs) xs.length
  (λk=>[xs[k]?.getD undef]):=by
 intro l J W hR _ hY h0;have ua:=(hR _ _ h0).2.max;rcases ek xs.length with hz|ff
 ·have hc:W.cell? ⟨g,0,none⟩=some (.slice A xs.length c):=jB (hR _ _ h0).1 (j:=0) cD;rw[hz] at hc;refine Ba Tryz.func346 rfl trivial ?_ rfl;simp only[Tryz.ntmps346,ql,dn,jb,Nat.reduceAdd,Nat.reduceSub,ww,wz,yt,ui,jd,jf]
  gi_wp2
  gi_loopw [7] (λi wr=>i= .int .i64 0/\J 0 wr) (λ_ _=>0)
  case atStart=>exact⟨rfl,h0⟩
  case round=>
   obtain⟨rfl,sq⟩:=hrel
   gi_wp2
   go_end0
   exact⟨⟨_,rfl⟩,by rw[hz];exact sq⟩
 ·obtain ⟨a,rfl⟩: ∃a,A=some a:=by
   obtain⟨a,h1,_⟩:=(hR _ _ h0).2.at_ 0 _ (av ff);exact⟨a,h1⟩
  have hc:W.cell? ⟨g,0,none⟩=some (.slice (some a) xs.length c):=jB (hR _ _ h0).1 (j:=0) cD;refine Ba Tryz.func346 rfl trivial ?_ rfl;simp only[Tryz.ntmps346,ql,dn,jb,Nat.reduceAdd,Nat.reduceSub,ww,wz,yt,ui,jd,jf]
  gi_wp2
  gi_loopw [7] (λi wr=> ∃k:Nat,k<=xs.length/\i= .int .i64 k/\J k wr) (λi _=>xs.length-(intOf i).toNat)
  case atStart=>exact⟨0,qg _,rfl,h0⟩
  case round=>
   obtain⟨k,hk,rfl,sq⟩:=hrel;by_cases bp:k<xs.length
   ·obtain ⟨fn,tmps,assign,body,hy,Np⟩:=hY k wr bp sq;rw[av bp] at hy;simp only[oz] at hy;have ba:wr.cell? ⟨g,0,none⟩=some (.slice (some a) xs.length c):=jB (hR _ _ sq).1 (j:=0) cD;have cj:=jB (hR _ _ sq).2 bp
    gi_wp2
    refine⟨rfl,Np.mono ?_⟩;rintro e W3 ⟨rfl,In⟩
    gi_wp2
    go_roundw
    case rel=>exact⟨k+1,G,cD,In⟩
    case measure=>simp[intOf];omega
   ·obtain rfl:k=xs.length:=G
    gi_wp2
    go_end0
    exact⟨⟨_,rfl⟩,sq⟩
theorem aCw:Iter Tryz.prog 346 #[.pointer (some ⟨g,0,none⟩)] (λw=>Rd w (some ⟨g,0,none⟩) 1 1 1 [.slice A zs.length c]/\Rd w A zs.length c 1 (ints .i64 zs)) zs.length
  (λk=>[.int .i64 (rd zs (k:Int))]):=by
 have h:=aQc (g:=g) (A:=A) (c:=c) (xs:=ints .i64 zs);rw[bX] at h;exact h.congr λk hk=>by rw[SS hk]
end Go.Proofs.YtdbebmmhdefgdaaGreat
namespace Go.Proofs
open Go.Shelf
def Tryz.lays189_ren:Go.Shelf.Ren:=⟨λ|189=>345|125=>192|257=>362|128=>251|129=>252|294=>367|295=>368|296=>369|297=>370|298=>371|299=>372|216=>348|300=>373|301=>374|328=>376|329=>282|330=>283|331=>377|332=>378|215=>194|343=>379|n=>n,λ|28=>52|3=>3|46=>167|0=>0|51=>123|53=>112|4=>4|183=>289|182=>288|131=>97|5=>5|9=>9|218=>316|222=>320|228=>337|229=>338|n=>n,λ|n=>n⟩
theorem Tryz.lays189:Go.Proofs.Lays.n189 Tryz.prog Tryz.lays189_ren:= {
 mixed:=cA
 f125:=Tryz.func192.trans (bu some cA)
 f128:=Tryz.func251.trans (bu some cA)
 f129:=Tryz.func252.trans (bu some cA)
 f189:=Tryz.func345.trans (bu some cA)
 f215:=Iy.trans (bu some cA)
 f216:=Tryz.func348.trans (bu some cA)
 f257:=Tryz.func362.trans (bu some cA)
 f294:=Tryz.func367.trans (bu some cA)
 f295:=Tryz.func368.trans (bu some cA)
 f296:=Tryz.func369.trans (bu some cA)
 f297:=Tryz.func370.trans (bu some cA)
 f298:=Tryz.func371.trans (bu some cA)
 f299:=Tryz.func372.trans (bu some cA)
 f300:=Tryz.func373.trans (bu some cA)
 f301:=Tryz.func374.trans (bu some cA)
 f328:=Tryz.func376.trans (bu some cA)
 f329:=Tryz.func282.trans (bu some cA)
 f330:=Tryz.func283.trans (bu some cA)
 f331:=Tryz.func377.trans (bu some cA)
 f332:=Tryz.func378.trans (bu some cA)
 f343:=Tryz.func379.trans (bu some cA)
 t0:=Dx
 a0:=Jt
 z0:=Iz
 v0:=Ez
 t3:=Br
 a3:=Ha
 z3:=Fq
 v3:=Ck
 t4:=Dy
 a4:=Ju
 z4:=Ja
 v4:=Fa
 t5:=Dz
 a5:=Jv
 z5:=Jb
 v5:=Fb
 t9:=Ea
 a9:=Jw
 z9:=Jc
 v9:=Fe
 t28:=Tryz.underlying52
 a28:=Tryz.isAgg52
 z28:=Tryz.sizeOf52
 v28:=Tryz.zeroValue52
 t46:=Ao
 a46:=Ed
 z46:=Dk
 v46:=Be
 t51:=Cu
 a51:=Hw
 z51:=Gb
 v51:=Dm
 t53:=Cs
 a53:=Hu
 z53:=Ga
 v53:=Dl
 t131:=Hd
 a131:=Tryz.isAgg97
 z131:=Tryz.sizeOf97
 v131:=Ie
 t182:=Gc
 a182:=Tryz.isAgg288
 z182:=Tryz.sizeOf288
 v182:=He
 t183:=Gf
 a183:=Tryz.isAgg289
 z183:=Tryz.sizeOf289
 v183:=Hf
 t218:=Gg
 a218:=Tryz.isAgg316
 z218:=Tryz.sizeOf316
 v218:=Hg
 t222:=Gh
 a222:=Tryz.isAgg320
 z222:=Tryz.sizeOf320
 v222:=Hl
 t228:=Gi
 a228:=Tryz.isAgg337
 z228:=Tryz.sizeOf337
 v228:=Hm
 t229:=Gj
 a229:=Tryz.isAgg338
 z229:=Tryz.sizeOf338
 v229:=Ho}
open Go.Sort Go.RowKit in
theorem Tryz.slices_Sort_int (go off cap:Nat) (zs:AH) (w:World) (hH:Holds (Value.int .i64) w go off zs.toArray) (hblk:go<w.heap.size) (hsz:zs.length<4611686018427387904):
  Calls Tryz.prog 345 #[.slice (some ⟨go,off,none⟩) zs.length cap] w λe w'=>
   e= .returned (.tuple #[])/\ ∃n os,w'=grow (putRow (Value.int .i64) (Sort.ahead w n) go off (zs.mergeSort λx y=>decide (x<=y)).toArray) os:=Any.slices_Sort_int Tryz.lays189 go off cap zs w hH hblk hsz
def Tryz.laysNm225_ren:Go.Shelf.Ren:=⟨λ|25=>325|31=>348|32=>349|37=>194|n=>n,λ|22=>52|3=>3|4=>4|40=>167|0=>0|n=>n,λ|n=>n⟩
theorem Tryz.laysNm225:Go.Proofs.Lays2.n25 Tryz.prog Tryz.laysNm225_ren:= {
 mixed:=cA
 f25:=Tryz.func325.trans (bu some cA)
 f31:=Tryz.func348.trans (bu some cA)
 f32:=Tryz.func349.trans (bu some cA)
 f37:=Iy.trans (bu some cA)
 t0:=Dx
 a0:=Jt
 z0:=Iz
 v0:=Ez
 t3:=Br
 a3:=Ha
 z3:=Fq
 v3:=Ck
 t4:=Dy
 a4:=Ju
 z4:=Ja
 v4:=Fa
 t22:=Tryz.underlying52
 a22:=Tryz.isAgg52
 z22:=Tryz.sizeOf52
 v22:=Tryz.zeroValue52
 t40:=Ao
 a40:=Ed
 z40:=Dk
 v40:=Be}
open Go.RowKit Go.Lib in
theorem Tryz.slices_BinarySearch_int (b off n c:Nat) (zs:AH) (x:Int) (w:World) (hz:n<=zs.length) (Kw:n<4611686018427387904) (hc: ∀j,j<zs.length->w.cell? ⟨b,off+j,none⟩=some (.int .i64 (zs.getD j 0))) (hs:(zs.take n).Pairwise (· <= ·)):
  Calls Tryz.prog 325 #[.slice (some ⟨b,off,none⟩) n c, .int .i64 x] w λe w'=>e= .returned (.tuple #[.int .i64 ((zs.take n).countP (· <x):Nat), .bool ((zs.take n).contains x)])/\ ∃q,w'=w.drewN q:=Any.slices_BinarySearch_int Tryz.laysNm225 b off n c zs x w hz Kw hc hs
open Go.RowKit Go.Sort in
theorem Tryz.slices_Sort_int_none (p:AF) (cap:Nat) (w:World):
  Calls Tryz.prog 345 #[.slice p 0 cap] w λe w'=>e= .returned (.tuple #[])/\w'=w:=Any.slices_Sort_int_none Tryz.lays189 p cap w
open Go.RowKit Go.Lib in
theorem Tryz.slices_BinarySearch_int_empty (a:AF) (c:Nat) (x:Int) (w:World):
  Calls Tryz.prog 325 #[.slice a 0 c, .int .i64 x] w λe w'=>e= .returned (.tuple #[.int .i64 0, .bool false])/\w'=w:=Any.slices_BinarySearch_int_empty Tryz.laysNm225 a c x w
end Go.Proofs
namespace Go.Eng
open Go Go.RowKit Go.Proofs Go.Sort
section
variable {P:Program} {B:Nat} {w0:World} {R:List Row}
def bIb (P:Program) (f:Nat):Prop:= ∀(go off cap:Nat) (zs:AH) (w:World) (_:Holds (Value.int .i64) w go off zs.toArray) (_:go<w.heap.size) (_:zs.length<4611686018427387904),
 Calls P f #[.slice (some ⟨go,off,none⟩) zs.length cap] w λe w'=>e= .returned (.tuple #[])/\ ∃n os,w'=grow (putRow (Value.int .i64) (Sort.ahead w n) go off (zs.mergeSort λx y=>decide (x<=y)).toArray) os
def bDb (P:Program) (f:Nat):Prop:= ∀(p:AF) (cap:Nat) (w:World),Calls P f #[.slice p 0 cap] w λe w'=>e= .returned (.tuple #[])/\w'=w
def bId (P:Program) (f:Nat):Prop:= ∀(b off n c:Nat) (zs:AH) (x:Int) (w:World) (_:n<=zs.length) (_:n<4611686018427387904) (_: ∀j,j<zs.length->w.cell? ⟨b,off+j,none⟩=some (.int .i64 (zs.getD j 0))) (_:(zs.take n).Pairwise (· <= ·)),
 Calls P f #[.slice (some ⟨b,off,none⟩) n c, .int .i64 x] w λe w'=>e= .returned (.tuple #[.int .i64 ((zs.take n).countP (· <x):Nat), .bool ((zs.take n).contains x)])/\ ∃q,w'=w.drewN q
def bDd (P:Program) (f:Nat):Prop:= ∀(a:AF) (c:Nat) (x:Int) (w:World),Calls P f #[.slice a 0 c, .int .i64 x] w λe w'=>e= .returned (.tuple #[.int .i64 0, .bool false])/\w'=w
def lK (l:AH):AH:=l.mergeSort λx y=>decide (x<=y)
theorem mH (l:AH):(lK l).Perm l:=List.mergeSort_perm _ _
theorem BO (l:AH):(lK l).Pairwise (· <= ·):=by
 have:=List.pairwise_mergeSort (le:=λx y:Int=>decide (x<=y)) (λa b c h1 h2=>by simp at*;omega) (λa b=>cH) l;exact this.imp λh=>by simpa using h
theorem aKz {f:Nat} (hS:bIb P f) (Xw:bDb P f) {T m c:Nat} {A:AF} {l:AH} (i:Nat) (hi:R[i]? =some ⟨T,1,A,m,c,ints .i64 l,false⟩) (hsz:l.length<4611686018427387904):
  Ct P f #[.slice A m c] B w0 R (λv R'=>v= .tuple #[]/\R'=R.set i ⟨T,1,A,m,c,ints .i64 (lK l),false⟩):=by
 intro w hw;have ij:=Row.lies_w (hw.own _ (gu hi)) rfl;have gr:=Row.rd (hw.own _ (gu hi));obtain rfl:m=l.length:=gr.lenI;rcases ij.2 with⟨hv,hn⟩|⟨go,cap,cur,hv,hb,hg,hnc,tc,ke,ht⟩
 ·simp only at hn;have hl:l=[]:=dw hn;subst hl;refine(Xw A c w).mono ?_;rintro e w' ⟨rfl,rfl⟩;refine⟨_,_,rfl,?_,rfl,rfl⟩;have e:lK []=[]:=by simp[lK]
  rw[e]
  have:R.set i ⟨T,1,A,([]:AH).length,c,ints .i64 [],false⟩=R:=by
   apply ul;intro k;rw[xm];split
   ·rename_i h;subst h;split
    ·exact hi.symm
    ·rename_i h2;rw[lu G]
   ·rfl
  rw[this];exact hw
 ·simp only[ku,Ak] at hv;obtain⟨rfl,rfl⟩:=hv;simp only at ht ke hg hnc;have bp:go<w.heap.size:=(gp.1 hg).1
  have hH:Holds (Value.int .i64) w go 0 l.toArray:=by
   intro j hj;have xi:j<l.length:=by simpa using hj
   have e:(ints .i64 l)[j]? =some (.int .i64 (l.toArray[j]!)):=by
    rw[uo l.toArray j hj];simp[ints,xi]
   refine⟨?_,?_⟩
   ·rw [og];exact hw.cellAt i hi rfl e
   ·exact hw.openAt i (0+j) hi rfl rfl
  refine(hS go 0 c l w hH bp hsz).mono ?_;rintro e w' ⟨rfl,n,os,rfl⟩;refine⟨_,_,rfl,?_,rfl,rfl⟩;have Tp:=ownsRow_sorted_i (w:=w) (base:=B) (g:=go) (cap:=c) (n:=n) (e:=T) (os:=os) (cur:=cur) (ss:=l) (ts:=lK l) (mH l).length_eq hb hg hnc tc ke;have hgb:=grownBy_sorted_i (w:=w) (g:=go) (n:=n) (os:=os) (lK l).toArray;refine hw.upd hi (row:=some go) hgb ?_ (λk hk=> ?_) ?_ (λa' np=> .inl ⟨a',np,rfl⟩)
  ·show w.drawn<=w.drawn+n;omega
  ·obtain rfl:=je hk;exact⟨_,rfl,rfl⟩
  ·exact Tp
theorem aNo {f:Nat} (hF:bId P f) (hF0:bDd P f) {T m c:Nat} {A:AF} {l:AH} {x:Int} (i:Nat) (hi:R[i]? =some ⟨T,1,A,m,c,ints .i64 l,false⟩) (hsz:l.length<4611686018427387904) (hs:l.Pairwise (· <= ·)):
  Ct P f #[.slice A m c, .int .i64 x] B w0 R (λv R'=>v= .tuple #[.int .i64 (l.countP (· <x):Nat), .bool (l.contains x)]/\R'=R):=by
 intro w hw;have ij:=Row.lies_w (hw.own _ (gu hi)) rfl;have gr:=Row.rd (hw.own _ (gu hi));obtain rfl:m=l.length:=gr.lenI;rcases ij.2 with⟨hv,hn⟩|⟨go,cap,cur,hv,hb,hg,hnc,tc,ke,ht⟩
 ·simp only at hn;have hl:l=[]:=dw hn;subst hl;refine(hF0 A c x w).mono ?_;rintro e w' ⟨rfl,rfl⟩;exact⟨_,_,rfl,hw,rfl,rfl⟩
 ·simp only[ku,Ak] at hv;obtain⟨rfl,rfl⟩:=hv;have rn:l.take l.length=l:=ow
  have:=hF go 0 l.length c l x w (dx _) hsz (λj hj=>by
   rw[og]
   exact hw.cellAt i hi rfl (by simp[ints,ai,hj])) (by rw[rn];exact hs)
  rw[rn] at this;refine this.mono ?_;rintro e w' ⟨rfl,q,rfl⟩;exact⟨_,_,rfl,hw.drawn _ (Bo _ _),rfl,rfl⟩
end
end Go.Eng
namespace Go.Proofs.YtdbebmmhdefgdaaGreat
open Go Go.Eng Go.Pure
open Tryz
set_option maxRecDepth 100000
variable {w:World} {me:AF} {pk mn:Nat} {l:AH} {h:Int}
theorem bAj {l:AH} {i:Int} (kp:Rd w me pk mn 1 (ints .i64 l)) (hb:(0<=i/\i<=1000000)/\(0<=h/\h<=1000000)) (hl: ∀x∈l,0<=x/\x<=1000000):
  CF 326 #[sl me pk mn,I i,I h] w (λv R'=>v=I (onF l i h)):=by
 obtain rfl:=kp.lenI;refine fn1 Tryz.func326 Z Z Z ?_;have Pk:=kp.max;refine wq<|wn Z<|aD<|wq<|wm Z<|wm Z<|wA Z Z<|wm Z<|wy (aL aa Z)<|wy (iD Z Z)<|aA<|bA Z (λba=> ?_) (λba=> ?_)
 ·refine wq<|wn Z<|bQ ?_;refine⟨_,Z,?_⟩;exact bu (Value.int .i64) (by unfold onF;rw[di G])
 ·have hm:=hl _ (bI (L:=l) (k:=i+h) G G);refine aI<|wq<|wm Z<|wm Z<|wm Z<|wA Z Z<|wy (aF aa sz3 Z Z (kp.c _))<|wy (aU au Z Z (kp.c _))<|wA Z Z<|wn Z<|bQ ?_;refine⟨_,Z,?_⟩;exact bu (Value.int .i64) (by unfold onF;rw[df G])
theorem aMz {s:AH} {n b:Nat} (kp:Rd w me pk mn 1 (ints .i64 l)) (hl:l=rkL s n) (hh:h=b) (hn:0<n) (hb:b<=n) (hN:s.length<=100000/\n<=100000):
  CF 298 #[sl me pk mn,I h] w (λv R'=> ∃A c A' c',v= .tuple #[sl A s.length c,sl A' s.length c']/\R'=[(ri 3 A s.length c (rkL s (n+b))),(ri 3 A' s.length c' (dG s n b))]):=by
 obtain rfl:=kp.lenI;refine fn2 Tryz.func298 Z Z Z ?_;have Pk:=kp.max;have ur:l.length=s.length:=by rw[hl,BX]
 refine wq<|wg Z<|wn Z<|wq<|wm Z<|wy (aL aa Z)<|wa (dM aa zb3 Z Z) ?_;rintro _ _⟨aq,rfl,rfl⟩;refine bC (v:=sl (GG aq) l.length l.length) Z<|wn Z<|wq<|wm Z<|wy (aL aa Z)<|wa (dM aa zb3 Z Z) ?_;rintro _ _⟨cy,rfl,rfl⟩;refine bC (v:=sl (GG cy) l.length l.length) Z<|wn Z<|aD<|wq<|wm Z<|wy (aL aa Z)<|wm Z<|aA<|aH ?_;refine gN (λ(i:Int) (O:AH) (K:AH)=>[(0,sl me l.length mn),(1,I h),(6,sl (GG aq) l.length l.length),(7,sl (GG cy) l.length l.length),(19,I (l.length:Int)),(20,I i)]) (λi O K=>[(ri 3 (GG cy) l.length l.length K),(ri 3 (GG aq) l.length l.length O)]) (λi O K=>(0<=i)/\(i<=s.length)/\(O.length=s.length)/\(∀j:Int,0<=j->j<i->rd O j=j)/\(K.length=s.length)/\(∀j:Int,0<=j->j<i->rd K j=tH s n (j.toNat+b))) (λi O K=>(s.length-i).toNat) ?_ ?_
 ·exact⟨0,List.replicate l.length (0:Int),List.replicate l.length (0:Int),⟨G,G,(by rw[dh,ur]),(λj h1 h2=>G),(by rw[dh,ur]),(λj h1 h2=>G)⟩,KP⟩
 intro i O K ⟨bb,gd,Vl,hO,Pq,hK⟩;refine wq<|wL Z Z<|aA<|aD<|bA Z (λba=> ?_) (λba=> ?_)
 ·refine aI<|aD<|aH<|wq<|wm Z<|wn Z<|aK<|wm Z<|wm Z<|wm Z<|wm Z<|wm Z<|wm Z ?_;refine wm Z<|wm Z<|wa (aC bJo Z (Ct.quiet (λw hw=>bAj ((kp.c _) w hw) ⟨G,G⟩ (λx hx=>by rw[hl] at hx;have:=aRr x hx;omega)))) ?_;rintro _ _⟨rfl,rfl⟩;refine wy (aF aa sz3 Z Z (rdr 1 Z))<|dC (bG 1 Z sz3 Z Z) ?_;rintro _ _ rfl;refine wy (aF aa sz3 Z Z (rdr 0 Z))<|dC (bG 0 Z sz3 Z Z) ?_;rintro _ _ rfl;refine aA<|aK<|wA Z Z<|wm Z<|aA ?_;exact⟨i+1,upd O i i,upd K i (onF l i h),⟨G,G,(by rw[aX];exact Vl),(fA (f:=λj=>j) bb G hO Z),(by rw[aX];exact Pq),(fA (f:=λj=>(tH s n (j.toNat+b):Int)) bb G hK (by rw[hh,hl];exact bGk bb G))⟩,G,KP⟩
 ·obtain rfl:O=iota s.length:=aIt Vl (λj h1 h2=>hO j h1 G);obtain rfl:K=onL s n b:=bGi Pq (λj h1 h2=>hK j h1 G);have Ml:(cZ (iota s.length) (onL s n b) ((l.length:Int)+1).toNat).length=s.length:=by rw[show((l.length:Int)+1).toNat=s.length+1 by omega,(uZ s n b).length_eq,bD]
  refine aR<|wq<|wm Z<|wm Z<|wm Z<|wy (aL aa Z)<|wA Z Z<|wa (aC NV Z (Ct.fresh (λw hw=>uW ((rdr 1 Z) w hw) ((rdr 0 Z) w hw) G (λx hx=>by have:=bGj x hx;omega) (λx hx=>by have:=aZ.1 hx;rw[aIk];omega) (by rw[bD];omega)))) ?_;rintro _ _⟨_,rfl,en,es,rfl,rfl⟩;refine wm Z<|wX Z Z<|wX Z Z<|wn Z<|wq<|wm Z<|wm Z<|wm Z<|wy (aL aa Z)<|wa (aC NV Z (Ct.fresh (λw hw=>uW ((rdr 0 Z) w hw) ((kp.c _) w hw) G (λx hx=>by rw[hl] at hx;have:=aRr x hx;omega) (λx hx=>by rw[show((l.length:Int)+1).toNat=s.length+1 by omega] at hx;have:=aZ.1 ((uZ s n b).subset hx);omega) (by rw[Ml];omega)))) ?_;rintro _ _⟨_,rfl,gg,ef,rfl,rfl⟩;refine wm Z<|wX Z Z<|wX Z Z<|wn Z<|wq<|wm Z<|wy (aL aa Z)<|wa (dM aa zb3 Z Z) ?_;rintro _ _⟨ia,rfl,rfl⟩;refine bC (v:=sl (GG ia) l.length l.length) Z<|wn Z<|aD<|wq<|wm Z<|wy (aL aa Z)<|wm Z<|aA<|aH ?_;refine gN (λ(p:Int) (D:AH) (V:AH)=>[(0,sl me l.length mn),(6,sl gg (((cZ (iota s.length) (onL s n b) (((l.length:Int)+1)).toNat)).length) ef),(7,sl (GG cy) l.length l.length),(9,sl (GG ia) l.length l.length),(55,sl gg (((cZ (iota s.length) (onL s n b) (((l.length:Int)+1)).toNat)).length) ef),(56,I ((((cZ (iota s.length) (onL s n b) (((l.length:Int)+1)).toNat)).length:Nat):Int)),(57,I p)]) (λp D V=>[(ri 3 (GG ia) l.length l.length V),(ri 3 gg (((cZ (iota s.length) (onL s n b) (((l.length:Int)+1)).toNat)).length) ef D),(ri 3 en (((iota s.length)).length) es (cZ (iota s.length) (onL s n b) (((l.length:Int)+1)).toNat)),(ri 3 (GG cy) l.length l.length (onL s n b)),(ri 3 (GG aq) l.length l.length (iota s.length))]) (λp D V=>(0<=p)/\(p<=s.length)/\(D=dG s n b)/\(V.length=s.length)/\(∀q:Int,0<=q->q<p->rd V (rd D q)=rkS s (n+b) (rd D q).toNat)) (λp D V=>(s.length-p).toNat) ?_ ?_
  ·exact⟨0,cZ (cZ (iota s.length) (onL s n b) (((l.length:Int)+1)).toNat) l ((l.length:Int)).toNat,List.replicate l.length (0:Int),⟨G,G,(by rw[hl,BX];unfold dG;rw[show((s.length:Int)+1).toNat=s.length+1 by omega,cz]),(by rw[dh,ur]),(λq h1 h2=>G)⟩,KP⟩
  intro p D V ⟨Ow,qv,hD,ld,hV⟩;refine wq<|wL Z Z<|aA<|aD<|bA Z (λcj=> ?_) (λcj=> ?_)
  ·have hm:=gK (s:=s) (n:=n) (b:=b) Ow G;rw[<-hD] at hm;refine aI<|aD<|aH<|wq<|wm Z<|wy (aF aa sz3 Z Z (rdr 1 Z))<|wy (aU au Z Z (rdr 1 Z))<|wg Z<|wn Z<|wq<|wm Z<|wm Z ?_;refine wm Z<|wy (aF aa sz3 Z Z (rdr 0 Z))<|dC (bG 0 Z sz3 Z Z) ?_;rintro _ _ rfl;refine aA ?_;refine uM [(0,sl me l.length mn),(6,sl gg (((cZ (iota s.length) (onL s n b) (((l.length:Int)+1)).toNat)).length) ef),(7,sl (GG cy) l.length l.length),(9,sl (GG ia) l.length l.length),(10,I p),(11,I (rd D p)),(55,sl gg (((cZ (iota s.length) (onL s n b) (((l.length:Int)+1)).toNat)).length) ef),(56,I ((((cZ (iota s.length) (onL s n b) (((l.length:Int)+1)).toNat)).length:Nat):Int)),(57,I p),(97, .bool (decide ((0<p)/\(((rd l (rd D (p-1)))=(rd l (rd D p)))/\((rd (onL s n b) (rd D (p-1)))=(rd (onL s n b) (rd D p)))))))] [(ri 3 (GG ia) l.length l.length (upd V (rd D p) p)),(ri 3 gg (((cZ (iota s.length) (onL s n b) (((l.length:Int)+1)).toNat)).length) ef D),(ri 3 en (((iota s.length)).length) es (cZ (iota s.length) (onL s n b) (((l.length:Int)+1)).toNat)),(ri 3 (GG cy) l.length l.length (onL s n b)),(ri 3 (GG aq) l.length l.length (iota s.length))] ?_ ?_
   ·refine bF mixed<|wD 0 Z (aJ Z)<|wD 1 Z (dA Z Z)<|wD 2 Z (aJ Z)<|oZ 68 Z (λfh=> ?_) (λfh=> ?_)
    ·refine wG 3 Z Z Z (aJ Z)<|wG 4 Z Z Z (aJ Z)<|wG 5 Z Z Z (aJ Z)<|wG 6 Z Z Z (mE Z Z)<|wG 7 Z Z Z (aF aa sz3 Z Z (rdr 1 Z))<|wG 8 Z Z Z (aU au Z Z (rdr 1 Z))<|wG 9 Z Z Z (aF aa sz3 Z Z (kp.c _) (by first|omega|(have mt:=gK (s:=s) (n:=n) (b:=b) (p:=p-1) G G;rw[<-hD] at mt;omega)) (by first|omega|(have mt:=gK (s:=s) (n:=n) (b:=b) (p:=p-1) G G;rw[<-hD] at mt;omega))) ?_;refine wG 10 Z Z Z (aU au Z Z (kp.c _) (by first|omega|(have mt:=gK (s:=s) (n:=n) (b:=b) (p:=p-1) G G;rw[<-hD] at mt;omega)) (by first|omega|(have mt:=gK (s:=s) (n:=n) (b:=b) (p:=p-1) G G;rw[<-hD] at mt;omega))) ?_;refine wG 11 Z Z Z (aJ Z)<|wG 12 Z Z Z (aJ Z)<|wG 13 Z Z Z (aF aa sz3 Z Z (kp.c _))<|wG 14 Z Z Z (aU au Z Z (kp.c _))<|wG 15 Z Z Z (fD Z Z)<|wD 16 Z (aS Z Z)<|wD 17 Z (aJ Z)<|oZ 83 Z (λjj=> ?_) (λjj=> ?_)
     ·refine wG 18 Z Z Z (aJ Z)<|wG 19 Z Z Z (aJ Z)<|wG 20 Z Z Z (aJ Z)<|wG 21 Z Z Z (mE Z Z)<|wG 22 Z Z Z (aF aa sz3 Z Z (rdr 1 Z))<|wG 23 Z Z Z (aU au Z Z (rdr 1 Z))<|wG 24 Z Z Z (aF aa sz3 Z Z (rdr 3 Z) (by first|omega|(have mt:=gK (s:=s) (n:=n) (b:=b) (p:=p-1) G G;rw[<-hD] at mt;omega)) (by first|omega|(have mt:=gK (s:=s) (n:=n) (b:=b) (p:=p-1) G G;rw[<-hD] at mt;omega))) ?_;refine wG 25 Z Z Z (aU au Z Z (rdr 3 Z) (by first|omega|(have mt:=gK (s:=s) (n:=n) (b:=b) (p:=p-1) G G;rw[<-hD] at mt;omega)) (by first|omega|(have mt:=gK (s:=s) (n:=n) (b:=b) (p:=p-1) G G;rw[<-hD] at mt;omega))) ?_;refine wG 26 Z Z Z (aJ Z)<|wG 27 Z Z Z (aJ Z)<|wG 28 Z Z Z (aF aa sz3 Z Z (rdr 3 Z))<|wG 29 Z Z Z (aU au Z Z (rdr 3 Z))<|wG 30 Z Z Z (fD Z Z)<|wD 31 Z (aS Z Z)<|wN ?_;exact KP
     ·refine wO 18 Z Z Z<|wO 19 Z Z Z<|wO 20 Z Z Z<|wO 21 Z Z Z<|wO 22 Z Z Z<|wO 23 Z Z Z<|wO 24 Z Z Z<|wO 25 Z Z Z<|wO 26 Z Z Z<|wO 27 Z Z Z<|wO 28 Z Z Z<|wO 29 Z Z Z<|wO 30 Z Z Z<|wD 31 Z (aO Z Z)<|wN ?_;exact KP
    ·refine wO 3 Z Z Z<|wO 4 Z Z Z<|wO 5 Z Z Z<|wO 6 Z Z Z<|wO 7 Z Z Z<|wO 8 Z Z Z<|wO 9 Z Z Z<|wO 10 Z Z Z<|wO 11 Z Z Z<|wO 12 Z Z Z<|wO 13 Z Z Z<|wO 14 Z Z Z<|wO 15 Z Z Z<|wD 16 Z (aO Z Z)<|wD 17 Z (aJ Z) ?_;refine wO 18 Z Z Z<|wO 19 Z Z Z<|wO 20 Z Z Z<|wO 21 Z Z Z<|wO 22 Z Z Z<|wO 23 Z Z Z<|wO 24 Z Z Z<|wO 25 Z Z Z<|wO 26 Z Z Z<|wO 27 Z Z Z<|wO 28 Z Z Z<|wO 29 Z Z Z<|wO 30 Z Z Z<|wD 31 Z (aO Z Z)<|wN ?_;exact KP
   refine bA Z (λkb=> ?_) (λkb=> ?_)
   ·refine aK<|wm Z<|wm Z<|wm Z<|wm Z<|wm Z<|wS Z Z<|wy (aF aa sz3 Z Z (rdr 1 Z))<|wy (aU au Z Z (rdr 1 Z))<|wy (aF aa sz3 Z Z (rdr 0 Z) (by first|omega|(have mt:=gK (s:=s) (n:=n) (b:=b) (p:=p-1) G G;rw[<-hD] at mt;omega)) (by first|omega|(have mt:=gK (s:=s) (n:=n) (b:=b) (p:=p-1) G G;rw[<-hD] at mt;omega))) ?_;refine wy (aU au Z Z (rdr 0 Z) (by first|omega|(have mt:=gK (s:=s) (n:=n) (b:=b) (p:=p-1) G G;rw[<-hD] at mt;omega)) (by first|omega|(have mt:=gK (s:=s) (n:=n) (b:=b) (p:=p-1) G G;rw[<-hD] at mt;omega))) ?_;refine wy (aF aa sz3 Z Z (rdr 0 Z))<|dC (bG 0 Z sz3 Z Z) ?_;rintro _ _ rfl;refine aA<|aK<|wA Z Z<|wm Z<|aA ?_;exact⟨p+1,D,upd (upd V (rd D p) p) (rd D p) (rd (upd V (rd D p) p) (rd D (p-1))),⟨G,G,G,(by rw[aX,aX];exact ld),(by subst hD;exact aNa hn hb Ow G ld hV (by rw[<-hl,and_assoc];exact kb))⟩,G,KP⟩
   ·refine aI<|aK<|wA Z Z<|wm Z<|aA ?_;exact⟨p+1,D,upd V (rd D p) p,⟨G,G,G,(by rw[aX];exact ld),(by subst hD;exact aFc hn hb Ow G ld hV (by rw[<-hl,and_assoc];exact kb))⟩,G,KP⟩
  ·refine aR<|wq<|wm Z<|wm Z<|wg Z<|wn Z<|aT [0,1] 99 cC Z ?_;refine⟨_,_,Z,Z,?_⟩;have e2:V=rkL s (n+b):=aNb ld (λq h1 h2=>by have:=hV q h1 G;rw[hD] at this;exact this);subst e2;subst hD;rw[Ml,ur];exact⟨_,_,_,_,Z,Z⟩
variable {B iz dd Bs:Nat} {w0 w:World} {R:List Row} {dg:AF} {s:AH}
theorem QL:
  CT 315 #[sl dg iz dd] B w0 R (λv R'=> ∃g,v= .func (.func 346) #[] #[PG g]/\R'=(rc 52 1 g [sl dg iz dd])::R):=by
 refine fn1 Tryz.func315 Z Z Z ?_;refine wq<|wa (cB (sz:=1) Z Z) ?_;rintro _ _⟨g,rfl,rfl⟩;refine wn Z<|wq<|wy (mG Z Z)<|wn Z<|bQ ?_;exact⟨_,Z,g,Z,Z⟩
theorem aCd:
  CT 186 #[sl dg iz dd] B w0 R (λv R'=> ∃g,v= .func (.func 241) #[] #[PG g]/\R'=(rc 52 1 g [sl dg iz dd])::R):=by
 refine fn1 Tryz.func186 Z Z Z ?_;refine wq<|wa (cB (sz:=1) Z Z) ?_;rintro _ _⟨g,rfl,rfl⟩;refine wn Z<|wq<|wy (mG Z Z)<|wn Z<|bQ ?_;exact⟨_,Z,g,Z,Z⟩
theorem aQp {l:AH} {k:Nat} (h:k<l.length):l.take k++[rd l (k:Int)]=l.take (k+1):=by
 rw[qm,av h,rd,cz,ai,av h];rfl
theorem WQ {Bs:Nat} (co:Rd w dg iz dd 1 (ints .i64 s)) (ie:Rd w (GG Bs) 1 1 1 [sl dg iz dd]) (hN:s.length<=1000000):
  CF 361 #[sl none 0 0, .func (.func 346) #[] #[PG Bs]] w (λv R'=> ∃A c,v=sl A (s).length c/\R'=[(ri 3 A ((s).length) c (s))]):=by
 refine fnV Tryz.func361 Z Z ?_;obtain rfl:=co.lenI;refine eP ?_;refine aK<|wa (cB (sz:=1) Z Z) ?_;rintro _ _⟨aq,rfl,rfl⟩;refine bT (R1:=[(ri 3 none 0 0 ([])),(rc 52 1 aq [sl none 0 0])]) (Sub.refl _) (λ_ h=>h.nil 3 1)<|wn Z ?_;refine XN ?_;refine eP ?_;refine aK<|wm Z<|aA ?_;refine BF ?_;refine KQ Z bJl (aCw (A:=dg) (c:=dd) (zs:=s)) Z (λ_=>Z) Gd.refl (λ(kr:Nat) (A1:AF) (n1:Nat) (c1:Nat) (acc:AH)=>[(ri 3 A1 n1 c1 acc),(rc 52 1 aq [sl A1 n1 c1])]) (λkr A1 n1 c1 acc=>(n1=acc.length)/\(acc=s.take kr)) ?_ ?_ ?_ ?_
 ·exact⟨none,0,0,[],⟨(Z),(zh.symm)⟩,λ_ h=>h⟩
 ·intro kr A1 n1 c1 acc w ⟨cm,bc⟩ hw;exact⟨(ie.c _) w hw,(co.c _) w hw⟩
 ·intro lr kr A1 n1 c1 acc Wv Lc ⟨cm,bc⟩ Nw;have yd:acc.length<=s.length:=by rw[bc,ax];omega
  refine aK<|wn Z ?_;intro Ng vc;refine aH<|aK<|wy (yL 1 aa Z Z Z)<|wm Z<|wa (bH .i64 [rd s (kr:Int)] aa zs3 Z Z Z) ?_;rintro _ _⟨fd,rfl,rfl⟩;refine wa (aQ 1 Z aa zb3 Z Z Z (rdr 0 Z)) ?_;rintro _ _⟨fm,kx,rfl,rfl⟩;refine bC (v:=sl fm (n1+1) kx) Z<|dC (bE 2 Z Z Z fV Z Z Z Z (ak Z)) ?_;rintro _ _ rfl;refine aA ?_;exact⟨fm,(n1+1),kx,acc++([rd s (kr:Int)]),⟨(by rw[ah,cm];try rfl),(by rw[bc];exact aQp Lc)⟩,λ_=>λ_ h=>h.sel [1,2] cC Z⟩
 intro Nh Wu A1 n1 c1 acc ⟨cm,bc⟩ Bx vb;refine XO ?_;refine aQf ?_;refine v_w ?_;refine wq<|wy (yL 1 aa Z Z Z)<|wn Z<|aT [0] 99 cC Z ?_;refine bNu Z vb ⟨_,Z,?_⟩;rw[ow] at bc;subst cm;subst bc;exact⟨_,_,Z,Z⟩
theorem aFz {Bs:Nat} (co:Rd w dg iz dd 1 (ints .i64 s)) (ie:Rd w (GG Bs) 1 1 1 [sl dg iz dd]) (hN:s.length<=1000000):
  CF 344 #[.func (.func 346) #[] #[PG Bs]] w (λv R'=> ∃A c,v=sl A (s).length c/\R'=[(ri 3 A ((s).length) c (s))]):=by
 refine fn1 Tryz.func344 Z Z Z ?_;refine wq<|wn Z<|wq<|wm Z<|wa (aC bJk Z (Ct.fresh (λw hw=>WQ ((co.c _) w hw) ((ie.c _) w hw) G))) ?_;rintro _ _⟨_,rfl,cg,ce,rfl,rfl⟩;refine wn Z<|aT [0] 99 cC Z ?_;exact⟨_,Z,_,_,Z,Z⟩
theorem QZ {Bs:Nat} (co:Rd w dg iz dd 1 (ints .i64 s)) (ie:Rd w (GG Bs) 1 1 1 [sl dg iz dd]) (hN:s.length<=1000000):
  CF 314 #[.func (.func 346) #[] #[PG Bs]] w (λv R'=> ∃A c,v=sl A (lK s).length c/\R'=[(ri 3 A ((lK s).length) c (lK s))]):=by
 refine fn1 Tryz.func314 Z Z Z ?_;refine wq<|wn Z<|wq<|wm Z<|wa (aC bJn Z (Ct.fresh (λw hw=>aFz ((co.c _) w hw) ((ie.c _) w hw) G))) ?_;rintro _ _⟨_,rfl,cg,ce,rfl,rfl⟩;refine wn Z<|wq<|wm Z<|wa (aC bJm Z (aKz Tryz.slices_Sort_int Tryz.slices_Sort_int_none 0 Z G)) ?_;rintro _ _⟨rfl,rfl⟩;refine aA<|wq<|wm Z<|wn Z<|aT [0] 99 cC Z ?_;refine⟨_,Z,?_⟩;have e:s.length=(lK s).length:=(mH s).length_eq.symm;rw[e];exact⟨_,_,Z,Z⟩
variable {s:AH} {w:World} {dg:AF} {iz dd:Nat}
theorem bFx {V:AH} {h:Nat} (hl:V.length=s.length) (hV: ∀j:Int,0<=j->j<s.length->rd V j=rkS s h j.toNat):V=rkL s h:=
 bL (hl.trans (BX s h).symm) λj h1 h2=>by rw[qY h1 G];exact hV j h1 G
theorem aMa (co:Rd w dg iz dd 1 (ints .i64 s)) (hN:s.length<=100000):
  CF 297 #[sl dg iz dd] w (λv R'=> ∃A c,v=sl A (s.length) c/\R'=[(ri 3 A s.length c (rkL s 1))]):=by
 obtain rfl:=co.lenI;refine fn1 Tryz.func297 Z Z Z ?_;have b6:=co.max;refine wq<|wn Z<|wq<|wm Z<|wa (aC bEd Z (QL)) ?_;rintro _ _⟨aq,rfl,rfl⟩;refine wa (aC bEe Z (Ct.fresh (λw hw=>QZ ((co.c _) w hw) ((rdr 0 Z) w hw) G))) ?_;rintro _ _⟨_,rfl,en,es,rfl,rfl⟩;refine wn Z<|wq<|wm Z<|wy (aL aa Z)<|wa (dM aa zb3 Z Z) ?_;rintro _ _⟨ir,rfl,rfl⟩;refine bC (v:=sl (GG ir) s.length s.length) Z<|wn Z<|aD<|wq<|wm Z<|wy (aL aa Z)<|wm Z<|aA<|aH ?_;refine dI (λ(i:Int) (V:AH)=>[(3,sl en ((lK s).length) es),(4,sl (GG ir) s.length s.length),(13,sl dg s.length dd),(14,I (s.length:Int)),(15,I i)]) (λi V=>[(ri 3 (GG ir) s.length s.length V),(ri 3 en ((lK s).length) es (lK s)),(rc 52 1 aq [sl dg s.length dd])]) (λi V=>(0<=i)/\(i<=s.length)/\(V.length=s.length)/\(∀j:Int,0<=j->j<i->rd V j=rkS s 1 j.toNat)) (λi V=>(s.length-i).toNat) ?_ ?_
 ·exact⟨0,List.replicate s.length (0:Int),⟨G,G,(by rw[dh]),(λj h1 h2=>G)⟩,KP⟩
 intro i V ⟨bb,gd,ld,hV⟩;refine wq<|wL Z Z<|aA<|aD<|bA Z (λba=> ?_) (λba=> ?_)
 ·refine aI<|aD<|aH<|wq<|wm Z<|wy (aF aa sz3 Z Z (co.c _))<|wy (aU au Z Z (co.c _))<|wg Z<|wn Z<|aK<|wm Z<|wm Z<|wm Z ?_;refine wm Z<|wa (aC bJp Z (aNo Tryz.slices_BinarySearch_int Tryz.slices_BinarySearch_int_empty 1 Z (by rw[(mH s).length_eq];omega) (BO s))) ?_;rintro _ _⟨rfl,rfl⟩;refine wm Z<|wX Z Z<|wX Z Z<|wy (aF aa sz3 Z Z (rdr 0 Z))<|dC (bG 0 Z sz3 Z Z) ?_;rintro _ _ rfl;refine aA<|aK<|wA Z Z<|wm Z<|aA ?_;exact⟨i+1,upd V i (((lK s).countP λy=>decide (y<rd s i):Nat):Int),⟨G,G,(by rw[aX];exact ld),(fA (f:=λj=>(rkS s 1 j.toNat:Int)) bb G hV (by rw[bFu G,(mH s).countP_eq];rfl))⟩,G,KP⟩
 ·refine aR<|wq<|wm Z<|wn Z<|aT [0] 99 cC Z ?_;refine⟨_,Z,?_⟩;obtain rfl:V=rkL s 1:=bFx ld (λj h1 h2=>hV j h1 G);exact⟨_,_,Z,Z⟩
theorem aEe {h:Int} (co:Rd w dg iz dd 1 (ints .i64 s)) (h0:0<=h) (hN:s.length<=100000):
  CF 268 #[sl dg iz dd,I h] w (λv R'=> ∃A c,v=sl A (s.length) c/\R'=[(ri 3 A s.length c (rkL s h.toNat))]):=by
 obtain rfl:=co.lenI;refine fn1 Tryz.func268 Z Z Z ?_;have b6:=co.max;refine wq<|wn Z<|aD<|wq<|wm Z<|wL Z Z<|wm Z<|bV 4 [(0,sl dg s.length dd),(1,I h),(14, .bool (decide ((h<0)\/(100000<(s.length:Int)))))] [] ?_ ?_
 ·refine bN 10 Z (λba=> ?_) (λba=> ?_)
  ·refine aM Z Z Z Z<|aM Z Z Z Z<|aM Z Z Z Z<|wy (aS Z Z)<|aA ?_;exact KP
  ·refine aB Z Z<|wm Z<|aB Z Z<|wy (aL aa Z)<|aB Z Z<|wy (dA Z Z)<|wy (aO Z Z)<|aA ?_;exact KP
 refine rT 14 Z G<|aA<|aP Z<|aI<|wq<|wm Z<|wy (aL aa Z)<|wa (dM aa zb3 Z Z) ?_;rintro _ _⟨cy,rfl,rfl⟩;refine bC (v:=sl (GG cy) s.length s.length) Z<|wn Z<|aD<|wq<|wm Z<|wy (fD Z Z)<|aA<|bA Z (λcj=> ?_) (λcj=> ?_)
 ·refine wq<|wm Z<|wn Z<|aT [0] 99 cC Z ?_;refine⟨_,Z,?_⟩;have e:h.toNat=0:=G
  rw[e,aRp];exact⟨_,_,Z,Z⟩
 ·refine aI<|wq<|wm Z<|wa (aC bJx Z (Ct.fresh (λw hw=>aMa ((co.c _) w hw) cE))) ?_;rintro _ _⟨_,rfl,ns,pi,rfl,rfl⟩;refine wn Z<|wq<|wm Z<|wm Z<|wy (aL aa Z)<|wy (sW Z Z)<|wn Z<|aD<|wq<|wn Z ?_;refine aH ?_;refine JJ (λ(n:Int) (A1:AF) (c1:Nat) (L:AH)=>[(1,I (min h (s.length:Int))),(5,sl A1 s.length c1),(6,I n)]) (λn A1 c1 L=>[(ri 3 A1 s.length c1 L),(ri 3 (GG cy) s.length s.length (List.replicate s.length (0:Int)))]) (λn A1 c1 L=>(1<=n)/\(n=1\/n<=min h (s.length:Int))/\(L=rkL s n.toNat)) (λn A1 c1 L=>(min h (s.length:Int)-n).toNat) ?_ ?_
  ·exact⟨1,ns,pi,rkL s 1,⟨G,G,(Z)⟩,KP⟩
  intro n A1 c1 L ⟨cm,pj,hL⟩;refine aD<|wq<|wm Z<|wm Z<|wL Z Z<|aA<|bA Z (λfh=> ?_) (λfh=> ?_)
  ·refine aI<|aH<|wq<|wm Z<|wm Z<|wm Z<|wS Z Z<|wy (sW Z Z)<|wn Z<|wq<|wm Z<|wm Z ?_;refine wa (aC bJw Z (Ct.fresh (λw hw=>aMz (s:=s) (n:=n.toNat) (b:=(min n (min h (s.length:Int)-n)).toNat) ((rdr 0 Z) w hw) hL G G G ⟨hN,G⟩))) ?_;rintro _ _⟨_,rfl,kd,mu,bw,bx,rfl,rfl⟩;refine wm Z<|wX Z Z<|wX Z Z<|wn Z<|aK<|wm Z<|wm Z<|wA Z Z<|wn Z ?_;exact⟨n+(min n ((min h (s.length:Int))-n)),kd,mu,rkL s (n.toNat+(min n (min h (s.length:Int)-n)).toNat),⟨G,G,(by congr 1;omega)⟩,G,SA,λ_ h=>h.sel [0,3] cC Z⟩
  ·refine aR<|wq<|wm Z<|wn Z<|aT [0] 99 cC Z ?_;refine⟨_,Z,?_⟩
   have e:rkL s n.toNat=rkL s h.toNat:=by
    rcases ek s.length with z|z
    ·exact aRq z _ _
    ·rcases bz h s.length with a|a
     ·rw[show n.toNat=h.toNat by omega]
     ·rw[bFw (h:=h.toNat) G,show n.toNat=s.length by omega]
   rw[hL,e];exact⟨_,_,Z,Z⟩
theorem aNd {s:AH} {k:Int} (co:Rd w dg iz dd 1 (ints .i64 s)) (dr:(0<=k/\k<=1048576)/\ ∀x∈s,0<=x/\x<k) (hN:s.length<=100000):
  CF 221 #[sl dg iz dd,I k] w (λv R'=> ∃(out:AH) (A:AF) (c:Nat),v= .tuple #[sl A s.length c,I 0]/\out.length=s.length/\(∀q:Nat,q<s.length->rd out (rkS s s.length q)=q)/\R'=[(ri 3 A s.length c out)]):=by
 obtain rfl:=co.lenI;refine fn2 Tryz.func221 Z Z Z ?_;have b6:=co.max;refine wq<|wg Z<|wn Z<|aD<|wq<|wm Z<|wy (aL aa Z)<|wy (Yl.f (dA Z Z))<|aA<|aP Z<|aI<|aD ?_;refine wq<|wm Z<|wm Z<|wa (aC aAz Z (Ct.fresh (λw hw=>pU ((co.c _) w hw) cE))) ?_;rintro _ _⟨_,rfl,cg,ce,rfl,rfl⟩;refine wm Z<|wX Z Z<|wX Z Z<|wg Z<|wn Z<|wq<|wm Z<|wy (dW Z)<|aA<|aP Z<|aI<|wq ?_;refine wm Z<|wy (aL aa Z)<|wa (dM aa zb3 Z Z) ?_;rintro _ _⟨fd,rfl,rfl⟩;refine bC (v:=sl (GG fd) s.length s.length) Z<|wn Z<|aD<|wq<|wm Z<|wm Z<|wy (aL aa Z)<|wa (aC bKj Z (Ct.fresh (λw hw=>aEe ((co.c _) w hw) G cE))) ?_;rintro _ _⟨_,rfl,fm,kx,rfl,rfl⟩;refine wy (aL aa Z)<|wm Z<|aA<|aH ?_;refine dI (λ(i:Int) (V:AH)=>[(8,sl (GG fd) s.length s.length),(28,sl fm ((s).length) kx),(29,I (((s).length:Nat):Int)),(30,I i)]) (λi V=>[(ri 3 fm ((s).length) kx (rkL s ((s.length:Int)).toNat)),(ri 3 (GG fd) s.length s.length V),(ri 3 cg ((k).toNat) ce (eF s k))]) (λi V=>(0<=i)/\(i<=s.length)/\(V.length=s.length)/\(∀q:Nat,(q:Int)<i->rd V (rkS s s.length q)=q)) (λi V=>(s.length-i).toNat) ?_ ?_
 ·exact⟨0,List.replicate s.length (0:Int),⟨G,G,(by rw[dh]),(λq h=>G)⟩,KP⟩
 intro i V ⟨bb,gd,ld,hV⟩;refine wq<|wL Z Z<|aA<|aD<|bA Z (λba=> ?_) (λba=> ?_)
 ·have hr:rd (rkL s (s.length:Int).toNat) i=(rkS s s.length i.toNat:Int):=by rw[cz];exact qY bb G
  have ht:=BU (s:=s) (h:=s.length) (i:=i.toNat) G;refine aI<|aD<|aH<|wq<|wm Z<|wy (aF aa sz3 Z Z (rdr 0 Z))<|wy (aU au Z Z (rdr 0 Z))<|wg Z<|wn Z<|aK<|wm Z<|wm Z<|wm Z ?_;refine wy (aF aa sz3 Z Z (rdr 1 Z) (by rw[hr];omega) (by rw[hr];omega)) ?_;refine dC (bG 1 Z sz3 Z Z (by rw[hr];omega) (by rw[hr];omega)) ?_;rintro _ _ rfl;refine aA<|aK<|wA Z Z<|wm Z<|aA ?_
  exact⟨i+1,upd V (rd (rkL s ((s.length:Int)).toNat) i) i,⟨G,G,(by rw[aX];exact ld),(λq h=>by
    rw[hr];have:=YX (m:=i.toNat) G ld (λq h=>hV q G) q G
    rwa[show(i.toNat:Int)=i by omega] at this)⟩,G,KP⟩
 ·refine aR<|wq<|wm Z<|wg Z<|wn Z<|aT [1] 99 cC Z ?_;refine⟨_,_,Z,Z,?_⟩;exact⟨V,_,_,Z,ld,λq h=>hV q G,Z⟩
theorem aGl {ap:AF} {bl an:Nat} {u:AH} (ac:Rd w ap bl an 1 (ints .u8 u)) (am:aN u) (hN:u.length<=100000):
  CF 148 #[sl ap bl an] w (λv R'=> ∃(out:AH) (A:AF) (c:Nat),v= .tuple #[sl A u.length c,I 0]/\out.length=u.length/\(∀q:Nat,q<u.length->rd out (rkS u u.length q)=q)/\R'=[(ri 3 A u.length c out)]):=by
 obtain rfl:=ac.lenI;refine fn2 Tryz.func148 Z Z Z ?_;have kc:=ac.max;refine wq<|wg Z<|wn Z<|aD<|wq<|wm Z<|wy (aL af Z)<|wy (Yl.f (dA Z Z))<|aA<|aP Z<|aI<|aD ?_;refine aK<|wm Z<|wy (aL af Z)<|wa (dM aa zb3 Z Z) ?_;rintro _ _⟨aq,rfl,rfl⟩;refine bC (v:=sl (GG aq) u.length u.length) Z<|wn Z<|aD<|wq<|wm Z<|wy (aL af Z)<|wm Z<|aA<|aH ?_;refine dI (λ(i:Int) (V:AH)=>[(4,sl (GG aq) u.length u.length),(13,sl ap u.length an),(14,I (u.length:Int)),(15,I i)]) (λi V=>[(ri 3 (GG aq) u.length u.length V)]) (λi V=>(0<=i)/\(i<=u.length)/\(V.length=u.length)/\(∀j:Int,0<=j->j<i->rd V j=rd u j)) (λi V=>(u.length-i).toNat) ?_ ?_
 ·exact⟨0,List.replicate u.length (0:Int),⟨G,G,(by rw[dh]),(λj h1 h2=>G)⟩,KP⟩
 intro i V ⟨bb,gd,ld,hV⟩;refine wq<|wL Z Z<|aA<|aD<|bA Z (λba=> ?_) (λba=> ?_)
 ·have sv:=am.rd i;refine aI<|aD<|aH<|wq<|wm Z<|wy (aF af sz5 Z Z (ac.c _))<|wy (aU bn Z Z (ac.c _))<|wg Z<|wn Z<|aK<|wm Z<|wm Z<|wm Z ?_;refine wy (iR bn au Z)<|wy (aF aa sz3 Z Z (rdr 0 Z))<|dC (bG 0 Z sz3 Z Z) ?_;rintro _ _ rfl;refine aA<|aK<|wA Z Z<|wm Z<|aA ?_;exact⟨i+1,upd V i (rd u i),⟨G,G,(by rw[aX];exact ld),(fA (f:=λj=>rd u j) bb G hV Z)⟩,G,KP⟩
 ·have Sf:V=u:=bL ld (λj h1 h2=>hV j h1 G);refine aR<|wq<|wm Z<|wa (aC bKy Z (Ct.fresh (λw hw=>aNd ((rdr 0 Z) w hw) ⟨G,λx hx=>by rw[Sf] at hx;have:=am x hx;omega⟩ G))) ?_;rintro _ _⟨_,rfl,o1,lz,mc,rfl,Fc,Fo,rfl⟩;refine wX Z Z<|wX Z Z<|wg Z<|wn Z<|aT [0] 99 cC Z ?_;refine⟨_,_,Z,Z,?_⟩;subst Sf;exact⟨o1,_,_,Z,Fc,Fo,Z⟩
end Go.Proofs.YtdbebmmhdefgdaaGreat
