/- Own work. -/
import Derived.Laws.CopyRow
import Derived.Laws.IdiomCopy
import Derived.Lib.BitFns
import Derived.Shelf.Small.Bits
import Derived.Test.YtdbebmmhdefgdaaGreatProg
import Derived.RangeFuncRecord
import Derived.RangeFuncSeq
import Derived.RangeFuncCalls
import Derived.RangeFuncKeeps
import Derived.RangeFuncBox
import Derived.RangeFuncNested
import Derived.Shelf.SlSortCmp.Kit1
import Derived.Shelf.Abstract
import Derived.WalkKit
import Derived.OwnWalkIn
import Derived.TacticsInMore
import Derived.LoopNIn
import Derived.LoopIn
import Derived.Ground.NamesProg
import Derived.Ground.Names2Prog
import Derived.Shelf.Sort.Plain
import Derived.Shelf.Slices.SearchI
import Derived.Shelf.Slices.In.SortNone
import Derived.Shelf.Slices.Empties
import Derived.Lib.SlKeysI
import Derived.Test.YtdbebmmhdefgdaaGreatR2
set_option linter.unusedVariables false
set_option linter.unusedSimpArgs false
namespace Go.Eng
open Go Go.RowKit Go.Pure
section
variable {P:Program} {n:Nd} {B:Nat} {w0:World} {L:Env} {R:List Row} {ty:TypeId}
theorem aJy {x y:Int} (hx:0<=x/\x<256) (hy:0<=y/\y<256):(x.toNat.toUInt8==y.toNat.toUInt8)=decide (x=y):=by
 have e: ∀z:Int,0<=z/\z<256->((z.toNat.toUInt8).toNat:Int)=z:=λz hz=>by
  rw[Nat.toUInt8,Ch (by simp[UInt8.size];omega)];omega
 by_cases h:x=y
 ·subst h;simp
 ·rw [oh h];refine beq_eq_false_iff_ne.2 λg=>h ?_;have:=e x hx;have:=e y hy;rw[g] at*;omega
theorem aOb {u:List Int} {c:Int} (hu:aR u) (hc:0<=c/\c<256) (hm:c∈u):
  (List.range (⟨(Lib.bytesOf u).toArray⟩:ByteArray).size).find? (λi=>(⟨(Lib.bytesOf u).toArray⟩:ByteArray)[i]! ==c.toNat.toUInt8)=some (idx u c).toNat:=by
 have hi:=rP hm
 have hsz:(⟨(Lib.bytesOf u).toArray⟩:ByteArray).size=u.length:=by
  show(Lib.bytesOf u).toArray.size=_;rw[qj,aCa]
 have sk: ∀(i:Nat) (h:i<u.length),(⟨(Lib.bytesOf u).toArray⟩:ByteArray)[i]! =(u[i]).toNat.toUInt8:=λi h=>by
  rw[um _ i (by rw[hsz];exact h)];show(Lib.bytesOf u).toArray[i]'_=_;simp[Lib.bytesOf]
 refine List.find?_range_eq_some.2 ⟨?_,?_,?_⟩
 ·rw [sk _ G,aJy (hu _ (lu _)) hc];have:=UE hm;rw[fG hi.1 hi.2] at this;rw[nk this]
 ·rw[jq,hsz];omega
 ·intro j hj;rw[sk _ G,aJy (hu _ (lu _)) hc]
  have:u[j]≠c:=λg=>by
   unfold idx at hj hi;have:=Dj (xs:=u) (p:=λx=>x==c) (i:=j) G;simp[g] at this
  rw[oh this];rfl
theorem aCl {f:FuncId} {fn:Func} {x y:Operand} {ts:Array TypeId} {A:Option Addr} {m c':Nat} {u:List Int} {c:Int} (hf:P.funcs[f]? =some fn) (b8:(fn.name== "runtime.NumGoroutine")=false) (hb:fn.body.isNone=true) (hn:Extern.findNext fn=none) (he:Extern.find fn=some Extern.BytealgIndexByte.indexByte)
  (hx:ev L x=some (.slice A m c')) (hy:ev L y=some (.int .u8 c)) (h:RdC B w0 R A m c' 1 (ints .u8 u)) (hu:aR u) (hc:0<=c/\c<256) (hm:c∈u):
  Ac P n B w0 (.call {callee:= .value (.func f),args:=[x,y].toArray,argTypes:=ts}) ty L R (λv R'=>v= .int .i64 (idx u c)/\R'=R):=
 VX (vs:=[.slice A m c', .int .u8 c]) (by simp[evs,hx,hy]) λw hw=>⟨_,w,R,by
  rw[Fg hf b8 hb hn he];rw[show [Value.slice A m c',Value.int .u8 c].toArray= #[.slice A m c', .int .u8 c] from rfl]
  change (Sem.run P (do
   let b<-Extern.Bytes.bytesOf (.slice A m c')
   let c<-Extern.Bytes.asByte (.int .u8 c)
   match (List.range b.size).find? λi=>b[i]! ==c with
   |some i=>pure (goInt i)
   |none=>pure (goInt (-1))) w).andThen _=_
  simp only[kg,vN (h w hw),jv,Extern.Bytes.asByte,ni,aOb hu hc hm];rfl,hw,by
  show Value.int .i64 (((idx u c).toNat:Nat):Int)=_;have:=rP hm
  rw[show(((idx u c).toNat:Nat):Int)=idx u c by omega],rfl⟩
theorem jM {x:Int} (h0:0<=x) (h:x<18446744073709551616):IntKind.u64.wrap x=x:=by
 rw[Ia];omega
theorem nE {x:Int} (h0:0<=x) (h:x<256):IntKind.u8.wrap x=x:=by
 rw[Ck];omega
theorem aRn (x:Int) (h0:0<=x) (h1:x<18446744073709551616) (j:IntKind) (k:Nat) (hk:k<=64) (w:World):(Op.shift .shr .u64 x j (k:Int)).run P w= .ok (.int .u64 (x/2^k)) w:=by
 have hn: ¬((k:Int)<0):=G
 have hm:min (k:Int).toNat (IntKind.bits .u64)=k:=by
  have:IntKind.bits .u64=64:=rfl;omega
 have he:Int.fdiv x (2^k)=x/2^k:=Bi _ (by exact vk G);unfold Op.shift;simp only[hn,hm,he,xe];rfl
theorem bFk {x y:Operand} {t u:TypeId} {a:Int} {j:IntKind} {k:Nat} (hx:ev L x=some (.int .u64 a)) (hy:ev L y=some (.int j (k:Int))) (h0:0<=a) (h1:a<18446744073709551616) (hk:Nat.ble k 64=true):Yl P n B w0 (.binOp .shr t x y u) ty L R (.int .u64 (a/2^k)):=by
 intro a' w o ho _ hs _;simp[execOp,ho,hs.ev hx,hs.ev hy,binOp,eqGuard,aRn a h0 h1 j k (au hk)]
end
section
variable {P:Program} {n:Nd} {B:Nat} {w0:World} {L:Env} {R:List Row} {ty:TypeId}
theorem aQf {x y:Operand} {t u:TypeId} {p q:Int} (hx:ev L x=some (.int .u64 p)) (hy:ev L y=some (.int .u64 q)) (h:0<=p+q/\p+q<18446744073709551616):Yl P n B w0 (.binOp .add t x y u) ty L R (.int .u64 (p+q)):=by
 have:=aQg (P:=P) (n:=n) (B:=B) (w0:=w0) (R:=R) (ty:=ty) (t:=t) (u:=u) hx hy;rwa[jM h.1 h.2] at this
theorem bFj {x y:Operand} {t u:TypeId} {p q:Int} (hx:ev L x=some (.int .u64 p)) (hy:ev L y=some (.int .u64 q)) (h:0<=p-q/\p-q<18446744073709551616):Yl P n B w0 (.binOp .sub t x y u) ty L R (.int .u64 (p-q)):=by
 have:=bDj (P:=P) (n:=n) (B:=B) (w0:=w0) (R:=R) (ty:=ty) (t:=t) (u:=u) hx hy;rwa[jM h.1 h.2] at this
theorem sZ {x y:Operand} {t u:TypeId} {p q:Int} (hx:ev L x=some (.int .u64 p)) (hy:ev L y=some (.int .u64 q)) (h:0<=p*q/\p*q<18446744073709551616):Yl P n B w0 (.binOp .mul t x y u) ty L R (.int .u64 (p*q)):=by
 have:=bDm (P:=P) (n:=n) (B:=B) (w0:=w0) (R:=R) (ty:=ty) (t:=t) (u:=u) hx hy;rwa[jM h.1 h.2] at this
theorem DN {x y:Operand} {t u:TypeId} {p q:Int} (hx:ev L x=some (.int .u64 p)) (hy:ev L y=some (.int .u64 q)) (h:0<=p/\p<18446744073709551616) (h0:0<q):Yl P n B w0 (.binOp .quo t x y u) ty L R (.int .u64 (p/q)):=by
 have:=bDk (P:=P) (n:=n) (B:=B) (w0:=w0) (R:=R) (ty:=ty) (t:=t) (u:=u) hx hy h.1 h0;have h1:p/q<=p:=Hz q h.1;have h2:0<=p/q:=Es h.1 G;rwa[jM h2 G] at this
theorem gI {x:Operand} {s d:TypeId} {j:IntKind} {p:Int} {td:TypeDesc} (ef:P.underlying s=some td) (hd:P.underlying d=some (.int .u64)) (hx:ev L x=some (.int j p)) (h:0<=p/\p<18446744073709551616:=by omega):Yl P n B w0 (.convert s d x) ty L R (.int .u64 p):=by
 have:=mI (P:=P) (n:=n) (B:=B) (w0:=w0) (R:=R) (ty:=ty) ef hd hx;rwa[jM h.1 h.2] at this
theorem eP {x:Operand} {s d:TypeId} {j:IntKind} {p:Int} {td:TypeDesc} (ef:P.underlying s=some td) (hd:P.underlying d=some (.int .u8)) (hx:ev L x=some (.int j p)):Yl P n B w0 (.convert s d x) ty L R (.int .u8 (p%256)):=by
 have:=mI (P:=P) (n:=n) (B:=B) (w0:=w0) (R:=R) (ty:=ty) ef hd hx;rwa[Ck] at this
theorem bFo {x y:Operand} {t u:TypeId} {p q:Int} (hx:ev L x=some (.int .u8 p)) (hy:ev L y=some (.int .u8 q)):Yl P n B w0 (.binOp .add t x y u) ty L R (.int .u8 ((p+q)%256)):=by
 have:=aQg (P:=P) (n:=n) (B:=B) (w0:=w0) (R:=R) (ty:=ty) (t:=t) (u:=u) hx hy;rwa[Ck] at this
theorem aRo (x m:Int) (h:0<=x*m/\x*m<18446744073709551616) (j:IntKind) (k:Nat) (hk:k<=64) (hm:(2:Int)^k=m) (w:World):(Op.shift .shl .u64 x j (k:Int)).run P w= .ok (.int .u64 (x*m)) w:=by
 have hn: ¬((k:Int)<0):=G
 have hb:min (k:Int).toNat (IntKind.bits .u64)=k:=by
  have:IntKind.bits .u64=64:=rfl;omega
 unfold Op.shift;simp only[hn,hb,xe,hm,jM h.1 h.2];rfl
theorem uT {x y:Operand} {t u:TypeId} {a m:Int} {j:IntKind} {k:Nat} (hx:ev L x=some (.int .u64 a)) (hy:ev L y=some (.int j (k:Int))) (hm:(2:Int)^k=m) (h:0<=a*m/\a*m<18446744073709551616) (hk:Nat.ble k 64=true):Yl P n B w0 (.binOp .shl t x y u) ty L R (.int .u64 (a*m)):=by
 intro a' w o ho _ hs _;simp[execOp,ho,hs.ev hx,hs.ev hy,binOp,eqGuard,aRo a m h j k (au hk) hm]
theorem oD {x y:Operand} {t u:TypeId} {a m:Int} {j:IntKind} {k:Nat} (hx:ev L x=some (.int .u64 a)) (hy:ev L y=some (.int j (k:Int))) (hm:(2:Int)^k=m) (h:0<=a/\a<18446744073709551616) (hk:Nat.ble k 64=true):Yl P n B w0 (.binOp .shr t x y u) ty L R (.int .u64 (a/m)):=by
 have:=bFk (P:=P) (n:=n) (B:=B) (w0:=w0) (R:=R) (ty:=ty) (t:=t) (u:=u) hx hy h.1 h.2 hk;rwa[hm] at this
theorem qZ {p:Int} (h:0<=p/\p<18446744073709551616):(BitVec.ofInt 64 p).toNat=p.toNat:=by
 rw[zh];have e:((2^64:Nat):Int)=18446744073709551616:=rfl;rw[e,pu h.1 h.2]
theorem aLo (p:Int) (h:0<=p/\p<18446744073709551616) (k:Nat) (hk:k<=64) (m:Int) (hm:m=(2:Int)^k-1) (w:World):(Op.intBits .and .u64 p m).run P w= .ok (.int .u64 (p%2^k)) w:=by
 show Result.ok (Value.int .u64 (IntKind.u64.wrap ((BitVec.ofInt 64 p &&& BitVec.ofInt 64 m).toNat:Int))) w=_;have hp:(0:Int)<2^k:=Ej G
 have ph:(2:Int)^k<=2^64:=by
  have:(2:Nat)^k<=2^64:=Er G hk
  exact_mod_cast this
 have e1:(BitVec.ofInt 64 m).toNat=2^k-1:=by
  rw[qZ G,hm];have:((2:Int)^k)=((2^k:Nat):Int):=by norm_cast
  rw[this];omega
 rw[BitVec.toNat_and,qZ h,e1,Dw]
 have e2:((p.toNat%2^k:Nat):Int)=p%2^k:=by
  rw[Ah,qf h.1]
  norm_cast
 rw[e2];have h1:0<=p%2^k:=ko _ G;have h2:p%2^k<2^k:=ja _ hp;rw[jM h1 G]
theorem HV {x y:Operand} {t u:TypeId} {p q m:Int} (k:Nat) (hx:ev L x=some (.int .u64 p)) (hy:ev L y=some (.int .u64 q)) (hm:(2:Int)^k=m) (hq:q=m-1) (h:0<=p/\p<18446744073709551616) (hk:Nat.ble k 64=true):Yl P n B w0 (.binOp .and t x y u) ty L R (.int .u64 (p%m)):=by
 subst hm;intro a w o ho _ hs _;simp[execOp,ho,binOp,eqGuard,hs.ev hx,hs.ev hy,aLo p h k (au hk) q hq]
theorem bGl: ∀n:Fin 256,(n.val|||128)=n.val%128+128:=by decide+kernel
theorem aZq (p:Int) (h:0<=p/\p<256) (w:World):(Op.intBits .or .u8 p 128).run P w= .ok (.int .u8 (p%128+128)) w:=by
 show Result.ok (Value.int .u8 (IntKind.u8.wrap ((BitVec.ofInt 8 p|||BitVec.ofInt 8 128).toNat:Int))) w=_
 have e1:(BitVec.ofInt 8 p).toNat=p.toNat:=by
  rw[zh];have e:((2^8:Nat):Int)=256:=rfl;rw[e,pu h.1 h.2]
 have e2:(BitVec.ofInt 8 128).toNat=128:=cC
 rw[Jh,e1,e2];have:=bGl ⟨p.toNat,G⟩;rw[show p.toNat|||128=p.toNat%128+128 from this,nE G G];rw[show((p.toNat%128+128:Nat):Int)=p%128+128 by omega]
theorem bIx {x y:Operand} {t u:TypeId} {p:Int} (hx:ev L x=some (.int .u8 p)) (hy:ev L y=some (.int .u8 128)) (h:0<=p/\p<256):Yl P n B w0 (.binOp .or t x y u) ty L R (.int .u8 (p%128+128)):=by
 intro a w o ho _ hs _;simp[execOp,ho,binOp,eqGuard,hs.ev hx,hs.ev hy,aZq p h]
theorem TN (p q:Int) (k:Nat) (m:Int) (hm:(2:Int)^k=m) (h:0<=p/\p*m+q<18446744073709551616) (hq:0<=q/\q<m) (w:World):(Op.intBits .or .u64 (p*m) q).run P w= .ok (.int .u64 (p*m+q)) w:=by
 show Result.ok (Value.int .u64 (IntKind.u64.wrap ((BitVec.ofInt 64 (p*m)|||BitVec.ofInt 64 q).toNat:Int))) w=_;have Yr:0<=p*m:=Ag h.1 G;rw[Jh,qZ G,qZ G]
 have e1:(p*m).toNat=2^k*p.toNat:=by
  have:p*m=((2^k*p.toNat:Nat):Int):=by
   rw[Aq,qf h.1,Eu,<-hm,Db];rfl
  rw[this,cu]
 have e2:q.toNat<2^k:=by
  have:((2^k:Nat):Int)=m:=by rw[<-hm,Eu];rfl
  omega
 rw[e1,<-Fp e2,<-e1];rw[show(((p*m).toNat+q.toNat:Nat):Int)=p*m+q by omega,jM G h.2]
theorem bIu {x y:Operand} {t u:TypeId} {p q m:Int} (k:Nat) (hx:ev L x=some (.int .u64 (p*m))) (hy:ev L y=some (.int .u64 q)) (hm:(2:Int)^k=m) (h:0<=p/\p*m+q<18446744073709551616) (hq:0<=q/\q<m):Yl P n B w0 (.binOp .or t x y u) ty L R (.int .u64 (p*m+q)):=by
 intro a w o ho _ hs _;simp[execOp,ho,binOp,eqGuard,hs.ev hx,hs.ev hy,TN p q k m hm h hq]
theorem bIv {x y:Operand} {t u:TypeId} {q m:Int} (k:Nat) (hx:ev L x=some (.int .u64 q)) (hy:ev L y=some (.int .u64 m)) (hm:(2:Int)^k=m) (h:m+q<18446744073709551616) (hq:0<=q/\q<m):Yl P n B w0 (.binOp .or t x y u) ty L R (.int .u64 (q+m)):=by
 intro a w o ho _ hs _;have e:=TN (P:=P) 1 q k m hm G hq w
 have e2:(Op.intBits .or .u64 q m).run P w= .ok (.int .u64 (q+m)) w:=by
  have c:Op.intBits .or .u64 q m=Op.intBits .or .u64 (1*m) q:=by
   rw[Int.one_mul];unfold Op.intBits;simp only[BitVec.or_comm]
  rw[c,e,Int.one_mul,Int.add_comm]
 simp[execOp,ho,binOp,eqGuard,hs.ev hx,hs.ev hy,e2]
theorem aRm (k0:IntKind) (x m:Int) (h0:0<=x) (j:IntKind) (k:Nat) (hk:k<=k0.bits) (hm:(2:Int)^k=m) (w:World):(Op.shift .shr k0 x j (k:Int)).run P w= .ok (.int k0 (x/m)) w:=by
 have hn: ¬((k:Int)<0):=G
 have hb:min (k:Int).toNat k0.bits=k:=G
 have he:Int.fdiv x m=x/m:=Bi _ (by rw[<-hm];exact vk G);unfold Op.shift;simp only[hn,hb,hm,he,xe];rfl
theorem yH {x y:Operand} {t u:TypeId} {k0:IntKind} {a m:Int} {j:IntKind} {k:Nat} (hx:ev L x=some (.int k0 a)) (hy:ev L y=some (.int j (k:Int))) (hm:(2:Int)^k=m) (h:0<=a) (hk:Nat.ble k k0.bits=true):Yl P n B w0 (.binOp .shr t x y u) ty L R (.int k0 (a/m)):=by
 intro a' w o ho _ hs _;simp[execOp,ho,hs.ev hx,hs.ev hy,binOp,eqGuard,aRm k0 a m h j k (au hk) hm]
theorem GJ {x y:Operand} {t e:TypeId} {z:Value} {bytes m c k c2:Nat} {A A2:Option Addr} {l l2:List Int} {kk:IntKind} (ht:P.underlying t=some (.slice e)) (db:(P.info? e).map (λi=>(i.zero,i.size,i.bytes))=some (some z,1,bytes))
  (hx:ev L x=some (.slice A m c)) (hr:RdC B w0 R A m c 1 (ints kk l)) (hy:ev L y=some (.slice A2 k c2)) (f7:RdC B w0 R A2 k c2 1 (ints kk l2)) (h0:0<m) (h1:0<k) (hg:c<m+k) (hb:m+k<=1000000) (b5:Builtin.nextslicecap (m+k) c*bytes<=281474976710656) (hz:z.cells.size=1):
  Ac P n B w0 (.call {callee:= .builtin .append,args:= #[x,y],argTypes:= #[t,t]}) ty L R (λv R'=> ∃g c',v= .slice (some ⟨g,0,none⟩) (m+k) c'/\R'=⟨e,1,some ⟨g,0,none⟩,m+k,c',ints kk (l++l2),false⟩::R):=by
 intro a w o K Q ho _ hs hp hk;obtain⟨i0,hi,yd⟩:=il.1 db;simp only[yl] at yd;obtain⟨vl,d7,Hh⟩:=yd;have ha:=hr w hp;have e7:=f7 w hp;have yk:(ints kk l).length=m:=by have:=ha.len;omega
 have ua:(ints kk l2).length=k:=by have:=e7.len;omega
 obtain⟨ad,rfl,_⟩:=ha.at_ 0 (ints kk l)[0] (by rw[av G]);obtain⟨ae,rfl,_⟩:=e7.at_ 0 (ints kk l2)[0] (by rw[av G])
 have oc:=run_append_grow (P:=P) (w:=w) t o.type e i0 z ht hi vl ad m c (ints kk l) (by rw[yk,d7];omega) (λj v hv=>by
   obtain⟨a',nc,hc⟩:=ha.at_ j v hv;obtain rfl:=jc nc
   exact hc) ae k c2 (ints kk l2) (by rw[ua,d7];omega) (λj v hv=>by
   obtain⟨a',nc,hc⟩:=e7.at_ j v hv;obtain rfl:=jc nc
   exact hc) hg G (by rw[Hh];exact b5)
 unfold Oper.wp;simp only[execOp,ho,resolve,invoke,builtin,kg,ni,jv,uh,lm,ry,hs.ev hx,hs.ev hy,oc,Oper.upon];have Bk:=grownCap_ge w (m+k) c e;have ph:=Gm w (m+k) c e (by unfold maxLen;omega)
 have kp:((ints kk l).toArray++(ints kk l2).toArray++Builtin.zeroCells z.cells (grownCap w (m+k) c e-(m+k))).size=m+k+(Builtin.zeroCells z.cells (grownCap w (m+k) c e-(m+k))).size:=by
  simp only[Array.size_append,qj,yk,ua]
 have hzs:z.cells.size=1->(Builtin.zeroCells z.cells (grownCap w (m+k) c e-(m+k))).size=grownCap w (m+k) c e-(m+k):=λh=>by
  simp[Builtin.zeroCells,h]
 have hsz:((ints kk l).toArray++(ints kk l2).toArray++Builtin.zeroCells z.cells (grownCap w (m+k) c e-(m+k))).size=grownCap w (m+k) c e:=by rw[kp,hzs hz];omega
 have pd:=(hp.drawn (w.drawn+1) G).newC ((ints kk l).toArray++(ints kk l2).toArray++Builtin.zeroCells z.cells (grownCap w (m+k) c e-(m+k))) e (m+k) (by rw[hsz];exact Bk) (by rw[hsz];exact ph)
 have t8:((ints kk l).toArray++(ints kk l2).toArray++Builtin.zeroCells z.cells (grownCap w (m+k) c e-(m+k))).toList.take (m+k)=ints kk (l++l2):=by
  rw[ve,ve];show(ints kk l++ints kk l2++_).take (m+k)=_;rw[Ex (by rw[ah,yk,ua])];simp[ints]
 rw[t8,hsz] at pd;exact hk _ _ _ pd ⟨_,_,rfl,rfl⟩
end
end Go.Eng
namespace Go.Eng
open Go Go.RowKit
section
variable {P:Program} {n:Nd} {B:Nat} {w0:World} {L:Env} {R:List Row} {ty:TypeId}
theorem aBh {g lo c:Nat} (h:lo<c):jA (some ⟨g,0,none⟩) lo c 1=some ⟨g,lo,none⟩:=by
 unfold jA;rw[bu G,qw,ky];unfold Addr.add;split<;>simp_all
theorem VY {x y:Operand} {t t2 e:TypeId} {p:Option Addr} {lo dl dc m c m2 c2:Nat} {A A2:Option Addr} {k:IntKind} {l src:List Int} (i:Nat) (hi:R[i]? =some ⟨e,1,A,m,c,ints k l,false⟩) (ht:P.underlying t=some (.slice e)) (gv:(P.info? e).map (·.size)=some 1)
  (hx:ev L x=some (.slice p dl dc)) (hy:ev L y=some (.slice A2 m2 c2)) (hp:p=jA A lo c 1) (hdl:dl=m-lo) (t6:lo<m) (ij:RdC B w0 R A2 m2 c2 1 (ints k src)):
  Ac P n B w0 (.call {callee:= .builtin .copy,args:= #[x,y],argTypes:= #[t,t2]}) ty L R (λv R'=>v= .int .i64 ((min m2 (m-lo):Nat):Int)/\R'=R.set i ⟨e,1,A,m,c,ints k (l.take lo++src.take (min m2 (m-lo))++l.drop (lo+min m2 (m-lo))),false⟩):=by
 intro a w o K Q ho i7 hs hw hk;have gr:=Row.lies_w (hw.own _ (gm hi)) rfl;have f7:=ij w hw;have Po:m2=src.length:=f7.lenI;have hl:m=l.length:=by have:=gr.1;rw[cZ] at this;simp only at this;omega
 rcases gr.2 with⟨_,hn⟩|⟨g,cap,cur,hv,hb,hg,hnc,sn,kp,t8⟩
 ·simp only at hn;omega
 simp only[kv,Ak] at hv;obtain⟨rfl,rfl⟩:=hv;simp only at t8 kp hnc hg hb;rw[qw] at t8 kp;have ci:p=some ⟨g,lo,none⟩:=by rw[hp];exact aBh G
 subst ci;subst hdl;obtain⟨q,hq⟩: ∃q,min m2 (m-lo)=q:=⟨_,rfl⟩;rw[hq] at hk;have Oo:Nat.min m2 (m-lo)=q:=hq;have kx:(ints k (src.take q)).length=q:=by rw[cZ,ax];omega
 have hlen:(ints k l).length=m:=by rw[cZ];omega
 rcases dz m2 with hz|ee
 ·have kf:q=0:=G
  have oc:=run_copy_none (P:=P) w t t2 o.type e (some ⟨g,lo,none⟩) A2 (m-lo) dc m2 c2 ht gv (by rw[hz];exact Nat.zero_min _);unfold Oper.wp execOp;simp only[ho,resolve,invoke,builtin,kg,ni,jv,uh,lm,ry,hs.ev hx,hs.ev hy,oc,Oper.upon];refine hk (.int .i64 ((0:Nat):Int)) w R hw ⟨by rw[kf],?_⟩;rw[kf];simp only[xw,jk,qm,gu]
  exact(by
   apply ul;intro j;rw[xq];split
   ·rename_i e;subst e;rw[df (dw.1 hi).1,hi]
   ·rfl)
 ·obtain ⟨a2,rfl⟩: ∃a2,A2=some a2:=by
   obtain⟨a2,h,_⟩:=f7.at_ 0 _ (av (by rw[cZ];omega));exact⟨a2,h⟩
  have oc:=run_copy_row P w t t2 o.type e g lo (m-lo) dc a2 m2 c2 cur e (ints k (src.take q)) ht gv hg (by rw[kx];exact hq.symm) (λj v hv=>by
   obtain⟨b,h1,h2⟩:=f7.at_ j v (by
    rw[ints,Cg] at hv;rw[ny] at hv;split at hv
    ·exact hv
    ·cases hv)
   obtain rfl:=jc h1
   exact h2) (by rw[kx,kp];omega) (BV k _)
  rw[kx] at oc;unfold Oper.wp execOp;simp only[ho,resolve,invoke,builtin,kg,ni,jv,uh,lm,ry,hs.ev hx,hs.ev hy,oc,Oper.upon];refine hk (.int .i64 (q:Int)) _ _ ?_ ⟨rfl,rfl⟩;refine hw.upd hi (row:=some g) ⟨rfl,rfl,rfl,cD,λj _ hj=>Jf w g j _ (λe=>hj (by simp[e]))⟩ (di _) (λj hj=>by cases hj;exact⟨_,rfl,rfl⟩) ?_ (λa' nc=> .inl ⟨a',nc,rfl⟩);unfold Row.lies;simp only;refine⟨?_, .inr ⟨g,c,_,rfl,hb,Ke w g cur _ e _ hg,hnc,sn,?_,?_⟩⟩
  ·simp only[cZ,ah,ax,ay];omega
  ·simp only[qj,ah,ax,ay,jy,cZ];omega
  ·simp only[qw];rw[oO,oO]
   have e1:ints k (l.take lo)=cur.toList.take lo:=by
    rw[ints,Cg];show(ints k l).take lo=_;rw[<-t8,List.take_take,yu G]
   have e2:ints k (l.drop (lo+q))=(cur.toList.drop (lo+q)).take (m-(lo+q)):=by
    rw[ints,Ho];show(ints k l).drop (lo+q)=_;rw[<-t8,List.drop_take]
   rw[e1,e2]
   have h1:(cur.toList.take lo++ints k (src.take q)).length=lo+q:=by
    rw[ah,kx,ax,jy];omega
   rw[List.take_append,h1,bn G]
theorem aXd {A:Option Addr} {c:Nat}:A=jA A 0 c 1:=by
 unfold jA;split
 ·rfl
 ·cases A with
  |none=>rfl
  |some a=>simp[Addr.add]
def BA (v:Int) (p N:Nat):List Int:=List.replicate p v++List.replicate (N-p) 0
theorem aLx (v:Int) (N:Nat):BA v 0 N=List.replicate N 0:=by simp[BA]
theorem aSi (v:Int) (N:Nat):BA v N N=List.replicate N v:=by simp[BA]
theorem QO {v:Int} {p N:Nat}:(BA v p N).take p=List.replicate p v:=by simp[BA]
theorem QP {v:Int} {p q N:Nat} {src:List Int} (h:p+q<=N) (hs:src=List.replicate q v):(BA v p N).take p++src++(BA v p N).drop (p+q)=BA v (p+q) N:=by
 subst hs;rw[QO];unfold BA;rw[List.drop_append];simp only[cz,List.drop_replicate,show p-(p+q)=0 by omega,List.replicate_zero,je,Dt];congr 2;omega
end
end Go.Eng
namespace Go.Proofs.YtdbebmmhdefgdaaGreat
open Go Go.Eng Go.Pure
open Tryz
set_option maxRecDepth 100000
variable {w:World} {x0 x n:Int}
theorem bAk (hv:0<=x0/\x0<18446744073709551616):
  Ct Tryz.prog 69 #[.int .u64 x0] w.heap.size w [] (λv R'=> ∃A c,v=sl A ((bO x0).length) c/\R'=[(ru 5 A ((bO x0).length) c (bO x0))]):=by
 refine fn1 Tryz.func69 Z Z Z ?_;have hlen:=dV 9 x0 G;refine wq<|wn Z<|wq<|dB (R1:=[(ru 5 none 0 0 ([]))]) (Sub.refl _) (λ_ h=>h.nil 5 1)<|wn Z<|aD<|aH ?_;refine fH (λ(A1:Option Addr) (n1:Nat) (c1:Nat) (acc:List Int) (x:Int)=>[(0, .int .u64 x),(3,sl A1 n1 c1)]) (λA1 n1 c1 acc x=>[(ru 5 A1 n1 c1 acc)]) (λA1 n1 c1 acc x=>(n1=acc.length)/\(0<=x/\x<18446744073709551616)/\(bO x0=acc++bO x)) (λA1 n1 c1 acc x=>x.toNat) ?_ ?_
 ·exact⟨none,0,0,[],x0,⟨(Z),G,(Z)⟩,SA,λ_ h=>h⟩
 intro A1 n1 c1 acc x ⟨co,To,hT⟩;have sr:=bq List.length hT;rw[ah] at sr;refine aD<|wq<|wm Z<|wy (gZ Z Z)<|aA<|bF Z (λaq=> ?_) (λaq=> ?_)
 ·refine aL<|aH<|wq<|wm Z<|wm Z<|wy (eP dx bg Z)<|wy (bIx Z Z G)<|wa (bL .u8 [(x%256)%128+128] af zs5 Z Z Z) ?_;rintro _ _ ⟨cm,rfl,rfl⟩;refine wa (aV 1 Z af zb5 Z Z Z (rdr 0 Z)) ?_;rintro _ _ ⟨ff,fh,rfl,rfl⟩;refine bK (v:=sl ff (n1+1) fh) Z<|wn Z<|aN<|wm Z<|wy (oD (k:=7) (m:=128) Z Z Z G Z)<|wn Z ?_;exact⟨ff,n1+1,fh,acc++([(x%256)%128+128]),x/128,⟨(by rw[ah,co];try rfl),G,(QQ hT G G G)⟩,G,SA,λ_ h=>h.sel [1] cC Z⟩
 ·refine aY<|wq<|wm Z<|wm Z<|wy (eP dx bg Z)<|wa (bL .u8 [x%256] af zs5 Z Z Z) ?_;rintro _ _ ⟨js,rfl,rfl⟩;refine wa (aV 1 Z af zb5 Z Z Z (rdr 0 Z)) ?_;rintro _ _ ⟨du,dp,rfl,rfl⟩;refine bK (v:=sl du (n1+1) dp) Z<|wn Z<|aT [1] 99 cC Z ?_;refine⟨_,Z,?_⟩;have e:acc++[x%256]=bO x0:=by rw[hT,jP G,pu G G]
  have e2:n1+1=(bO x0).length:=by rw[<-e,ah,co];rfl
  rw[e,e2];exact⟨_,_,Z,Z⟩
theorem aRq (hv:0<=x0/\x0<18446744073709551616):
  Ct Tryz.prog 79 #[.int .u64 x0] w.heap.size w [] (λv R'=> ∃A c,v=sl A ((bO x0).length) c/\R'=[(ru 5 A ((bO x0).length) c (bO x0))]):=by
 refine fn1 Tryz.func79 Z Z Z ?_;have hlen:=dV 9 x0 G;refine wq<|wn Z<|wq<|dB (R1:=[(ru 5 none 0 0 ([]))]) (Sub.refl _) (λ_ h=>h.nil 5 1)<|wn Z<|aD<|aH ?_;refine fH (λ(A1:Option Addr) (n1:Nat) (c1:Nat) (acc:List Int) (x:Int)=>[(0, .int .u64 x),(3,sl A1 n1 c1)]) (λA1 n1 c1 acc x=>[(ru 5 A1 n1 c1 acc)]) (λA1 n1 c1 acc x=>(n1=acc.length)/\(0<=x/\x<18446744073709551616)/\(bO x0=acc++bO x)) (λA1 n1 c1 acc x=>x.toNat) ?_ ?_
 ·exact⟨none,0,0,[],x0,⟨(Z),G,(Z)⟩,SA,λ_ h=>h⟩
 intro A1 n1 c1 acc x ⟨co,To,hT⟩;have sr:=bq List.length hT;rw[ah] at sr;refine aD<|wq<|wm Z<|wy (gZ Z Z)<|aA<|bF Z (λaq=> ?_) (λaq=> ?_)
 ·refine aL<|aH<|wq<|wm Z<|wm Z<|wy (HV (m:=128) 7 Z Z Z Z G Z)<|wy (bIv (m:=128) 7 Z Z Z G G)<|wy (eP dx bg Z)<|wa (bL .u8 [((x%128)+128)%256] af zs5 Z Z Z) ?_;rintro _ _ ⟨cm,rfl,rfl⟩;refine wa (aV 1 Z af zb5 Z Z Z (rdr 0 Z)) ?_;rintro _ _ ⟨ff,fh,rfl,rfl⟩;refine bK (v:=sl ff (n1+1) fh) Z<|wn Z<|aN<|wm Z<|wy (oD (k:=7) (m:=128) Z Z Z G Z)<|wn Z ?_;exact⟨ff,n1+1,fh,acc++([((x%128)+128)%256]),x/128,⟨(by rw[ah,co];try rfl),G,(QQ hT G G G)⟩,G,SA,λ_ h=>h.sel [1] cC Z⟩
 ·refine aY<|wq<|wm Z<|wm Z<|wy (eP dx bg Z)<|wa (bL .u8 [x%256] af zs5 Z Z Z) ?_;rintro _ _ ⟨js,rfl,rfl⟩;refine wa (aV 1 Z af zb5 Z Z Z (rdr 0 Z)) ?_;rintro _ _ ⟨du,dp,rfl,rfl⟩;refine bK (v:=sl du (n1+1) dp) Z<|wn Z<|aT [1] 99 cC Z ?_;refine⟨_,Z,?_⟩;have e:acc++[x%256]=bO x0:=by rw[hT,jP G,pu G G]
  have e2:n1+1=(bO x0).length:=by rw[<-e,ah,co];rfl
  rw[e,e2];exact⟨_,_,Z,Z⟩
theorem MH (hx:0<=x/\x<4294967296):
  Ct Tryz.prog 76 #[.int .u32 x] w.heap.size w [] (λv R'=> ∃A c,v=sl A 4 c/\R'=[(ru 5 A 4 c (fJ x))]):=by
 refine fn1 Tryz.func76 Z Z Z ?_;refine wq<|wn Z<|wq<|wa (dL af zb5 Z Z) ?_;rintro _ _ ⟨an,rfl,rfl⟩;refine bK (v:=sl (GG an) 4 4) Z<|wn Z<|aD<|wq<|wm Z<|wy (aQ af Z)<|wm Z<|aA<|aH<|oJ 5<|eH<|wq ?_;refine wy (Yl.t (eG Z Z) cC)<|aA<|aD<|bH Z<|aL<|aD<|aH<|wq<|wm Z<|wn Z<|aN<|wm Z<|wm Z ?_;refine wm Z<|wm Z<|wy (Yl.is (iV Z Z) Z)<|wy (yH (k:=0) (m:=1) Z Z Z G Z)<|wy (eP qo bg Z)<|wy (aI af sz5 Z Z (rdr 0 Z))<|bY (bJ 0 Z sz5 Z Z) ?_;rintro _ _ rfl;refine aA<|aN<|wy (Yl.is (dG Z Z) Z)<|wm Z<|aA<|eH<|wq<|wy (Yl.t (eG Z Z) cC)<|aA<|aD<|bH Z<|aL<|aD<|aH ?_;refine wq<|wm Z<|wn Z<|aN<|wm Z<|wm Z<|wm Z<|wm Z<|wy (Yl.is (iV Z Z) Z)<|wy (yH (k:=8) (m:=256) Z Z Z G Z)<|wy (eP qo bg Z)<|wy (aI af sz5 Z Z (rdr 0 Z))<|bY (bJ 0 Z sz5 Z Z) ?_;rintro _ _ rfl;refine aA<|aN<|wy (Yl.is (dG Z Z) Z)<|wm Z<|aA<|eH<|wq<|wy (Yl.t (eG Z Z) cC)<|aA<|aD<|bH Z<|aL<|aD<|aH ?_;refine wq<|wm Z<|wn Z<|aN<|wm Z<|wm Z<|wm Z<|wm Z<|wy (Yl.is (iV Z Z) Z)<|wy (yH (k:=16) (m:=65536) Z Z Z G Z)<|wy (eP qo bg Z)<|wy (aI af sz5 Z Z (rdr 0 Z))<|bY (bJ 0 Z sz5 Z Z) ?_;rintro _ _ rfl;refine aA<|aN<|wy (Yl.is (dG Z Z) Z)<|wm Z<|aA<|eH<|wq<|wy (Yl.t (eG Z Z) cC)<|aA<|aD<|bH Z<|aL<|aD<|aH ?_;refine wq<|wm Z<|wn Z<|aN<|wm Z<|wm Z<|wm Z<|wm Z<|wy (Yl.is (iV Z Z) Z)<|wy (yH (k:=24) (m:=16777216) Z Z Z G Z)<|wy (eP qo bg Z)<|wy (aI af sz5 Z Z (rdr 0 Z))<|bY (bJ 0 Z sz5 Z Z) ?_;rintro _ _ rfl;refine aA<|aN<|wy (Yl.is (dG Z Z) Z)<|wm Z<|aA<|eH<|wq<|wy (Yl.f (eG Z Z) cC)<|aA<|aD<|aJ Z<|aY<|wq ?_;refine wm Z<|wn Z<|aT [0] 99 cC Z ?_;refine⟨_,Z,?_⟩;exact⟨_,_,Z,Z⟩
theorem aLv (hx:0<=x/\x<4294967296):
  Ct Tryz.prog 141 #[.int .u32 x] w.heap.size w [] (λv R'=> ∃A c,v=sl A 4 c/\R'=[(ru 5 A 4 c (fJ x))]):=by
 refine fn1 Tryz.func141 Z Z Z ?_;refine wq<|wn Z<|wq<|wm Z<|wy (eP qo bg Z)<|wm Z<|wy (yH (k:=8) (m:=256) Z Z Z G Z)<|wy (eP qo bg Z)<|wm Z<|wy (yH (k:=16) (m:=65536) Z Z Z G Z)<|wy (eP qo bg Z)<|wm Z ?_;refine wy (yH (k:=24) (m:=16777216) Z Z Z G Z)<|wy (eP qo bg Z)<|wa (bL .u8 [x%256,(x/256)%256,(x/65536)%256,(x/16777216)%256] af zs5 Z Z Z) ?_;rintro _ _ ⟨cm,rfl,rfl⟩;refine wn Z<|aT [0] 99 cC Z ?_;refine⟨_,Z,?_⟩;unfold fJ;rw[Int.ediv_one];exact⟨_,_,Z,Z⟩
theorem lG (hv:0<=n/\n<9223372036854775808):
  Ct Tryz.prog 37 #[I n] w.heap.size w [] (λv R'=> ∃A c,v=sl A ((bO n).length) c/\R'=[(ru 5 A ((bO n).length) c (bO n))]):=by
 refine fn1 Tryz.func37 Z Z Z ?_;refine wq<|wn Z<|wq<|wm Z<|wy (gI ak dx Z)<|wa (aF bOs Z (Ct.fresh (λw hw=>bAk G))) ?_;rintro _ _ ⟨_,rfl,bm,bl,rfl,rfl⟩;refine wn Z<|aT [0] 99 cC Z ?_;refine⟨_,Z,?_⟩;exact⟨_,_,Z,Z⟩
theorem mO (hv:0<=n/\n<9223372036854775808):
  Ct Tryz.prog 43 #[I n] w.heap.size w [] (λv R'=> ∃A c,v=sl A ((bO n).length) c/\R'=[(ru 5 A ((bO n).length) c (bO n))]):=by
 refine fn1 Tryz.func43 Z Z Z ?_;refine wq<|wn Z<|wq<|wm Z<|wy (gI ak dx Z)<|wa (aF bOn Z (Ct.fresh (λw hw=>aRq G))) ?_;rintro _ _ ⟨_,rfl,bm,bl,rfl,rfl⟩;refine wn Z<|aT [0] 99 cC Z ?_;refine⟨_,Z,?_⟩;exact⟨_,_,Z,Z⟩
end Go.Proofs.YtdbebmmhdefgdaaGreat
namespace Go.Pure
open Go Go.Eng
variable {v:Int} {b:List Int} {k:Nat}
def iG:List Int->Int
 |[]=>0
 |d::l=>d%128+128*iG l
theorem vC: ∀l:List Int,0<=iG l
 |[]=>lq _
 |d::l=>by have:=vC l;rw[iG];omega
def aCq:List Int->Prop
 |[]=>False
 |d::l=>(l=[]/\0<=d/\d<128)\/(128<=d/\d<256/\aCq l/\0<iG l)
theorem TE: ∀(k:Nat) (v:Int),v.toNat<=k->0<=v->iG (bO v)=v/\aCq (bO v)
 |0,v,h,h0=>by
  rw[jP G];exact⟨by rw[iG,iG];omega, .inl ⟨rfl,G,G⟩⟩
 | k+1,v,h,h0=>by
  by_cases z:v<128
  ·rw [jP z];exact⟨by rw[iG,iG];omega, .inl ⟨rfl,G,G⟩⟩
  ·rw [rZ G];obtain⟨h1,h2⟩:=TE k (v/128) G G;exact⟨by rw[iG,h1];omega, .inr ⟨G,G,h2,by rw[h1];omega⟩⟩
theorem JN (h:0<=v):iG (bO v)=v:=(TE _ v (di _) h).1
theorem UG (h:0<=v):aCq (bO v):=(TE _ v (di _) h).2
theorem aIj: ∀l:List Int,aCq l->bO (iG l)=l
 |[],h=>h.elim
 | d::l,h=>by
  rcases h with⟨rfl,h0,h1⟩|⟨h0,h1,h2,h3⟩
  ·rw [iG,iG,jP G];congr 1;omega
  ·rw [iG,rZ G];have e1:(d%128+128*iG l)%128+128=d:=G
   have e2:(d%128+128*iG l)/128=iG l:=G
   rw[e1,e2,aIj l h2]
theorem aJi: ∀l m s t:List Int,aCq l->aCq m->l++s=m++t->l=m
 |[],_,_,_,h,_,_=>h.elim
 |_::_,[],_,_,_,h,_=>h.elim
 |d::l,e::m,s,t,h,g,q=>by
  rw[jh,jh] at q;obtain⟨rfl,q2⟩:=List.cons.inj q;rcases h with⟨rfl,h0,h1⟩|⟨h0,h1,h2,h3⟩<;>rcases g with⟨rfl,g0,g1⟩|⟨g0,g1,g2,g3⟩
  ·rfl
  ·omega
  ·omega
  ·rw[aJi l m s t h2 g2 q2]
def uR (b:List Int) (v:Int) (k:Nat):Prop:=(0<=v/\v<18446744073709551616)/\k=(bO v).length/\ ∃t,b=bO v++t
theorem uR.one {w:Int} {m:Nat} (h:uR b v k) (g:uR b w m):v=w/\k=m:=by
 obtain⟨h1,rfl,s,hs⟩:=h;obtain⟨g1,rfl,t,ht⟩:=g;have e:=aJi _ _ s t (UG h1.1) (UG g1.1) (hs.symm.trans ht);have e2:=bq iG e;rw[JN h1.1,JN g1.1] at e2;subst e2;exact⟨rfl,rfl⟩
theorem uR.drop (h:uR b v k):b=bO v++b.drop k:=by
 obtain⟨_,rfl,t,rfl⟩:=h;rw[Fz]
theorem uR.of (h:0<=v/\v<18446744073709551616) (t:List Int):uR (bO v++t) v (bO v).length:=⟨h,rfl,t,rfl⟩
def iO (b:List Int):Int:=if b.findIdx (λx=>decide (x<128))<b.length then(b.findIdx (λx=>decide (x<128)):Nat) else -1
theorem bCf {i:Int} (i0:0<=i) (hi:i<b.length) (h:rd b i<128) (hn: ∀j:Int,0<=j->j<i-> ¬rd b j<128):iO b=i:=by
 have e:b.findIdx (λx=>decide (x<128))=i.toNat:=by
  rw[List.findIdx_eq G];refine⟨by rw[fG i0 hi] at h;simpa using h,λj hj=> ?_⟩;have:=hn j G G;rw[fG G G] at this;simpa using this
 unfold iO;rw[e,df G];omega
theorem aOg (hn: ∀j:Int,0<=j->j<b.length-> ¬rd b j<128):iO b= -1:=by
 unfold iO;rw[bu];intro h;have hp:=El (w:=h);have:=hn (b.findIdx λx=>decide (x<128):Nat) G G;rw[fG G G] at this;simp only[cu] at this;simp only[zy] at hp;exact this hp
variable {b:List Int} {d V:Int} {e:Nat}
theorem aVn: ∀(e:Nat) (b:List Int),aR b->e<b.length->(∀j:Nat,j<e->128<=rd b j)->rd b (e:Int)<128->(e=0\/rd b (e:Int)≠0)->aCq (b.take (e+1))/\(rd b (e:Int)≠0->0<iG (b.take (e+1)))
 |0,d::b,hb,h,_,h1,_=>by
  have hd:=hb d cD;have e0:rd (d::b) ((0:Nat):Int)=d:=rfl;rw[e0] at h1 ⊢;refine⟨.inl ⟨rfl,hd.1,h1⟩,λdv=> ?_⟩;show 0<d%128+128*iG [];rw[iG];omega
 | e+1,d::b,hb,h,hn,h1,h2=>by
  have hd:=hb d cD;have An:128<=d:=hn 0 G
  have er: ∀j:Nat,rd (d::b) ((j+1:Nat):Int)=rd b (j:Int):=λj=>by
   unfold rd;rw[show((j+1:Nat):Int).toNat=j+1 by omega,cu];rfl
  rw[er] at h1 h2 ⊢;have hz:rd b (e:Int)≠0:=h2.resolve_left G;have ih:=aVn e b (λx hx=>hb x (ek _ hx)) (by rw[dh] at h;omega) (λj hj=>by have:=hn (j+1) G;rwa[er] at this) h1 (.inr hz);refine⟨.inr ⟨An,hd.2,ih.1,ih.2 hz⟩,λ_=> ?_⟩;show 0<d%128+128*iG (b.take (e+1));have:=ih.2 hz;omega
 |0,[],_,h,_,_,_=>by simp at h
 |_+1,[],_,h,_,_,_=>by simp at h
theorem JM: ∀(e:Nat) (b:List Int),aR b->e<b.length->rd b (e:Int)<128->rd b (e:Int)*128^e<=iG (b.take (e+1))/\iG (b.take (e+1))<(rd b (e:Int)+1)*128^e
 |0,d::b,hb,h,h1=>by
  have hd:=hb d cD;have e0:rd (d::b) ((0:Nat):Int)=d:=rfl;rw[e0] at h1 ⊢;show d*128^0<=d%128+128*iG []/\d%128+128*iG []<(d+1)*128^0;rw[iG,uy];omega
 | e+1,d::b,hb,h,h1=>by
  have er:rd (d::b) ((e+1:Nat):Int)=rd b (e:Int):=by
   unfold rd;rw[show((e+1:Nat):Int).toNat=e+1 by omega,cu];rfl
  rw[er] at h1 ⊢;have ih:=JM e b (λx hx=>hb x (ek _ hx)) (by rw[dh] at h;omega) h1;show rd b (e:Int)*128^(e+1)<=d%128+128*iG (b.take (e+1))/\d%128+128*iG (b.take (e+1))<(rd b (e:Int)+1)*128^(e+1);rw[vo,<-rz,<-rz];omega
 |0,[],_,h,_=>by simp at h
 |_+1,[],_,h,_=>by simp at h
theorem zB (h:0<=iO b):iO b<b.length/\rd b (iO b)<128/\ ∀j:Int,0<=j->j<iO b-> ¬rd b j<128:=by
 have bc:b.findIdx (λx=>decide (x<128))<b.length:=by
  unfold iO at h;split at h
  ·assumption
  ·omega
 have e:iO b=(b.findIdx (λx=>decide (x<128)):Nat):=by unfold iO;rw[df bc]
 have hp:=El (w:=bc);refine⟨G,?_,λj j0 hj=> ?_⟩
 ·rw [e,fG G G];simpa using hp
 ·have:=Dj (xs:=b) (p:=λx=>decide (x<128)) (i:=j.toNat) G;rw[fG j0 G];simpa using this
theorem aPo: ∀n:Fin 256,n.val<2^Lib.bitLen n.val/\(n.val≠0->2^(Lib.bitLen n.val-1)<=n.val/\1<=Lib.bitLen n.val)/\(n.val=0->Lib.bitLen n.val=0):=by decide+kernel
theorem aKe (h0:0<=d) (h1:d<256):d+1<=(2:Int)^Lib.bitLen d.toNat/\(d≠0->(2:Int)^(Lib.bitLen d.toNat-1)<=d/\1<=Lib.bitLen d.toNat)/\(d=0->Lib.bitLen d.toNat=0):=by
 obtain⟨a,b,c⟩:=aPo ⟨d.toNat,G⟩;have e: ∀k:Nat,(2:Int)^k=((2^k:Nat):Int):=λk=>by norm_cast
 refine⟨by rw[e];simp only at a;omega,λh=> ?_,λh=>c (by simp only;omega)⟩;have:=b (by simp only;omega);rw[e];simp only at this;omega
theorem bAo (e:Nat):(128:Int)^e=2^(7*e):=by
 rw[Int.pow_mul];rfl
theorem aVc (h0:0<=d) (h1:d<256) (hV:V<(d+1)*128^e) (h:7*e+Lib.bitLen d.toNat<=64):V<18446744073709551616:=by
 have hb:=(aKe h0 h1).1;have hp:(0:Int)<=128^e:=vk G;have h2:(d+1)*128^e<=2^Lib.bitLen d.toNat*128^e:=nu hb hp;rw[bAo,<-zu] at h2
 have h3:(2:Int)^(Lib.bitLen d.toNat+7*e)<=2^64:=by
  have:(2:Nat)^(Lib.bitLen d.toNat+7*e)<=2^64:=Er G G
  exact_mod_cast this
 rw[bAo] at hV;have:(2:Int)^64=18446744073709551616:=rfl;omega
theorem bBy (h0:0<=d) (h1:d<256) (he:e<=9) (hV:d*128^e<=V) (h:64<7*e+Lib.bitLen d.toNat):18446744073709551616<=V:=by
 obtain⟨_,hb,hz⟩:=aKe h0 h1;have hd:d≠0:=λc=>by have:=hz c;omega
 obtain⟨h2,h3⟩:=hb hd;have hp:(0:Int)<=128^e:=vk G;have h4:2^(Lib.bitLen d.toNat-1)*128^e<=d*128^e:=nu h2 hp;rw[bAo,<-zu] at h4
 have h5:(2:Int)^64<=2^(Lib.bitLen d.toNat-1+7*e):=by
  have:(2:Nat)^64<=2^(Lib.bitLen d.toNat-1+7*e):=Er G G
  exact_mod_cast this
 rw[bAo] at hV;have:(2:Int)^64=18446744073709551616:=rfl;omega
theorem bBx (hb:aR b) (he:iO b=(e:Int)) (h0:e=0\/rd b (e:Int)≠0) (h7:7*e+Lib.bitLen (rd b (e:Int)).toNat<=64):uR b (iG (b.take (e+1))) (e+1):=by
 obtain⟨f1,f2,f3⟩:=zB (b:=b) G;rw[he] at f1 f2 f3;have hd:=hb.rd (e:Int);have h1:=(aVn e b hb G (λj hj=>by have:=f3 j G G;omega) f2 h0).1;have h2:=JM e b hb G f2;have h3:=aIj _ h1;refine⟨⟨vC _,aVc hd.1 hd.2 h2.2 h7⟩,?_,b.drop (e+1),?_⟩
 ·rw[h3,ax];omega
 ·rw[h3,gu]
theorem aJj: ∀l t:List Int,aCq l->(l++t).findIdx (λx=>decide (x<128))=l.length-1/\0<l.length/\(l.length=1\/rd (l++t) ((l.length-1:Nat):Int)≠0)
 |[],_,h=>h.elim
 | d ::l,t,h=>by
  rcases h with⟨rfl,h0,h1⟩|⟨h0,h1,h2,h3⟩
  ·refine ⟨?_,cD, .inl rfl⟩;rw[jh,List.findIdx_cons,show decide (d<128)=true from nk h1];rfl
  ·obtain ⟨i1,i2,i3⟩:=aJj l t h2;refine⟨?_,cD, .inr ?_⟩
   ·rw [jh,List.findIdx_cons,show decide (d<128)=false from oh G,i1];simp only[dh,cond_false];omega
   ·have er:rd (d::(l++t)) (((l.length-1)+1:Nat):Int)=rd (l++t) ((l.length-1:Nat):Int):=by
     unfold rd;rw[show(((l.length-1)+1:Nat):Int).toNat=(l.length-1)+1 by omega,cu];rfl
    rw[jh,dh,show l.length+1-1=(l.length-1)+1 by omega,er];rcases i3 with i3|i3
    ·intro hz
     match l,i3,h2,h3,hz with
     |[x],_,h2,h3,hz=>
      rw[iG,iG] at h3;have:x=0:=hz;omega
    ·exact i3
theorem aVb (hb:aR b) (h:iO b<0\/9<iO b\/(0<iO b/\rd b (iO b)=0)\/64<7*(iO b).toNat+Lib.bitLen (rd b (iO b)).toNat): ¬ ∃v k,uR b v k:=by
 rintro⟨v,k,⟨To,Tp⟩,rfl,t,ht⟩;have hE:=UG To;obtain⟨i1,i2,i3⟩:=aJj _ t hE;rw[<-ht] at i1 i3;have hlen:(bO v).length<=b.length:=by rw[ht,ah];omega
 have he:iO b=(((bO v).length-1:Nat):Int):=by
  unfold iO;rw[i1,df G]
 have h10:=dV 9 v G;rw[he] at h;rcases h with h|h|⟨h,hz⟩|h
 ·omega
 ·omega
 ·rcases i3 with i3|i3
  ·omega
  ·exact i3 hz
 ·obtain ⟨f1,f2,_⟩:=zB (b:=b) G;rw[he] at f1 f2;have hd:=hb.rd (((bO v).length-1:Nat):Int);have h2:=JM ((bO v).length-1) b hb G f2
  have e1:b.take ((bO v).length-1+1)=bO v:=by
   rw[show(bO v).length-1+1=(bO v).length by omega]
   conv=>lhs;rw[ht]
   exact zi
  rw[e1,JN To] at h2;rw[cu] at h;have:=bBy hd.1 hd.2 G h2.1 h;omega
theorem WK: ∀(l:List Int) (d:Int),iG (l++[d])=d%128*2^(7*l.length)+iG l
 |[],d=>by simp[iG]
 |x::l,d=>by
  rw[jh,iG,iG,WK l d,dh,show 7*(l.length+1)=7*l.length+7 by omega,zu,<-rz];rw[show(2:Int)^7=128 by rfl];omega
theorem zS {q:Nat} (h:q<b.length):iG (b.take (q+1))=rd b (q:Int)%128*2^(7*q)+iG (b.take q):=by
 have e:=dH (j:=(q:Int)) (show(0:Int)<=q by omega) (show(q:Int)<b.length by omega);rw[show((q:Int)+1).toNat=q+1 by omega,cu] at e;rw[e,WK,ax,yu G]
theorem WM {b:List Int}: ∀q:Nat,q<=b.length->iG (b.take q)<2^(7*q)
 |0,_=>by simp[iG]
 |q+1,h=>by
  have ih:=WM (b:=b) q G;rw[zS G,show 7*(q+1)=7*q+7 by omega,zu];have hp:(0:Int)<2^(7*q):=Ej G;have h1:rd b (q:Int)%128*2^(7*q)<=127*2^(7*q):=nu G G;rw[show(2:Int)^7=128 by rfl];omega
theorem WL {b:List Int} {q:Nat}: ∀e:Nat,q<=e->e<=b.length->iG (b.take q)<=iG (b.take e)
 |0,h,_=>by rw[show q=0 by omega];exact lq _
 | e+1,h,hl=>by
  rcases fe e q with c|c
  ·rw[show q=e+1 by omega];exact lq _
  ·have ih:=WL (b:=b) (q:=q) e c G;have hp:(0:Int)<2^(7*e):=Ej G;have h1:0<=rd b (e:Int)%128*2^(7*e):=Ag G G;rw[zS G];omega
end Go.Pure
namespace Go.Eng
open Go Go.RowKit Go.Pure
section
variable {P:Program} {n:Nd} {B:Nat} {w0:World} {L:Env} {R:List Row} {ty:TypeId}
theorem aYg: ∀n:Fin 256,(BitVec.ofInt 8 (n.val:Int) &&& ~~~ BitVec.ofInt 8 128).toNat=n.val%128:=by decide+kernel
theorem XR (p:Int) (h:0<=p/\p<256) (w:World):(Op.intBits .andNot .u8 p 128).run P w= .ok (.int .u8 (p%128)) w:=by
 have e:=aYg ⟨p.toNat,G⟩;simp only at e;rw[show((p.toNat:Nat):Int)=p by omega] at e;show Result.ok (Value.int .u8 (IntKind.u8.wrap ((BitVec.ofInt 8 p &&& ~~~ BitVec.ofInt 8 128).toNat:Int))) w=_;rw[e,nE G G];rw[show((p.toNat%128:Nat):Int)=p%128 by omega]
theorem aKp {x y:Operand} {t u:TypeId} {p:Int} (hx:ev L x=some (.int .u8 p)) (hy:ev L y=some (.int .u8 128)) (h:0<=p/\p<256):Yl P n B w0 (.binOp .andNot t x y u) ty L R (.int .u8 (p%128)):=by
 intro a w o ho _ hs _;simp[execOp,ho,binOp,eqGuard,hs.ev hx,hs.ev hy,XR p h]
theorem bIw {x y:Operand} {t u:TypeId} {p q m:Int} (k:Nat) (hx:ev L x=some (.int .u64 q)) (hy:ev L y=some (.int .u64 (p*m))) (hm:(2:Int)^k=m) (h:0<=p/\p*m+q<18446744073709551616) (hq:0<=q/\q<m):Yl P n B w0 (.binOp .or t x y u) ty L R (.int .u64 (p*m+q)):=by
 intro a w o ho _ hs _;have e:=TN (P:=P) p q k m hm h hq w
 have e2:(Op.intBits .or .u64 q (p*m)).run P w= .ok (.int .u64 (p*m+q)) w:=by
  have c:Op.intBits .or .u64 q (p*m)=Op.intBits .or .u64 (p*m) q:=by
   unfold Op.intBits;simp only[BitVec.or_comm]
  rw[c,e]
 simp[execOp,ho,binOp,eqGuard,hs.ev hx,hs.ev hy,e2]
end
end Go.Eng
namespace Go.Proofs
open Go.Shelf
def Tryz.lays126_ren:Go.Shelf.Ren:=⟨λ|126=>271|n=>n,λ|5=>5|3=>3|9=>9|n=>n,λ|n=>n⟩
theorem Tryz.lays126:Go.Proofs.Lays.n126 Tryz.prog Tryz.lays126_ren:= {
 mixed:=cA
 f126:=Tryz.func271.trans (bq some cA)
 t3:=Bw
 a3:=Gx
 z3:=Fs
 v3:=Co
 t5:=Ea
 a5:=Kb
 z5:=Jd
 v5:=Fa
 t9:=Eb
 a9:=Kc
 z9:=Je
 v9:=Fb}
theorem Tryz.bits_Len8 (x:Int) (w:World) (h0:0<=x) (h1:x<=255):
  Calls Tryz.prog 271 #[.int .u8 x] w λe w'=>e= .returned (.int .i64 (Lib.bitLen x.toNat))/\w'=w:=Any.bits_Len8 Tryz.lays126 x w h0 h1
end Go.Proofs
namespace Go.Proofs.YtdbebmmhdefgdaaGreat
open Go Go.Eng Go.Pure
open Tryz
set_option maxRecDepth 100000
variable {w:World} {lj:Option Addr} {rj ln:Nat} {b:List Int}
theorem aLh {c:Int}:
  Ct Tryz.prog 270 #[.int .u8 c] w.heap.size w [] (λv R'=>v= .bool (decide (c<128))):=by
 refine fn1 Tryz.func270 Z Z Z ?_;refine wq<|wn Z<|wq<|wm Z<|wL Z Z<|wn Z<|bW ?_;refine⟨_,Z,?_⟩;rfl
theorem aVo {w:World} (io:Rd w lj rj ln 1 (ints .u8 b)) (cj:aR b) (hN:b.length<=1000000):
  Ct Tryz.prog 269 #[sl lj rj ln, .func (.func 270) #[] #[]] w.heap.size w [] (λv R'=>v=I (iO b)):=by
 obtain rfl:=io.lenI;refine fn1 Tryz.func269 Z Z Z ?_;have Hi:=io.max;refine wq<|wn Z<|aD<|wq<|wm Z<|wy (aQ af Z)<|wm Z<|aA<|aH ?_;refine jD (λ(i:Int)=>[(0,sl lj b.length ln),(1, .func (.func 270) #[] #[]),(7,I ((b.length:Nat):Int)),(8,I i)]) (λi=>[]) (λi=>(0<=i)/\(i<=b.length)/\(∀j:Int,0<=j->j<i-> ¬rd b j<128)) (λi=>(b.length-i).toNat) ?_ ?_
 ·exact⟨0,⟨G,G,(λj h1 h2=>G)⟩,SA,λ_ h=>h⟩
 intro i ⟨ar,jj,hn⟩;refine wq<|wL Z Z<|aA<|aD<|bF Z (λaq=> ?_) (λaq=> ?_)
 ·have sm:=cj.rd i;refine aL<|aD<|aH<|wq<|wm Z<|wn Z<|wq<|wm Z<|wm Z<|wm Z<|wy (aI af sz5 Z Z (io.c _))<|wy (aW bg Z Z (io.c _)) ?_;refine wa (NU bKy Z Z (Ct.quiet (λw hw=>aLh))) ?_;rintro _ _ ⟨rfl,rfl⟩;refine aA<|bF Z (λce=> ?_) (λce=> ?_)
  ·refine wq<|wm Z<|wn Z<|bW ?_;refine⟨_,Z,?_⟩;exact bq (Value.int .i64) (bCf ar G cF hn).symm
  ·refine aL<|aN<|wA Z Z<|wm Z<|aA ?_
   exact⟨i+1,⟨G,G,(λj h1 h2=>by
     rcases bi j i with h|h
     ·exact hn j h1 h
     ·obtain rfl:j=i:=G
      assumption)⟩,G,SA,λ_ h=>h⟩
 ·refine aY<|wq<|wn Z<|bW ?_;refine⟨_,Z,?_⟩;exact bq (Value.int .i64) (aOg λj h1 h2=>hn j h1 G).symm
theorem bCp {x:Int} (h:0<=x/\x<256):Ct Tryz.prog 271 #[.int .u8 x] w.heap.size w [] (λv R'=>v=I ((Lib.bitLen x.toNat:Nat):Int)):=λw' Mx=>(Tryz.bits_Len8 x w' h.1 G).mono (by rintro e Lz ⟨he,rfl⟩;exact⟨_,[],he,Mx,rfl⟩)
theorem bBz (io:Rd w lj rj ln 1 (ints .u8 b)) (cj:aR b) (hN:b.length<=1000000):
  Ct Tryz.prog 227 #[sl lj rj ln] w.heap.size w [] (λv R'=>(∃(V:Int) (k:Nat),uR b V k/\v= .tuple #[.int .u64 V,I (k:Int),bt])\/((¬ ∃V k,uR b V k)/\v= .tuple #[.int .u64 0,I 0,bf])):=by
 obtain rfl:=io.lenI;refine fn3 Tryz.func227 Z Z Z ?_;have Hi:=io.max;refine wq<|wg Z<|wg Z<|wn Z<|wq<|wm Z<|wa (aF bKz Z (Ct.quiet (λw hw=>aVo ((io.c _) w hw) cj hN))) ?_;rintro _ _ ⟨rfl,rfl⟩;refine wn Z<|aD<|wq<|wm Z<|wL Z Z<|wm Z<|dD 3 [(0,sl lj b.length ln),(2, .int .u64 0),(5,I (iO b)),(15, .bool (decide (((iO b)<0)\/(9<(iO b)))))] [] ?_ ?_
 ·refine bV 12 Z (λaq=> ?_) (λaq=> ?_)
  ·refine aP Z Z Z Z<|aP Z Z Z Z<|wy (bB Z Z)<|aA ?_;exact⟨SA,λ_ h=>h⟩
  ·refine aC Z Z<|wm Z<|aC Z Z<|wy (dJ Z Z)<|wy (aS Z Z)<|aA ?_;exact⟨SA,λ_ h=>h⟩
 refine aA<|bF Z (λce=> ?_) (λce=> ?_)
 ·refine wq<|wg Z<|wg Z<|wn Z<|bW ?_;refine⟨_,_,_,Z,Z,Z,?_⟩;exact .inr ⟨aVb cj G,Z⟩
 ·obtain ⟨e,he⟩: ∃e:Nat,iO b=(e:Int):=⟨(iO b).toNat,G⟩;have hef:=zB (b:=b) G;have hbe:=cj.rd (iO b);have f9:Lib.bitLen (rd b (iO b)).toNat<=8:=Lib.bitLen_le8 ⟨(rd b (iO b)).toNat,G⟩;refine aL<|aD<|wq<|wm Z<|wy (dJ Z Z)<|wm Z<|dD 6 [(0,sl lj b.length ln),(2, .int .u64 0),(5,I (iO b)),(24, .bool (decide ((0<(iO b))/\((rd b (iO b))=0))))] [] ?_ ?_
  ·refine bV 18 Z (λfj=> ?_) (λfj=> ?_)
   ·refine aC Z Z<|wm Z<|aC Z Z<|wm Z<|aC Z Z<|wy (aI af sz5 Z Z (io.c _))<|aC Z Z<|wy (aW bg Z Z (io.c _))<|aC Z Z<|wy (aX Z Z)<|wy (bB Z Z)<|aA ?_;exact⟨SA,λ_ h=>h⟩
   ·refine aP Z Z Z Z<|aP Z Z Z Z<|aP Z Z Z Z<|aP Z Z Z Z<|aP Z Z Z Z<|wy (aS Z Z)<|aA ?_;exact⟨SA,λ_ h=>h⟩
  refine wm Z<|dD 10 [(0,sl lj b.length ln),(2, .int .u64 0),(5,I (iO b)),(35, .bool (decide (((0<(iO b))/\((rd b (iO b))=0))\/(64<((7*(iO b))+((Lib.bitLen (rd b (iO b)).toNat:Nat):Int))))))] [] ?_ ?_
  ·refine bV 25 Z (λkl=> ?_) (λkl=> ?_)
   ·refine aP Z Z Z Z<|aP Z Z Z Z<|aP Z Z Z Z<|aP Z Z Z Z<|aP Z Z Z Z<|aP Z Z Z Z<|aP Z Z Z Z<|aP Z Z Z Z<|aP Z Z Z Z<|wy (bB Z Z)<|aA ?_;exact⟨SA,λ_ h=>h⟩
   ·refine aC Z Z<|wm Z<|aC Z Z<|wy (iV Z Z)<|aC Z Z<|wm Z<|aC Z Z<|wm Z<|aC Z Z<|wy (aI af sz5 Z Z (io.c _))<|aC Z Z<|wy (aW bg Z Z (io.c _))<|aC Z Z<|wa (aF bKx Z (Ct.quiet (λw hw=>bCp (cj.rd _)))) ?_;rintro _ _ ⟨rfl,rfl⟩;refine aC Z Z<|wA Z Z<|aC Z Z<|wy (dJ Z Z)<|wy (aS Z Z)<|aA ?_;exact⟨SA,λ_ h=>h⟩
  refine aA<|bF Z (λmd=> ?_) (λmd=> ?_)
  ·refine wq<|wg Z<|wg Z<|wn Z<|bW ?_;refine⟨_,_,_,Z,Z,Z,?_⟩;exact .inr ⟨aVb cj (by first|exact .inr (.inr (md.imp id λh=>G))|omega),Z⟩
  ·have b5:uR b (iG (b.take (e+1))) (e+1):=by
    rw[he] at md;refine bBx cj he ?_ G;rcases dz e with z|z
    ·exact .inl z
    ·exact .inr λc=>md (.inl ⟨G,c⟩)
   refine aL<|aD<|wq<|wm Z<|wm Z<|wA Z Z<|wy (dO af sz5 Z Z (io.c _))<|wy (aQ af Z)<|wm Z<|aA<|aH ?_;refine dR (λ(q:Nat) (x:Int)=>[(2, .int .u64 x),(5,I (iO b)),(39,sl lj (((iO b)+1).toNat) ln),(40,I ((((iO b)+1).toNat:Nat):Int)),(41,I (q:Int))]) (λq x=>[]) (λq x=>(q<=e+1)/\(x=iG (b.take q))) (λq x=>(e+1-q)) ?_ ?_
   ·exact⟨0,0,⟨G,(Z)⟩,SA,λ_ h=>h⟩
   intro q x ⟨hq,hx⟩;refine wq<|wL Z Z<|aA<|aD<|bF Z (λvt=> ?_) (λvt=> ?_)
   ·have hbq:=cj.rd (q:Int);have n9:rd ((b).take ((iO b)+1).toNat) (q:Int)=rd b (q:Int):=UB G G;have hstp:=zS (b:=b) (q:=q) G;have hmn:=WL (b:=b) (q:=q+1) (e+1) G G;have hvb:=b5.1.2;have hx0:=vC (b.take q);have Ly:x<2^(7*q):=by rw[hx];exact WM q G
    have On:0<=rd b (q:Int)%128*2^(7*q):=Ag G (vk G);have Tl:0<=rd b (q:Int)%128*2^(7*q)/\rd b (q:Int)%128*2^(7*q)<18446744073709551616:=⟨On,G⟩;refine aL<|aD<|aH<|wq<|wm Z<|wy (aI af sz5 Z Z (RdC.toI (h:=((iO b)+1).toNat) (io.c _) G))<|wy (aW bg Z Z (RdC.toI (h:=((iO b)+1).toNat) (io.c _) G))<|wg Z<|wn Z<|aN<|wm Z<|wm Z<|wy (aKp Z Z (by rw[n9];exact hbq)) ?_;refine wy (gI bg dx Z)<|wm Z<|wy (Yl.is (iV Z Z) (show Value.int .i64 (7*(q:Int))=Value.int .i64 ((7*q:Nat):Int) by simp))<|wy (uT (k:=7*q) (m:=2^(7*q)) rfl rfl rfl (by rw[n9];exact Tl) (Nat.ble_eq_true_of_le G)) ?_;refine wy (bIw (p:=(rd ((b).take ((iO b)+1).toNat) (q:Int))%128) (m:=2^(7*q)) (7*q) Z Z Z (by rw[n9];exact⟨G,G⟩) ⟨G,Ly⟩) ?_;refine wn Z<|aN<|wA Z Z<|wm Z<|aA ?_;exact⟨(q+1),(rd ((b).take ((iO b)+1).toNat) (q:Int))%128*2^(7*q)+x,⟨G,(by rw[n9,zS G,<-hx])⟩,G,SA,λ_ h=>h⟩
   ·refine aY<|wq<|wm Z<|wm Z<|wA Z Z<|wg Z<|wg Z<|wn Z<|bW ?_;refine⟨_,_,_,Z,Z,Z,?_⟩;have eq:q=e+1:=G
    subst eq;subst hx;exact .inl ⟨_,e+1,b5,by rw[he];rfl⟩
theorem WV {w:World} {ap:Option Addr} {aw ao:Nat} {u:List Int} {i:Int} (al:Rd w ap aw ao 1 (ints .u8 u)) (hi:0<=i/\i<=u.length) (hN:u.length<=1000000):
  Ct Tryz.prog 93 #[sl ap aw ao,I i] w.heap.size w [] (λv R'=> ∃A c,v=sl A (u.drop i.toNat++u.take i.toNat).length c/\R'=[(ru 5 A ((u.drop i.toNat++u.take i.toNat).length) c (u.drop i.toNat++u.take i.toNat))]):=by
 obtain rfl:=al.lenI;refine fn1 Tryz.func93 Z Z Z ?_;have mj:=al.max;refine wq<|wn Z<|aD<|bP mixed<|wD 1 Z (aM Z)<|wD 2 Z (aM Z)<|wD 3 Z (dK af sz5 Z Z)<|wD 5 Z (aM Z)<|wD 6 Z (aM Z)<|wD 7 Z (dO af sz5 Z Z (al.c _))<|wC 0 Z (bL .u8 [] af zs5 Z Z Z) ?_;rintro _ _ ⟨cm,rfl,rfl⟩;refine⟨.inr λ_ h=>h.right (R':=[_]),?_⟩;refine wC 4 Z (aV 0 Z af zb5 Z Z Z (RdC.fromI (al.c _) G)) ?_;rintro _ _ ⟨ff,fh,rfl,rfl⟩;refine⟨.inl cA,?_⟩;refine iJ (v:=sl ff (0+(u.length-(i).toNat)) fh) Z<|wC 8 Z (aV 0 Z af zb5 Z Z Z (RdC.toI (al.c _) G)) ?_;rintro _ _ ⟨fb,kt,rfl,rfl⟩;refine⟨.inl cA,?_⟩;refine iJ (v:=sl fb ((0+(u.length-(i).toNat))+((i).toNat)) kt) Z<|wD 9 Z (bG Z)<|wN<|aT [0] 99 cC Z ?_;refine⟨_,Z,?_⟩;have e:(0+(u.length-i.toNat)+i.toNat)=(u.drop i.toNat++u.take i.toNat).length:=by rw[ah,ay,ax];omega
 simp only[je,e];exact⟨_,_,Z,Z⟩
end Go.Proofs.YtdbebmmhdefgdaaGreat
namespace Go.Pure
open Go Go.Eng
theorem RZ: ∀ {a b:List Int},a.length=b.length->(cmpL a b<0↔ ∃d,d<a.length/\(∀e,e<d->lt a e=lt b e)/\lt a d<lt b d)
 |[],[],_=>by simp[cmpL]
 | x::a,y::b,h=>by
  have ih:=RZ (a:=a) (b:=b) (by simpa using h);rw[cmpL];rcases jd x y with c|c|c
  ·rw [df c];exact⟨λ_=>⟨0,cD,λe he=>G,c⟩,λ_=>G⟩
  ·subst c;rw[bu G,bu G,ih];constructor
   ·rintro ⟨d,h1,h2,h3⟩;refine⟨d+1,by simpa using h1,λe he=> ?_,h3⟩;cases e with
    |zero=>rfl
    |succ e=>exact h2 e G
   ·rintro ⟨d,h1,h2,h3⟩;cases d with
    |zero=>exact absurd h3 (by simp[lt])
    |succ d=>exact⟨d,by simpa using h1,λe he=>h2 (e+1) G,h3⟩
  ·rw [bu G,df c];refine⟨λh=>G,?_⟩;rintro⟨d,h1,h2,h3⟩;cases d with
   |zero=>have:x<y:=h3;omega
   |succ d=>have:x=y:=h2 0 G;omega
section
variable {s:List Int}
def rot (s:List Int) (r d:Nat):Int:=om s (r+d)
def yA (s:List Int) (r:Int):List Int:=s.drop r.toNat++s.take r.toNat
theorem xB (s:List Int) (r:Int):(yA s r).length=s.length:=by unfold yA;rw[ah,ay,ax];omega
theorem oK {r d:Nat} (hr:r<=s.length) (hd:d<s.length):lt (yA s r) d=rot s r d:=by
 unfold yA lt rot om;rw[cu];rcases fe (r+d) s.length with g|g
 ·rw[ai,ji (by rw[ay];omega),ql,lc g,<-ai]
 ·rw[ai,ig (by rw[ay];omega),ay,ou G,show(r+d)%s.length=d-(s.length-r) by rw[zk g,lc G];omega,<-ai]
theorem aHy (r:Nat):Per (rot s r) s.length:=λd=>by
 unfold rot;rw[<-mr];exact rJ s _
theorem aZt (r:Nat):rot s (r%s.length)=rot s r:=by
 funext d;unfold rot om;rw[Nat.mod_add_mod]
theorem XW {r q:Nat} (hn:0<s.length) (h: ∀d,d<s.length->rot s r d=rot s q d):rot s r=rot s q:=by
 funext d;rw[<-(aHy r).mod d,<-(aHy q).mod d];exact h _ (yw _ hn)
theorem aRu {r q:Nat} (hr:r<=s.length) (hq:q<=s.length):cmpL (yA s r) (yA s q)<0↔Lt (rot s r) (rot s q):=by
 rw[RZ (by rw[xB,xB]),xB];constructor
 ·rintro ⟨d,h1,h2,h3⟩;refine⟨d,λe he=> ?_,?_⟩
  ·rw[<-oK hr G,<-oK hq G];exact h2 e he
  ·rw[<-oK hr h1,<-oK hq h1];exact h3
 ·rintro ⟨d,h2,h3⟩;rcases fe d s.length with g|g
  ·refine ⟨d,g,λe he=> ?_,?_⟩
   ·rw[oK hr G,oK hq G];exact h2 e he
   ·rw[oK hr g,oK hq g];exact h3
  ·exfalso;rcases dz s.length with z|z
   ·have: ∀r d,rot s r d=0:=λr d=>by
     unfold rot om;rw[ed z];rfl
    rw[this,this] at h3;omega
   ·have:=XW z λe he=>h2 e G;rw[this] at h3;omega
structure FL (s:List Int) (b:Nat):Prop where
 lt:b<s.length
 le: ∀r,r<s.length-> ¬Lt (rot s r) (rot s b)
 first: ∀r,r<b->Lt (rot s b) (rot s r)
theorem FL.any {b:Nat} (h:FL s b) (r:Nat): ¬Lt (rot s r) (rot s b):=by
 rw[<-aZt r];exact h.le _ (yw _ (by have:=h.lt;omega))
theorem FL.one {b c:Nat} (h:FL s b) (g:FL s c):b=c:=by
 rcases xx b c with a|a|a
 ·exact absurd (g.first b a) (h.any c)
 ·exact a
 ·exact absurd (h.first c a) (g.any b)
def rA (s:List Int):Nat->Nat
 |0=>0
 |r+1=>if cmpL (yA s r) (yA s (rA s r))<0 then r else rA s r
theorem ZQ: ∀n:Nat,0<n->n<=s.length->rA s n<n/\(∀r,r<n-> ¬Lt (rot s r) (rot s (rA s n)))/\ ∀r,r<rA s n->Lt (rot s (rA s n)) (rot s r)
 | 1,_,h=>by
  have e:rA s 1=0:=by
   rw[rA,rA];split<;>rfl
  rw[e];exact⟨G,λr hr=>by obtain rfl:r=0:=G;exact λh=>h.asymm h,λr hr=>G⟩
 | n +2,_,h=>by
  have ih:=ZQ (n+1) G G;rw[rA];split
  ·rename_i c;rw[aRu G G] at c;refine⟨G,λr hr=> ?_,λr hr=> ?_⟩
   ·rcases fe r (n+1) with g|g
    ·exact λbc=>ih.2.1 r g (bc.trans c)
    ·obtain rfl:r=n+1:=G
     exact λh=>h.asymm h
   ·rcases EP (rot s (n+1)) (rot s r) with a|a|a
    ·exact a
    ·exact absurd (by rw[<-funext a];exact c) (ih.2.1 r hr)
    ·exact absurd (a.trans c) (ih.2.1 r hr)
  ·rename_i c;rw[aRu G G] at c;refine⟨G,λr hr=> ?_,ih.2.2⟩;rcases fe r (n+1) with g|g
   ·exact ih.2.1 r g
   ·obtain rfl:r=n+1:=G
    exact c
def rO (s:List Int):Int:=rA s s.length
theorem UQ (hn:0<s.length):FL s (rA s s.length):=by
 have h:=ZQ (s:=s) s.length hn (di _);exact⟨h.1,h.2.1,h.2.2⟩
theorem bBo (s:List Int):0<=rO s/\rO s<=s.length/\(0<s.length->rO s<s.length):=by
 unfold rO;rcases dz s.length with z|z
 ·rw[z];exact⟨G,by show((0:Nat):Int)<=_;omega,λh=>G⟩
 ·have:=(UQ z).lt;omega
structure LA (s:List Int) (b:Nat) (i j k:Int):Prop where
 i0:0<=i
 j0:0<=j
 k0:0<=k
 ne:i≠j
 agr: ∀e:Nat,(e:Int)<k->rot s i.toNat e=rot s j.toNat e
 hb:(b:Int)=i\/(b:Int)=j\/(i<b/\j<b)
theorem LA.init (b:Nat):LA s b 0 1 0:=⟨G,G,G,G,λe he=>G,G⟩
variable {b:Nat} {i j k:Int}
theorem LA.swap (h:LA s b i j k):LA s b j i k:=⟨h.j0,h.i0,h.k0,h.ne.symm,λe he=>(h.agr e he).symm,by have:=h.hb;omega⟩
theorem LA.eq (h:LA s b i j k) (he:rot s i.toNat k.toNat=rot s j.toNat k.toNat):LA s b i j (k+1):=
 ⟨h.i0,h.j0,by have:=h.k0;omega,h.ne,λe he'=>by
  rcases bi e k with g|g
  ·exact h.agr e g
  ·have:=h.k0;obtain rfl:e=k.toNat:=G
   exact he,h.hb⟩
theorem LA.out (h:LA s b i j k) (fl:FL s b) (vf:rot s j.toNat k.toNat<rot s i.toNat k.toNat): ¬(i<=b/\(b:Int)<=i+k):=λhc=>by
 have i0:=h.i0;have k0:=h.k0;obtain⟨t,ht⟩: ∃t:Nat,b=i.toNat+t:=⟨b-i.toNat,G⟩;refine fl.any (j.toNat+t) ⟨k.toNat-t,λe he=> ?_,?_⟩
 ·have:=h.agr (t+e) G;unfold rot at this ⊢;rw[ht,mr,mr];exact this.symm
 ·unfold rot at vf ⊢;rw[ht,mr,mr,show t+(k.toNat-t)=k.toNat by omega];exact vf
theorem LA.gt (h:LA s b i j k) (fl:FL s b) (vf:rot s j.toNat k.toNat<rot s i.toNat k.toNat):(i+(k+1)≠j->LA s b (i+(k+1)) j 0)/\(i+(k+1)=j->LA s b (i+(k+1)) (j+1) 0):=by
 have ho:=h.out fl vf;have hb:=h.hb;have i0:=h.i0;have j0:=h.j0;have k0:=h.k0;exact⟨λdv=>⟨G,j0,G,dv,λe he=>G,G⟩,λhe=>⟨G,G,G,G,λe he=>G,G⟩⟩
theorem LA.lt (h:LA s b i j k) (fl:FL s b) (bc:rot s i.toNat k.toNat<rot s j.toNat k.toNat):(i≠j+(k+1)->LA s b i (j+(k+1)) 0)/\(i=j+(k+1)->LA s b i (j+(k+1)+1) 0):=by
 have ho:=h.swap.out fl bc;have hb:=h.hb;have i0:=h.i0;have j0:=h.j0;have k0:=h.k0;exact⟨λdv=>⟨i0,G,G,dv,λe he=>G,G⟩,λhe=>⟨G,G,G,G,λe he=>G,G⟩⟩
theorem LA.same (h:LA s b i j k) (fl:FL s b) (hn:(s.length:Int)<=k):min i j=b:=by
 have i0:=h.i0;have j0:=h.j0;have bc:=fl.lt;have he:rot s i.toNat=rot s j.toNat:=XW G λd hd=>h.agr d G;have dv:=h.ne;have no: ∀x:Nat,x<b->rot s x≠rot s b:=λx hx e=>(fl.first x hx).not_eq λd=>by rw[e]
 rcases h.hb with e|e|⟨e1,e2⟩
 ·rcases bi j i with g|g
  ·exact absurd (by rw[show b=i.toNat by omega];exact he.symm) (no j.toNat G)
  ·omega
 ·rcases bi i j with g|g
  ·exact absurd (by rw[show b=j.toNat by omega];exact he) (no i.toNat G)
  ·omega
 ·exfalso
  have key: ∀lo hi:Nat,lo<hi->hi<b->rot s lo=rot s hi->False:=λlo hi h1 h2 e=>by
   refine no (lo+(b-hi)) G ?_;funext d;have:=congrFun e ((b-hi)+d);unfold rot at this ⊢;rw[mr,this];congr 1;omega
  rcases bi i j with g|g
  ·exact key i.toNat j.toNat G G he
  ·exact key j.toNat i.toNat G G he.symm
theorem LA.done (h:LA s b i j k) (fl:FL s b) (hc: ¬(i<s.length/\j<s.length/\k<s.length)):min i j=b:=by
 have hb:=h.hb;have bc:=fl.lt;have dv:=h.ne;by_cases hk:(s.length:Int)<=k
 ·exact h.same fl hk
 ·omega
theorem aRt {i k:Int} (i0:0<=i) (k0:0<=k):rd s ((i+k)%s.length)=rot s i.toNat k.toNat:=by
 have:=LG s (i.toNat+k.toNat);rw[show((i.toNat+k.toNat:Nat):Int)=i+k by omega] at this;exact this
end
end Go.Pure
namespace Go.Proofs.YtdbebmmhdefgdaaGreat
open Go Go.Eng Go.Pure
open Tryz
set_option maxRecDepth 100000
variable {u:List Int} {w:World} {ws:List (List Int)}
theorem LA.init0:LA u (rA u u.length) 0 1 0:=LA.init _
set_option maxHeartbeats 800000 in
theorem bIc {ap:Option Addr} {aw ao:Nat} (al:Rd w ap aw ao 1 (ints .u8 u)) (hN:u.length<=1000000):
  Ct Tryz.prog 190 #[sl ap aw ao] w.heap.size w [] (λv R'=>v=I (rO u)):=by
 obtain rfl:=al.lenI;refine fn1 Tryz.func190 Z Z Z ?_;have mj:=al.max;refine wq<|wn Z<|wq<|wm Z<|wy (aQ af Z)<|wn Z<|wq<|wg Z<|wg Z<|wg Z ?_;refine aA<|aD<|aH ?_;refine gG (λ(i:Int) (j:Int) (k:Int)=>[(0,sl ap u.length ao),(3,I ((u.length:Nat):Int)),(4,I i),(5,I j),(6,I k)]) (λi j k=>[]) (λi j k=>(LA u (rA u u.length) i j k)/\(i<=2*u.length+2)/\(j<=2*u.length+3)/\(k<=u.length)/\(u.length=0->i=0/\j=1)) (λi j k=>(3*u.length+3-(i+j+k)).toNat) ?_ ?_
 ·exact⟨0,1,0,⟨(LA.init0),G,G,G,G⟩,SA,λ_ h=>h⟩
 intro i j k ⟨w4,s9,hjb,hkb,hz⟩;have ar:=w4.i0;have tz:=w4.j0;have li:=w4.k0;refine aD<|wq<|wm Z<|wm Z<|wL Z Z<|wm Z<|dD 4 [(0,sl ap u.length ao),(3,I ((u.length:Nat):Int)),(4,I i),(5,I j),(6,I k),(18, .bool (decide ((i<((u.length:Nat):Int))/\(j<((u.length:Nat):Int)))))] [] ?_ ?_
 ·refine bV 14 Z (λaq=> ?_) (λaq=> ?_)
  ·refine aC Z Z<|wm Z<|aC Z Z<|wm Z<|aC Z Z<|wL Z Z<|wy (bB Z Z)<|aA ?_;exact⟨SA,λ_ h=>h⟩
  ·refine aP Z Z Z Z<|aP Z Z Z Z<|aP Z Z Z Z<|wy (aS Z Z)<|aA ?_;exact⟨SA,λ_ h=>h⟩
 refine wm Z<|dD 4 [(0,sl ap u.length ao),(3,I ((u.length:Nat):Int)),(4,I i),(5,I j),(6,I k),(23, .bool (decide (((i<((u.length:Nat):Int))/\(j<((u.length:Nat):Int)))/\(k<((u.length:Nat):Int)))))] [] ?_ ?_
 ·refine bV 19 Z (λce=> ?_) (λce=> ?_)
  ·refine aC Z Z<|wm Z<|aC Z Z<|wm Z<|aC Z Z<|wL Z Z<|wy (bB Z Z)<|aA ?_;exact⟨SA,λ_ h=>h⟩
  ·refine aP Z Z Z Z<|aP Z Z Z Z<|aP Z Z Z Z<|wy (aS Z Z)<|aA ?_;exact⟨SA,λ_ h=>h⟩
 refine aA<|bF Z (λfj=> ?_) (λfj=> ?_)
 ·have na:=ko (i+k) (show(u.length:Int)≠0 by omega);have Po:=ja (i+k) (show(0:Int)<u.length by omega);have hm3:=ko (j+k) (show(u.length:Int)≠0 by omega);have hm4:=ja (j+k) (show(0:Int)<u.length by omega);have fl:=UQ (s:=u) G;have ei:=aRt (s:=u) w4.i0 w4.k0;have ej:=aRt (s:=u) w4.j0 w4.k0;refine aL<|aH<|aD<|bP mixed<|wD 0 Z (aM Z)<|wD 1 Z (aM Z)<|wD 2 Z (aM Z)<|wD 3 Z (dG Z Z)<|wD 4 Z (aM Z)<|wD 5 Z (uN Z Z)<|wD 6 Z (aI af sz5 Z Z (al.c _))<|wD 7 Z (aW bg Z Z (al.c _))<|wD 8 Z (aM Z)<|wD 9 Z (aM Z)<|wD 10 Z (aM Z) ?_;refine wD 11 Z (dG Z Z)<|wD 12 Z (aM Z)<|wD 13 Z (uN Z Z)<|wD 14 Z (aI af sz5 Z Z (al.c _))<|wD 15 Z (aW bg Z Z (al.c _))<|wD 16 Z (bG Z)<|wD 17 Z (bG Z)<|wN<|aD<|aH<|wq<|wm Z<|wm Z<|wy (aX Z Z) ?_;refine wn Z<|bF Z (λkl=> ?_) (λkl=> ?_)
  ·have gv:=w4.eq (by rw[<-ei,<-ej];exact kl);refine wq<|wm Z<|wA Z Z<|wn Z<|aY ?_;exact⟨i,j,k+1,⟨(gv),G,G,G,G⟩,G,SA,λ_ h=>h⟩
  ·refine wq<|wm Z<|wm Z<|wy (dJ Z Z)<|wn Z<|bF Z (λmd=> ?_) (λmd=> ?_)
   ·have gv:=w4.gt fl (by rw[<-ei,<-ej];exact md);refine aN<|wm Z<|wm Z<|wA Z Z<|wA Z Z<|wn Z<|wq<|wn Z<|wq<|wm Z<|wm Z ?_;refine wy (aX Z Z)<|aA<|bF Z (λvt=> ?_) (λvt=> ?_)
    ·refine aN<|wm Z<|wA Z Z<|wn Z ?_;exact⟨i+(k+1),j+1,0,⟨(gv.2 G),G,G,G,G⟩,G,SA,λ_ h=>h⟩
    ·refine aL ?_;exact⟨i+(k+1),j,0,⟨(gv.1 G),G,G,G,G⟩,G,SA,λ_ h=>h⟩
   ·have gv:=w4.lt fl (by rw[<-ei,<-ej];omega);refine aN<|wm Z<|wm Z<|wA Z Z<|wA Z Z<|wn Z<|wq<|wn Z<|wq<|wm Z<|wm Z ?_;refine wy (aX Z Z)<|aA<|bF Z (λz7=> ?_) (λz7=> ?_)
    ·refine aN<|wm Z<|wA Z Z<|wn Z ?_;exact⟨i,(j+(k+1))+1,0,⟨(gv.2 G),G,G,G,G⟩,G,SA,λ_ h=>h⟩
    ·refine aL ?_;exact⟨i,j+(k+1),0,⟨(gv.1 G),G,G,G,G⟩,G,SA,λ_ h=>h⟩
 ·refine aY<|wq<|wm Z<|wm Z<|wy (rV Z Z)<|wn Z<|bW ?_;refine⟨_,Z,?_⟩;rcases dz u.length with z|z
  ·obtain ⟨rfl,rfl⟩:=hz z;have e:rO u=0:=by unfold rO;rw[z];rfl
   rw[e];rfl
  ·exact bq (Value.int .i64) (w4.done (UQ z) G)
theorem aVa {m:Int} (h0:0<=m) (hN:m<=1000000):
  Ct Tryz.prog 70 #[sl none 0 0,I m] w.heap.size w [] (λv R'=> ∃A c,v=sl A 0 c/\R'=[(ru 5 A 0 c ([]))]):=by
 refine fn1 Tryz.func70 Z Z Z ?_;refine wq<|dB (R1:=[(ru 5 none 0 0 ([]))]) (Sub.refl _) (λ_ h=>h.nil 5 1)<|wn Z<|aD<|wq<|wm Z<|wy (Yl.f (eG Z Z))<|aA<|aJ Z<|aL<|aD<|aD ?_;refine aN<|wm Z<|wm Z<|wy (bDp af Z)<|wm Z<|wy (aQ af Z)<|wS Z Z<|wS Z Z<|wn Z<|wq<|wm Z<|wy (dJ Z Z)<|aA ?_;refine bF Z (λaq=> ?_) (λaq=> ?_)
 ·refine aN<|wm Z<|wm Z<|wy (bDp af Z)<|wy (WF af sz5 Z Z)<|wy (Yl.is (aM Z) (by rw[show m-(((0:Nat):Int)-((0:Nat):Int))=((m.toNat:Nat):Int) by omega])) ?_;refine wa (bDf af ak zb5 Z Z Z G G G) ?_;rintro _ _ ⟨an,bl,rfl,rfl⟩;refine dB (R1:=[(ru 5 (GG an) 0 bl ([])),(ru 5 none 0 0 ([]))]) (Sub.refl _) (λ_ h=>h.cut (k:=0) (uf _) cD) ?_;refine wm Z<|wy (aQ af Z)<|wy (WF af sz5 Z Z)<|wn Z<|wq<|wm Z<|wn Z<|aT [0] 99 cC Z ?_;refine⟨_,Z,?_⟩;exact⟨_,_,Z,Z⟩
 ·refine aL<|wq<|wm Z<|wn Z<|aT [0] 99 cC Z ?_;refine⟨_,Z,?_⟩;exact⟨_,_,Z,Z⟩
theorem IY (i:Nat):((ws.take i).flatten).length<=ws.flatten.length:=by
 conv=>rhs;rw[<-gu i ws]
 rw[qg,ah];omega
set_option maxHeartbeats 800000 in
theorem kI {ft:Option Addr} {lf gd:Nat} {dj:List Value} (gh:Rd w ft lf gd 1 dj) (mc:SlW .u8 w dj ws) (hN:ws.flatten.length<=1000000/\ws.length<=1000000):
  Ct Tryz.prog 38 #[sl ft lf gd] w.heap.size w [] (λv R'=> ∃A c,v=sl A (ws.flatten).length c/\R'=[(ru 5 A ((ws.flatten).length) c (ws.flatten))]):=by
 obtain rfl:lf=ws.length:=by have:=gh.len;have:=mc.1;omega
 refine fn1 Tryz.func38 Z Z Z ?_;have Hj:=gh.max;refine wq<|wn Z<|wq<|wn Z<|aD<|wq<|wm Z<|wy (aQ dm Z)<|wm Z<|aA ?_;refine aH ?_;refine dR (λ(i:Int) (z:Int)=>[(0,sl ft ws.length gd),(3,I z),(9,sl ft ws.length gd),(10,I ((ws.length:Nat):Int)),(11,I i)]) (λi z=>[]) (λi z=>(0<=i)/\(i<=ws.length)/\(z=((ws.take i.toNat).flatten.length:Int))) (λi z=>(ws.length-i).toNat) ?_ ?_
 ·exact⟨0,0,⟨G,G,(Z)⟩,SA,λ_ h=>h⟩
 intro i z ⟨ar,jj,hz⟩;have tx:=IY (ws:=ws) i.toNat;refine wq<|wL Z Z<|aA<|aD<|bF Z (λaq=> ?_) (λaq=> ?_)
 ·have Oa:=IY (ws:=ws) (i+1).toNat;rw[jJ ar G,ah] at Oa;refine aL<|aD<|aH<|wq<|wy (aI dm dA Z Z (gh.c _)) ?_;refine mc.elim (i:=i) G G (λbm bl Hc Fk Nt Mz=> ?_);refine wy (qV af Z Z Z (gh.c _) Hc)<|wn Z<|wq<|wm Z<|wm Z<|wy (aQ af Z)<|wA Z Z<|wn Z<|wq<|wm Z<|wy (Yl.f (eG Z Z)) ?_;refine aA<|aJ Z<|aL<|aN<|wA Z Z<|wm Z<|aA ?_;exact⟨i+1,z+(((rdl ws i).length:Nat):Int),⟨G,G,(by rw[jJ ar G,ah,hz];omega)⟩,G,SA,λ_ h=>h⟩
 ·refine aY<|wq<|wm Z<|wa (aF bOr Z (Ct.fresh (λw hw=>aVa G G))) ?_;rintro _ _ ⟨_,rfl,en,kj,rfl,rfl⟩;refine wn Z<|aD<|wq<|wm Z<|wy (aQ dm Z)<|wm Z<|aA<|aH ?_;refine fH (λ(q:Int) (A1:Option Addr) (n1:Nat) (c1:Nat) (acc:List Int)=>[(6,sl A1 n1 c1),(25,sl ft ws.length gd),(26,I ((ws.length:Nat):Int)),(27,I q)]) (λq A1 n1 c1 acc=>[(ru 5 A1 n1 c1 acc)]) (λq A1 n1 c1 acc=>(0<=q)/\(q<=ws.length)/\(n1=acc.length)/\(acc=(ws.take q.toNat).flatten)) (λq A1 n1 c1 acc=>(ws.length-q).toNat) ?_ ?_
  ·exact⟨0,en,0,kj,[],⟨G,G,(Z),(Z)⟩,SA,λ_ h=>h⟩
  intro q A1 n1 c1 acc ⟨kf,yp,co,ba⟩;have tk:acc.length<=ws.flatten.length:=by rw[ba];exact IY _
  refine wq<|wL Z Z<|aA<|aD<|bF Z (λce=> ?_) (λce=> ?_)
  ·have Oa:=IY (ws:=ws) (q+1).toNat;rw[jJ kf G,ah] at Oa;refine aL<|aD<|aH<|wq<|wy (aI dm dA Z Z (gh.c _)) ?_;refine mc.elim (i:=q) G G (λkh mn Tq Tb hb_12 Zp=> ?_);refine wy (qV af Z Z Z (gh.c _) Tq)<|wn Z<|aN<|wm Z<|wm Z<|wa (aV 0 Z af zb5 Z Z Z (Tb.c _)) ?_;rintro _ _ ⟨ia,ie,rfl,rfl⟩;refine bK (v:=sl ia (n1+((rdl ws q).length)) ie) Z<|wn Z<|aN<|wA Z Z<|wm Z<|aA ?_;exact⟨q+1,ia,n1+((rdl ws q).length),ie,acc++(rdl ws q),⟨G,G,(by rw[ah,co]),(by rw[jJ kf G,ba])⟩,G,SA,λ_ h=>h⟩
  ·refine aY<|wq<|wm Z<|wn Z<|aT [0] 99 cC Z ?_;refine⟨_,Z,?_⟩;rw[bn G] at ba;subst ba;obtain rfl:=co;exact⟨_,_,Z,Z⟩
end Go.Proofs.YtdbebmmhdefgdaaGreat
namespace Go.Eng
open Go Go.RowKit Go.Proofs Go.Sort
theorem aAe {W w':World} (hb:Below W.heap.size W w') (hd:W.drawn<=w'.drawn): ∃q os,w'=grow (W.drewN q) os:=by
 refine⟨w'.drawn-W.drawn,w'.heap.extract W.heap.size w'.heap.size,?_⟩
 have hh:W.heap++w'.heap.extract W.heap.size w'.heap.size=w'.heap:=by
  apply Array.ext_getElem?;intro k;rw[Bb];split
  ·rename_i hk;exact(hb.block k hk).symm
  ·rename_i hk;have:=hb.size;rw[Array.getElem?_extract];split
   ·congr 1;omega
   ·rename_i h2;rw[yx G]
 obtain⟨h1,h2,h3,h4,h5⟩:=w';obtain⟨g1,g2,g3,g4,g5⟩:=W;have b1:=hb.os;have b2:=hb.tape;have b3:=hb.output;simp only at b1 b2 b3 hh hd;subst b1;subst b2;subst b3;simp only[grow,World.drewN,hh,World.mk.injEq,Ak,Au];omega
section
variable {P:Program} {B:Nat} {w0:World} {R:List Row}
def aKm (P:Program) (f g:Nat) (cb:Array Value):Prop:=
 ∀(α:Type) [Inhabited α] (enc:α->List Value) (_: ∀x,(enc x).length=2) (_: ∀x,∀v∈enc x,v.oneCell'=true) (cf:α->α->Int) (_:SWO (ltOf cf)) (gi off cap:Nat) (d:Array α) (w:World)
  (_:CmpLays P g cb enc 2 cf gi off d.size w) (_:HoldsK enc 2 w gi off d) (_:gi<w.heap.size) (_:d.size<4611686018427387904),
  Calls P f #[.slice (some ⟨gi,off,none⟩) d.size cap, .func (.func g) #[] cb] w λe w'=>e= .returned (.tuple #[])/\ ∃d' n os,PermIn 0 d.size d d'/\SortedIn (ltOf cf) 0 d.size d'/\w'=sortWorldK enc 2 w gi off n d' os
theorem Hp.but {w W:World} (h:Hp B w0 w R) {i:Nat} {r:Row} (hi:R[i]? =some r) (ho:W.os=w.os) (ht:W.tape=w.tape) (hu:W.output=w.output) (hd:w.drawn<=W.drawn) (hs:w.heap.size<=W.heap.size)
  (hk: ∀k,k<w.heap.size->(∀a,r.A=some a->a.block≠k)->W.heap[k]? =w.heap[k]?):Hp B w0 W (R.eraseIdx i):=by
 have hr:r∈R:=gm hi;refine⟨⟨ho.trans h.below.os,ht.trans h.below.tape,hu.trans h.below.output,qp h.below.size hs,λk hkB=> ?_⟩,qp h.base hs,λq hq=> ?_,h.apart.sublist (List.eraseIdx_sublist _ _),h.late.trans ⟨hd,λk o ob hc=> ?_⟩⟩
 ·rw[hk k (Nat.lt_of_lt_of_le hkB h.base) (λa ha=>by have:=(Row.lies_lt (h.own r hr) a ha).1;omega),h.below.block k hkB]
 ·obtain ⟨j,hj⟩:=List.mem_iff_getElem?.1 hq
  obtain⟨j',wx,dv⟩: ∃j',R[j']? =some q/\j'≠i:=by
   rw[List.getElem?_eraseIdx] at hj;split at hj
   ·exact⟨j,hj,G⟩
   ·exact⟨j+1,hj,G⟩
  refine Row.lies_of_block (h.own q (gm wx)) λa ha=>hk a.block (Row.lies_lt (h.own q (gm wx)) a ha).2 λa' nc=> ?_;have n7:=(dw.1 wx).1;have Sh:=(dw.1 wx).2;have Xu:=(dw.1 hi).1;have e8:=(dw.1 hi).2;rcases Cq dv with bc|bc
  ·have:=dn.1 h.apart j' i n7 Xu bc;rw[Sh,e8] at this;exact λe=>this a a' ha nc e.symm
  ·have:=dn.1 h.apart i j' Xu n7 bc;rw[Sh,e8] at this;exact this a' a nc ha
 ·rw [hk k (fo.1 ob).1 λa ha e=> ?_]
  ·exact ob
  ·subst e;obtain⟨cs,e',fr,ce⟩:=Row.lies_cells (h.own r hr) ha;rw[ce] at ob;cases ob;cases hc
theorem aDm {f g:Nat} {cb:Array Value} (Wu:aKm P f g cb) {T m c:Nat} {A:Option Addr} {l:List (Int × Int)} (i:Nat) (hi:R[i]? =some ⟨T,2,A,m,c,prs l,false⟩) (dv:l≠[]) (hsz:l.length<4611686018427387904) (cmp:Int × Int->Int × Int->Int) (hO:SWO (ltOf cmp))
  (Nv: ∀W,Hp B w0 W (R.eraseIdx i)-> ∀x∈l,∀y∈l,
   Ct P g (#[.agg #[.int .i64 x.1, .int .i64 x.2], .agg #[.int .i64 y.1, .int .i64 y.2]]++cb) W.heap.size W [] (λv _=>v= .int .i64 (cmp x y))):
  Ct P f #[.slice A m c, .func (.func g) #[] cb] B w0 R (λv R'=>v= .tuple #[]/\ ∃l',l'.Perm l/\l'.Pairwise (λx y=> ¬cmp y x<0)/\R'=R.set i ⟨T,2,A,m,c,prs l',false⟩):=by
 intro w hw;have gr:=Row.lies_w (hw.own _ (gm hi)) rfl;have ij:=Row.rd (hw.own _ (gm hi))
 have hm:m=l.length:=by
  have:=ij.len;rw[iX] at this;simp only at this;omega
 have ee:0<l.length:=List.length_pos_iff.2 dv;rcases gr.2 with⟨_,hn⟩|⟨gi,cap,cur,hv,hb,hg,hnc,sn,kp,ht⟩
 ·simp only at hn;omega
 simp only[kv,Ak] at hv;obtain⟨rfl,rfl⟩:=hv;simp only at ht kp hg hnc
 haveI:Inhabited {p:Int × Int//p∈l}:=⟨⟨l[0],lu _⟩⟩
 let d:Array {p:Int × Int//p∈l}:=l.attach.toArray
 have a7:d.size=l.length:=by simp[d]
 have Sa:d.toList.map Subtype.val=l:=Fh l;have bc:gi<w.heap.size:=(fo.1 hg).1
 have hH:HoldsK encP 2 w gi 0 d:=by
  intro j hj
  have wx:j<l.length*2:=by
   have:j<(flatK encP 2 d).size:=hj;rw[size_flatK,a7] at this;exact this
  have hf:=RJ d;rw[Sa] at hf
  have e:(prs l)[j]? =some ((flatK encP 2 d)[j]!):=by
   rw[<-hf,rf,qd hj,um _ j hj]
  refine⟨?_,?_⟩
  ·rw [ng];exact hw.cellAt i hi rfl e
  ·exact hw.openAt i (0+j) hi rfl rfl
 have xl:CmpLays P g cb (encP (l:=l)) 2 (λx y=>cmp x.1 y.1) gi 0 d.size w:=by
  intro m' os dk Ry x y
  have hW:w.heap.size<=(sortWorldK (encP (l:=l)) 2 w gi 0 m' dk os).heap.size:=by
   unfold sortWorldK;rw[size_grow];unfold putRowK;rw[Go.Sort.size_putRow];exact Bu _ _
  have hk: ∀k,k<w.heap.size->(∀a:Addr,some (⟨gi,0,none⟩:Addr)=some a->a.block≠k)->(sortWorldK (encP (l:=l)) 2 w gi 0 m' dk os).heap[k]? =w.heap[k]? :=by
   intro k hk dv;have z6:gi≠k:=dv _ rfl;unfold sortWorldK;rw[heap_grow_old _ _ (by unfold putRowK;rw[Go.Sort.size_putRow];exact hk)];simp[putRowK,putRow,mapBlock,vg,z6,Sort.ahead]
  refine(Nv _ (hw.but (W:=sortWorldK (encP (l:=l)) 2 w gi 0 m' dk os) hi rfl rfl rfl (by show w.drawn<=w.drawn+m';omega) hW hk) x.1 x.2 y.1 y.2 _ (Hp.refl _)).mono ?_;rintro e w' ⟨v,R',rfl,hh,rfl⟩;exact⟨rfl,aAe hh.below hh.late.1⟩
 have Wr:SWO (ltOf λ(x y: {p:Int × Int//p∈l})=>cmp x.1 y.1):=⟨λx=>hO.irrefl x.1,λx y z=>hO.trans x.1 y.1 z.1,λx y z=>hO.ntrans x.1 y.1 z.1⟩;have a6:=Wu _ encP (λ_=>rfl) (λx v hv=>by simp[encP] at hv;rcases hv with rfl|rfl<;>rfl) _ Wr gi 0 c d w xl hH bc (by rw[a7];exact hsz);rw[a7,<-hm] at a6;refine a6.mono ?_;rintro e w' ⟨rfl,d',n,os,⟨ef,_,rx⟩,Ft,rfl⟩;have z8:d'.size=l.length:=by rw[ef,a7]
 refine⟨_,_,rfl,?_,rfl,d'.toList.map Subtype.val,?_,?_,rfl⟩
 ·have Bm:(sortWorldK encP 2 w gi 0 n d' os).heap[gi]? =some (.cells (putCells id 0 (flatK encP 2 d') cur) T (0,0)):=by
   unfold sortWorldK;rw[heap_grow_old _ _ (by unfold putRowK;rw[Go.Sort.size_putRow];exact bc)];simp[putRowK,putRow,mapBlock,vg,Sort.ahead,hg,onCells]
  refine hw.upd hi (row:=some gi) ⟨rfl,rfl,rfl,?_,λk hk dv=> ?_⟩ ?_ (λk hk=> ?_) ?_ (λa' nc=> .inl ⟨a',nc,rfl⟩)
  ·unfold sortWorldK;rw[size_grow];unfold putRowK;rw[Go.Sort.size_putRow];exact Bu _ _
  ·have z6:gi≠k:=λe=>dv (by rw[e]);unfold sortWorldK;rw[heap_grow_old _ _ (by unfold putRowK;rw[Go.Sort.size_putRow];exact hk)];simp[putRowK,putRow,mapBlock,vg,z6,Sort.ahead]
  ·show w.drawn<=w.drawn+n;omega
  ·obtain rfl:=jc hk;exact⟨_,rfl,rfl⟩
  ·unfold Row.lies;simp only;refine⟨by rw[iX,bz,jy,z8,hm], .inr ⟨gi,c,_,rfl,hb,Bm,hnc,sn,?_,?_⟩⟩
   ·simp only[putCells,Array.size_mapIdx];exact kp
   ·have hf:=RJ d';rw[<-hf];have Mk:(flatK encP 2 d').size=m*2:=by rw[size_flatK,z8,hm]
    apply ul;intro t;rw[ny];split
    ·rename_i Hb
     have Vf:t<cur.size:=by
      have:m*2<=c*2:=uq _ hnc;omega
     rw[rf,rf,qd (by simp[putCells];exact Vf),qd (by rw[Mk];exact Hb)];simp only[putCells,Array.getElem_mapIdx,id];rw[df ⟨uf _,by rw[ng,Mk];exact Hb⟩,ze,um _ t (by rw[Mk];exact Hb)]
    ·rename_i Hb;rw[mf (by rw[jy,Mk];omega)]
 ·have e1:(d'.extract 0 m).toList=d'.toList:=by rw[show m=d'.size by omega];simp
  have e2:(d.extract 0 m).toList=d.toList:=by rw[show m=d.size by omega];simp
  rw[e1,e2] at rx;have:=rx.map Subtype.val;rwa[Sa] at this
 ·refine iw.2 (dn.2 λa b ha Mf vd=> ?_);rw[jy] at ha Mf;have h1:=Ft a b (uf _) vd G;rw[um d' a ha,um d' b Mf] at h1;simp only[ltOf,uo] at h1;simpa using h1
end
end Go.Eng
namespace Go.Eng
open Go Go.RowKit
section
variable {B:Nat} {w0 w w':World} {R R':List Row}
theorem Hp.allocObj (h:Hp B w0 w R) (o:Obj):Hp B w0 (w.alloc o) R:=
 h.join (Rn:=[]) ⟨(Fw _ _).alloc (di _) _,cD,λ_ hr=>(by cases hr), .nil,Late.alloc _ _⟩
theorem Hp.putObj (h:Hp B w0 w R) {l:Nat} {o:Obj} (ho:w.heap[l]? =some o) (hn:ZK o=true) (o':Obj) (hB:B<=l) (h0:w0.heap.size<=l):Hp B w0 (w.putObj l o') R:=by
 refine⟨h.below.trans ((Fw _ _).grown (grownBy_putObj' w l o') h.base λk e=>by cases e;exact hB),by rw[World.putObj_size];exact h.base,λr hr=> ?_,h.apart,⟨h.late.1,λk q hk hc=> ?_⟩⟩
 ·refine Row.lies_of_block (h.own r hr) λa ha=>World.putObj_heap_other λe=> ?_;obtain⟨cs,e',fr,hc⟩:=Row.lies_cells (h.own r hr) ha;rw[e,ho] at hc;cases hc;cases hn
 ·rw [World.putObj_heap_other (λe=>by have:=(fo.1 hk).1;omega)];exact h.late.2 k q hk hc
theorem Hp.rebase (h:Hp B w0 w R):Hp B w w R:=⟨Fw _ _,h.base,h.own,h.apart,Late.refl _⟩
theorem Hp.comp (h:Hp B w0 w R) (h':Hp B w w' R'):Hp B w0 w' R':=⟨h.below.trans h'.below,h'.base,h'.own,h'.apart,h.late.trans h'.late⟩
theorem Rd.cb {W:World} {A:Option Addr} {n c sz:Nat} {xs:List Value} (h:Rd w A n c sz xs) (hb:Below w.heap.size w W) (R:List Row):RdC w.heap.size W R A n c sz xs:=
 λ_ hw=>h.below (hb.trans hw.below)
end
def mark (D:Nat):Deferred:= {target:= .collected D,args:= #[]}
section
variable {P:Program} {n:Nd} {B:Nat} {w0 w00:World} {F:Exit->Act->World->Prop} {L:Env} {R:List Row}
def V (P:Program) (n:Nd) (B:Nat) (w0:World) (c:Code) (F:Exit->Act->World->Prop) (L:Env) (R:List Row):Prop:=
 ∀a w,Sat n L a->Hp B w0 w R->c.wpIn (NF n.rd) 0 P F a w
def FQ (F:Exit->Act->World->Prop) (n:Nd) (B:Nat) (w0:World):fC:=
 ⟨λL R=> ∀a w,Sat n L a->Hp B w0 w R->F .normal a w,λL R=> ∀a w,Sat n L a->Hp B w0 w R->F .ret a w,λi L R=> ∀a w,Sat n L a->Hp B w0 w R->F (.exit i) a w⟩
theorem v_w {c:Code} (h:W P n B w0 c (FQ F n B w0) L R):V P n B w0 c F L R:=λa w hs hp=>by
 refine Ba (h a w hs hp) λe a' w' hq=> ?_;cases e with
 |normal=>obtain⟨L',R',ef,ci,hf⟩:=hq;exact hf a' w' ef ci
 |ret=>obtain⟨L',R',ef,ci,hf⟩:=hq;exact hf a' w' ef ci
 |exit i=>obtain⟨L',R',ef,ci,hf⟩:=hq;exact hf a' w' ef ci
 |goto l=>exact hq.elim
 |panic ch=>exact hq.elim
 |outgrown=>exact hq.elim
theorem gN {x y:Code} (h:W P n B w0 x {FQ F n B w0 with nrm:=λL R=>V P n B w0 y F L R} L R):V P n B w0 (.seq x y) F L R:=λa w hs hp=>by
 refine wpIn_seq (Ba (h a w hs hp) λe a' w' hq=> ?_);cases e with
 |normal=>obtain⟨L',R',ef,ci,hf⟩:=hq;exact hf a' w' ef ci
 |ret=>obtain⟨L',R',ef,ci,hf⟩:=hq;exact hf a' w' ef ci
 |exit i=>obtain⟨L',R',ef,ci,hf⟩:=hq;exact hf a' w' ef ci
 |goto l=>exact hq.elim
 |panic ch=>exact hq.elim
 |outgrown=>exact hq.elim
theorem aHk {x y:Code} (h:V P n B w0 x (Exit.then (y.wpIn (NF n.rd) 0 P F) F) L R):V P n B w0 (.seq x y) F L R:=λa w hs hp=>wpIn_seq (h a w hs hp)
def VN (n:Nd) (B:Nat) (w0:World) (F:Exit->Act->World->Prop) (L:Env) (R:List Row):Prop:= ∀a w,Sat n L a->Hp B w0 w R->F .normal a w
theorem aYx {y:Code} {rd:Option Nat} (h:V P n B w0 y F L R) (ij:n.rd=rd:=by exact rfl):VN n B w0 (Exit.then (y.wpIn (NF rd) 0 P F) F) L R:=λa w hs hp=>by subst ij;exact h a w hs hp
theorem aHm {id:Nat} (h:VN n B w0 F L R):VN n B w0 (Exit.inBlock id F) L R:=h
theorem IA {id:Nat} {c:Code} (h:V P n B w0 c (Exit.inBlock id F) L R):V P n B w0 (.block id c) F L R:=λa w hs hp=>wpIn_block (h a w hs hp)
def prm:List Nat->List Value->Env->Env
 |p::ps,v::vs,L=>prm ps vs ((p,v)::L)
 |_,_,L=>L
theorem Sat.prm: ∀(pl:List Nat) (vs:List Value) {m:Nat} {ds:List Deferred} {rd:Option Nat} {L:Env} {t:Array Value},pl.all (λp=>Nat.blt p m)=true->Sat ⟨m,ds,rd⟩ L {tmps:=t,defers:=ds}->
  Sat ⟨m,ds,rd⟩ (prm pl vs L) {tmps:=(pl.zip vs).foldl (λt (p,v)=>t.setIfInBounds p v) t,defers:=ds}
 |[],_,_,_,_,_,_,_,h=>h
 |_::_,[],_,_,_,_,_,_,h=>h
 |p::pl,v::vs,m,ds,rd,L,t,hp,h=>by
  simp only[Hm,pq] at hp;have h1:Sat ⟨m,ds,rd⟩ ((p,v)::L) {tmps:=t.setIfInBounds p v,defers:=ds}:=h.put (d:=p) hp.1 v;exact Sat.prm pl vs hp.2 h1
def Iter (P:Program) (gf:Nat) (lb:Array Value) (qs:World->Prop) (N:Nat) (f:Nat->List Value):Prop:=
 ∀(l:Nat) (J:Nat->World->Prop) (W:World),(∀k W,J k W->qs W)->(∀k W (d:Nat),J k W->W.drawn<=d->J k {W with drawn:=d})->
  (∀k W,k<N->J k W->YieldAt Fence.wide 0 P l (f k).toArray W λe W'=>e= .returned (.bool true)/\J (k+1) W')->
  J 0 W->CallsIn Fence.wide 0 P gf (#[.func (.yield l) #[] #[]]++lb) W λe W'=>(∃v,e= .returned v)/\J N W'
structure Gd (B:Nat) (w00:World) (n:Nd) (w0:World):Prop where
 below:Below B w00 w0
 late:Late w00 w0
 nodup:n.ds.Nodup
 marks: ∀d∈n.ds,∃D,d=mark D/\B<=D/\w00.heap.size<=D/\w0.heap[D]? =some (.deferred (some []))
theorem Gd.refl {m:Nat}:Gd B w00 (m:Nd) w00:=⟨Fw _ _,Late.refl _, .nil,λ_ h=>(by cases h)⟩
theorem rounds {σ:Type} {m:Nat} {pl:List Nat} {assign body:Code} {gf:Nat} {lb:Array Value} {qs:World->Prop} {N:Nat} {f:Nat->List Value} (it:Iter P gf lb qs N f)
  (sr:pl.all (λp=>Nat.blt p m)=true) (tx: ∀k,(f k).length=pl.length) (Rx:Nat->σ->List Row) (J:Nat->σ->Prop) (pv: ∀k s w,J k s->Hp B w0 w (Rx k s)->qs w)
  (round: ∀l k s W2,k<N->J k s->Below B w0 W2->W P ⟨m,[],some l⟩ B W2 assign ⟨λL' R'=> ∀W3,Below B w0 W3->W P ⟨m,[],some l⟩ B W3 body ⟨λ_ qn=> ∃s',J (k+1) s'/\ ∀W4 w,Hp B W4 w qn->Hp B W4 w (Rx (k+1) s'),λ_ _=>False,λ_ _ _=>False⟩ L' R',λ_ _=>False,λ_ _ _=>False⟩ (prm pl (f k) L) (Rx k s))
  {l:Nat} {rec:LoopState->Loop} {fn:FuncId} {t:Array Value} {Df:Nat} (ki:rec=λst=> {state:=st,pending:=none,fn,tmps:=t,params:=pl.toArray,assign,body,defers:=Df}) (ht:Sat ⟨m,[],some l⟩ L {tmps:=t,defers:=[]}) (Sk:B<=l) (Cd:w0.heap.size<=l) (X:World->Prop)
  (hX: ∀W W' R R',X W->Hp B w0 W R->Hp B W W' R'->X W') (Ri: ∀W o,X W->X (W.putObj l o)) {W1:World} (v8:W1.heap[l]? =some (.loop (rec .ready))) (Wx:X W1) {s0:σ} (v7:J 0 s0) (qt:Hp B w0 W1 (Rx 0 s0)):
  CallsIn Fence.wide 0 P gf (#[.func (.yield l) #[] #[]]++lb) W1 λe W'=>(∃v,e= .returned v)/\ ∃s,J N s/\Hp B w0 W' (Rx N s)/\W'.heap[l]? =some (.loop (rec .ready))/\X W':=by
 refine it l (λk W=> ∃s,J k s/\Hp B w0 W (Rx k s)/\W.heap[l]? =some (.loop (rec .ready))/\X W) W1 (λk W ⟨s,hJ,hp,_⟩=>pv k s W hJ hp) (λk W d ⟨s,hJ,hp,hl,hx⟩ hd=>⟨s,hJ,hp.drawn d hd,hl,hX _ _ _ _ hx hp (hp.rebase.drawn d hd)⟩) ?_ ⟨s0,v7,qt,v8,Wx⟩;rintro k W hk ⟨s,hJ,hp,hl,hx⟩;have hy:=run_yield (P:=P) (args:=(f k).toArray) hl (by rw[ki];simp[tx k])
 have vj:Sat ⟨m,[],some l⟩ (prm pl (f k) L) {tmps:=(rec .ready).params.zip (f k).toArray|>.foldl (λt (p,v)=>t.setIfInBounds p v) (rec .ready).tmps,defers:=[]}:=by
  rw[ki];simpa using Sat.prm pl (f k) sr ht
 refine⟨fn,_,assign,body,by rw[hy,ki],roundIn_of_wpIn trivial ?_⟩;refine Ba ((round l k s W hk hJ hp.below) _ _ (by rw[ki] at vj;exact vj) hp.rebase) ?_;rintro e a1 Wa hq;cases e with
 | normal=>
  obtain⟨L',R',ef,ci,hb⟩:=hq;have Dd:=ci.late.2 _ _ hl rfl;have xa:=hp.comp ci;have bc:=(fo.1 Dd).1;have Xf:=run_beginRound (P:=P) Dd (by rw[ki]);refine⟨_,Xf,?_⟩;have pd:Hp B w0 (Wa.putObj l (.loop {rec .ready with state:= .busy})) R':=xa.putObj Dd rfl _ Sk Cd;have ua:(Wa.putObj l (.loop {rec .ready with state:= .busy})).heap[l]? =some (.loop {rec .ready with state:= .busy}):=World.putObj_heap_same bc;have Zh:=Ri _ (.loop {rec .ready with state:= .busy}) (hX _ _ _ _ hx hp ci);refine Ba (hb _ pd.below a1 _ ef pd.rebase) ?_;rintro e a3 W3 hq;cases e with
  | normal=>
   obtain⟨L3,R3,_,vx,s',Wl,Mc⟩:=hq;have e9:=vx.late.2 _ _ ua rfl;have Xo:=run_endRound (P:=P) none e9;refine⟨_,_,Xo,rfl,s',Wl,?_,?_,?_⟩
   ·exact(pd.comp (Mc _ _ vx)).putObj e9 rfl _ Sk Cd
   ·rw [World.putObj_heap_same (fo.1 e9).1,ki];rfl
   ·exact Ri _ _ (hX _ _ _ _ Zh pd vx)
  |ret=>obtain⟨_,_,_,_,h⟩:=hq;exact h.elim
  |exit id=>obtain⟨_,_,_,_,h⟩:=hq;exact h.elim
  |goto t=>exact hq.elim
  |panic ch=>exact hq.elim
  |outgrown=>exact hq.elim
 |ret=>obtain⟨_,_,_,_,h⟩:=hq;exact h.elim
 |exit id=>obtain⟨_,_,_,_,h⟩:=hq;exact h.elim
 |goto t=>exact hq.elim
 |panic ch=>exact hq.elim
 |outgrown=>exact hq.elim
theorem aHl {σ:Type} {m:Nat} {ds:List Deferred} {g:Operand} {pl:List Nat} {assign body:Code} {gf:Nat} {lb:Array Value} {qs:World->Prop} {N:Nat} {f:Nat->List Value} (hg:ev L g=some (.func (.func gf) #[] lb))
  (g6: ∀args w,(callFunc gf args).run P w= .ok (.enter gf args) w) (it:Iter P gf lb qs N f)
  (sr:pl.all (λp=>Nat.blt p m)=true) (tx: ∀k,(f k).length=pl.length) (hG:Gd B w00 ⟨m,ds,none⟩ w0) (Rx:Nat->σ->List Row) (J:Nat->σ->Prop) (h0: ∃s,J 0 s/\ ∀w,Hp B w0 w R->Hp B w0 w (Rx 0 s)) (pv: ∀k s w,J k s->Hp B w0 w (Rx k s)->qs w)
  (round: ∀l k s W2,k<N->J k s->Below B w0 W2->W P ⟨m,[],some l⟩ B W2 assign ⟨λL' R'=> ∀W3,Below B w0 W3->W P ⟨m,[],some l⟩ B W3 body ⟨λ_ qn=> ∃s',J (k+1) s'/\ ∀W4 w,Hp B W4 w qn->Hp B W4 w (Rx (k+1) s'),λ_ _=>False,λ_ _ _=>False⟩ L' R',λ_ _=>False,λ_ _ _=>False⟩ (prm pl (f k) L) (Rx k s))
  (after: ∀W5 D s,J N s->Below B w0 W5->Gd B w00 ⟨m,mark D::ds,none⟩ W5->VN ⟨m,mark D::ds,none⟩ B W5 F L (Rx N s)):
  V P ⟨m,ds,none⟩ B w0 (.rangeFunc g pl.toArray assign body) F L R:=by
 intro a w hs hp;refine wpIn_rangeFunc ?_;intro fn _;obtain⟨rec,ki⟩: ∃rec:LoopState->Loop,rec=λst=> {state:=st,pending:=none,fn,tmps:=a.tmps,params:=pl.toArray,assign,body,defers:=w.heap.size}:=⟨_,rfl⟩;obtain⟨W1,d9⟩: ∃W1,(w.alloc (.deferred (some []))).alloc (.loop (rec .ready))=W1:=⟨_,rfl⟩
 have v8:W1.heap[w.heap.size+1]? =some (.loop (rec .ready)):=by
  rw[<-d9];have:=World.alloc_heap_new (w.alloc (.deferred (some []))) (.loop (rec .ready));rwa[World.size_alloc] at this
 have Wn:W1.heap[w.heap.size]? =some (.deferred (some [])):=by
  rw[<-d9];exact(Below.heap_alloc _ _ _ cD).trans (World.alloc_heap_new w _)
 obtain⟨s0,v7,Nk⟩:=h0;have qt:Hp B w0 W1 (Rx 0 s0):=by rw[<-d9];exact((Nk w hp).allocObj _).allocObj _
 have Sn:w0.heap.size<=w.heap.size:=hp.below.size;have So:=hp.base;refine⟨w.heap.size+1,[mark w.heap.size],W1,{target:= .fn (.func gf) lb,args:= #[.func (.yield (w.heap.size+1)) #[] #[]]},W1,gf,#[.func (.yield (w.heap.size+1)) #[] #[]]++lb,W1,?_,?_,λ_ _=>trivial,?_,λh=>(by cases h),?_⟩
 ·rw[<-d9,ki];exact run_enterLoop_outer _ _ _ _ _
 ·simp only[resolve,hs.ev hg];simp[go_sem]
 ·simp[invoke,go_sem,g6]
 ·refine CallsIn.mono (rounds (w0:=w0) (m:=m) (L:=L) it sr tx Rx J pv round (l:=w.heap.size+1) (rec:=rec) ki ⟨hs.size,rfl,hs.val⟩ G G (λW=>W.heap[w.heap.size]? =some (.deferred (some []))/\Late w W) ?_ ?_ v8 ⟨Wn,?_⟩ v7 qt) ?_
  ·rintro W W' R R' ⟨hk,hl⟩ _ h2;exact⟨h2.late.2 _ _ hk rfl,hl.trans h2.late⟩
  ·rintro W o ⟨hk,hl⟩;refine⟨(World.putObj_heap_other G).trans hk,hl.1,λk q ob hc=> ?_⟩;rw[World.putObj_heap_other (λe=>by have:=(fo.1 ob).1;omega)];exact hl.2 k q ob hc
  ·rw [<-d9];exact(Late.alloc _ _).trans (Late.alloc _ _)
  ·rintro e W2 ⟨⟨v,rfl⟩,s,hJ,pd,ua,Lg,b7⟩;have te:=run_endLoop (P:=P) ua (by rw[ki];simp);have Ta:(rec .ready).pending=none:=by rw[ki]
   refine⟨none,W2.putObj (w.heap.size+1) (.loop {rec .ready with state:= .exhausted}),te.trans (bq (λp=>Result.ok p _) Ta),?_⟩;have vx:Hp B w0 (W2.putObj (w.heap.size+1) (.loop {rec .ready with state:= .exhausted})) (Rx N s):=pd.putObj ua rfl _ G G;have Xw:(W2.putObj (w.heap.size+1) (.loop {rec .ready with state:= .exhausted})).heap[w.heap.size]? =some (.deferred (some [])):=(World.putObj_heap_other G).trans Lg
   have Of:Late w (W2.putObj (w.heap.size+1) (.loop {rec .ready with state:= .exhausted})):=⟨b7.1,λk q ob hc=>by
    rw[World.putObj_heap_other (λe=>by have:=(fo.1 ob).1;omega)]
    exact b7.2 k q ob hc⟩
   have a7:=hs.defers;refine after _ w.heap.size s hJ vx.below ⟨hG.below.trans vx.below,hG.late.trans vx.late,vw.2 ⟨λfi=> ?_,hG.nodup⟩,λd hd=> ?_⟩ _ _ ⟨hs.size,by simp only[qb,a7],hs.val⟩ vx.rebase
   ·obtain ⟨D,he,_,_,hD⟩:=hG.marks _ fi;have h1:=(fo.1 hD).1;simp only[mark,Deferred.mk.injEq,Target.collected.injEq,Au] at he;omega
   ·rcases jm.1 hd with rfl|hd
    ·exact⟨_,rfl,G,by have:=hG.below.size;omega,Xw⟩
    ·obtain ⟨D,he,h1,h2,hD⟩:=hG.marks _ hd;exact⟨D,he,h1,h2,vx.late.2 _ _ hD rfl⟩
theorem aQq {σ0 σ1:Type} {m:Nat} {ds:List Deferred} {g:Operand} {pl:List Nat} {assign body:Code} {gf:Nat} {lb:Array Value} {qs:World->Prop} {N:Nat} {f:Nat->List Value} (hg:ev L g=some (.func (.func gf) #[] lb))
  (g6: ∀args w,(callFunc gf args).run P w= .ok (.enter gf args) w) (it:Iter P gf lb qs N f)
  (sr:pl.all (λp=>Nat.blt p m)=true) (tx: ∀k,(f k).length=pl.length) (hG:Gd B w00 ⟨m,ds,none⟩ w0) (Rx:Nat->σ0->σ1->List Row) (J:Nat->σ0->σ1->Prop)
  (h0: ∃x0 x1,J 0 x0 x1/\ ∀w,Hp B w0 w R->Hp B w0 w (Rx 0 x0 x1)) (pv: ∀k x0 x1 w,J k x0 x1->Hp B w0 w (Rx k x0 x1)->qs w)
  (round: ∀l k x0 x1 W2,k<N->J k x0 x1->Below B w0 W2->W P ⟨m,[],some l⟩ B W2 assign ⟨λL' R'=> ∀W3,Below B w0 W3->W P ⟨m,[],some l⟩ B W3 body ⟨λ_ qn=> ∃y0 y1,J (k+1) y0 y1/\ ∀W4 w,Hp B W4 w qn->Hp B W4 w (Rx (k+1) y0 y1),λ_ _=>False,λ_ _ _=>False⟩ L' R',λ_ _=>False,λ_ _ _=>False⟩ (prm pl (f k) L) (Rx k x0 x1))
  (after: ∀W5 D x0 x1,J N x0 x1->Below B w0 W5->Gd B w00 ⟨m,mark D::ds,none⟩ W5->VN ⟨m,mark D::ds,none⟩ B W5 F L (Rx N x0 x1)):
  V P ⟨m,ds,none⟩ B w0 (.rangeFunc g pl.toArray assign body) F L R:=by
 obtain⟨x0,x1,h1,h2⟩:=h0;refine aHl (σ:=σ0 × σ1) hg g6 it sr tx hG (λk p=>Rx k p.1 p.2) (λk p=>J k p.1 p.2) ⟨(x0,x1),h1,h2⟩ (λk p=>pv k p.1 p.2) (λl k p W2 hk hp hb=>iA (round l k p.1 p.2 W2 hk hp hb) ?_ (λ_ _ h=>h) (λ_ _ _ h=>h)) (λW5 D p=>after W5 D p.1 p.2);intro L' R' h W3 La;refine iA (h W3 La) ?_ (λ_ _ h=>h) (λ_ _ _ h=>h);rintro _ qn ⟨y0,y1,g1,g2⟩;exact⟨(y0,y1),g1,g2⟩
theorem WN {σ0 σ1 σ2 σ3:Type} {m:Nat} {ds:List Deferred} {g:Operand} {pl:List Nat} {assign body:Code} {gf:Nat} {lb:Array Value} {qs:World->Prop} {N:Nat} {f:Nat->List Value} (hg:ev L g=some (.func (.func gf) #[] lb))
  (g6: ∀args w,(callFunc gf args).run P w= .ok (.enter gf args) w) (it:Iter P gf lb qs N f)
  (sr:pl.all (λp=>Nat.blt p m)=true) (tx: ∀k,(f k).length=pl.length) (hG:Gd B w00 ⟨m,ds,none⟩ w0) (Rx:Nat->σ0->σ1->σ2->σ3->List Row) (J:Nat->σ0->σ1->σ2->σ3->Prop)
  (h0: ∃x0 x1 x2 x3,J 0 x0 x1 x2 x3/\ ∀w,Hp B w0 w R->Hp B w0 w (Rx 0 x0 x1 x2 x3)) (pv: ∀k x0 x1 x2 x3 w,J k x0 x1 x2 x3->Hp B w0 w (Rx k x0 x1 x2 x3)->qs w)
  (round: ∀l k x0 x1 x2 x3 W2,k<N->J k x0 x1 x2 x3->Below B w0 W2->W P ⟨m,[],some l⟩ B W2 assign ⟨λL' R'=> ∀W3,Below B w0 W3->W P ⟨m,[],some l⟩ B W3 body ⟨λ_ qn=> ∃y0 y1 y2 y3,J (k+1) y0 y1 y2 y3/\ ∀W4 w,Hp B W4 w qn->Hp B W4 w (Rx (k+1) y0 y1 y2 y3),λ_ _=>False,λ_ _ _=>False⟩ L' R',λ_ _=>False,λ_ _ _=>False⟩ (prm pl (f k) L) (Rx k x0 x1 x2 x3))
  (after: ∀W5 D x0 x1 x2 x3,J N x0 x1 x2 x3->Below B w0 W5->Gd B w00 ⟨m,mark D::ds,none⟩ W5->VN ⟨m,mark D::ds,none⟩ B W5 F L (Rx N x0 x1 x2 x3)):
  V P ⟨m,ds,none⟩ B w0 (.rangeFunc g pl.toArray assign body) F L R:=by
 obtain⟨x0,x1,x2,x3,h1,h2⟩:=h0;refine aHl (σ:=σ0 × σ1 × σ2 × σ3) hg g6 it sr tx hG (λk p=>Rx k p.1 p.2.1 p.2.2.1 p.2.2.2) (λk p=>J k p.1 p.2.1 p.2.2.1 p.2.2.2) ⟨(x0,x1,x2,x3),h1,h2⟩ (λk p=>pv k p.1 p.2.1 p.2.2.1 p.2.2.2) (λl k p W2 hk hp hb=>iA (round l k p.1 p.2.1 p.2.2.1 p.2.2.2 W2 hk hp hb) ?_ (λ_ _ h=>h) (λ_ _ _ h=>h)) (λW5 D p=>after W5 D p.1 p.2.1 p.2.2.1 p.2.2.2);intro L' R' h W3 La;refine iA (h W3 La) ?_ (λ_ _ h=>h) (λ_ _ _ h=>h);rintro _ qn ⟨y0,y1,y2,y3,g1,g2⟩;exact⟨(y0,y1,y2,y3),g1,g2⟩
def Fin (P:Program) (fn:Func) (B:Nat) (w00:World) (Post:Value->List Row->Prop):Exit->Act->World->Prop:=
 bodyPostM Fence.wide 0 P fn λe w'=> ∃v R',e= .returned v/\Hp B w00 w' R'/\Post v R'
theorem BQ {fn:Func} {Post:Value->List Row->Prop} {tmps:Array Value} {v:Value} {w0:World} (hB:Below B w00 w0) (hL:Late w00 w0): ∀(ds:List Deferred) (w:World),ds.Nodup->(∀d∈ds,∃D,d=mark D/\B<=D/\w00.heap.size<=D/\w.heap[D]? =some (.deferred (some [])))->Hp B w00 w R->(∀w,(results fn tmps).run P w= .ok v w)->Post v R->
  LeavesInM Fence.wide 0 P fn tmps (λe w'=> ∃v R',e= .returned v/\Hp B w00 w' R'/\Post v R') ds .returning w
 |[],w,_,_,hp,hr,hv=>⟨v,hr w,v,R,rfl,hp,hv⟩
 |d::ds,w,hn,hm,hp,hr,hv=>by
  obtain⟨D,rfl,h1,h2,hD⟩:=hm _ (.head _);refine⟨cD, .inl ⟨D,_,rfl,run_takeDeferred hD,BQ hB hL ds _ (vw.1 hn).2 (λd hd=> ?_) (hp.putObj hD rfl _ h1 h2) hr hv⟩⟩;obtain⟨D',he,We,h2',hD'⟩:=hm d (.tail _ hd);refine⟨D',he,We,h2',(World.putObj_heap_other λe=> ?_).trans hD'⟩;subst e;subst he;exact(vw.1 hn).1 hd
theorem aVj {fn:Func} {Post:Value->List Row->Prop} {v:Value} (hG:Gd B w00 n w0) (Lq: ∀a w,Sat n L a->(results fn a.tmps).run P w= .ok v w) (hv:Post v R): ∀a w,Sat n L a->Hp B w0 w R->Fin P fn B w00 Post .ret a w/\Fin P fn B w00 Post .normal a w:=by
 intro a w hs hp;have ci:Hp B w00 w R:=⟨hG.below.trans hp.below,hp.base,hp.own,hp.apart,hG.late.trans hp.late⟩
 have h:=BQ (P:=P) (fn:=fn) (Post:=Post) (tmps:=a.tmps) (v:=v) hG.below hG.late n.ds w hG.nodup (λd hd=>by
  obtain⟨D,he,h1,h2,hD⟩:=hG.marks d hd
  exact⟨D,he,h1,h2,hp.late.2 _ _ hD rfl⟩) ci (λw=>Lq a w hs) hv
 rw[<-hs.defers] at h;exact⟨h,h⟩
theorem bOg {fn:Func} {Post:Value->List Row->Prop} {r:Nat} (hr:fn.results= #[.tmp r]) (hG:Gd B w00 n w0) (h: ∃v,lk L r=some v/\Post v R): ∀a w,Sat n L a->Hp B w0 w R->Fin P fn B w00 Post .ret a w:=by
 obtain⟨v,hv,po⟩:=h;exact λa w hs hp=>(aVj hG (λa w hs=>by rw[results_tmp hr,hs.getD hv]) po a w hs hp).1
theorem aVk {fn:Func} {Post:Value->List Row->Prop} {r s:Nat} (hr:fn.results= #[.tmp r, .tmp s]) (hG:Gd B w00 n w0) (h: ∃v u,lk L r=some v/\lk L s=some u/\Post (.tuple #[v,u]) R): ∀a w,Sat n L a->Hp B w0 w R->Fin P fn B w00 Post .ret a w:=by
 obtain⟨v,u,hv,hu,po⟩:=h;exact λa w hs hp=>(aVj hG (λa w hs=>by rw[results_tmp2 hr,hs.getD hv,hs.getD hu]) po a w hs hp).1
theorem fnV {f:FuncId} {fn:Func} {c:Code} {args:List Value} {Post:Value->List Row->Prop} (hf:P.funcs[f]? =some fn) (hb:fn.body=some c) (hl:Nat.ble args.length fn.ntmps=true)
  (h:V P (fn.ntmps:Nd) B w00 c (Fin P fn B w00 Post) (ini 0 args) R):Ct P f args.toArray B w00 R Post:=by
 intro w hw;have vu:args.length<=fn.ntmps:=au hl;refine callsIn_wide.1 (callsIn_of_wp_marks (F:=Fence.wide) (n:=0) hf hb trivial (h _ w ⟨cH,rfl,λt v ht=> ?_⟩ hw));obtain⟨_,h2⟩:=aEt args 0 t v ht;simp only[ze] at h2;have bc:=(dw.1 h2).1;rw[<-h2];simp[Bb,bc]
end
section
variable {P:Program} {n:Nd} {B:Nat} {w0 w00:World} {F:Exit->Act->World->Prop} {L:Env} {R:List Row}
theorem aHx {σ:Type} {m:Nat} {pl:List Nat} {assign body:Code} {gf:Nat} {lb:Array Value} {qs:World->Prop} {N:Nat} {f:Nat->List Value} (it:Iter P gf lb qs N f)
  (sr:pl.all (λp=>Nat.blt p m)=true) (tx: ∀k,(f k).length=pl.length) (Rx:Nat->σ->List Row) (J:Nat->σ->Prop) (pv: ∀k s w,J k s->Hp B w0 w (Rx k s)->qs w)
  (round: ∀l k s W2,k<N->J k s->Below B w0 W2->W P ⟨m,[],some l⟩ B W2 assign ⟨λL' R'=> ∀W3,Below B w0 W3->(∃rc,W3.heap[l]? =some (.loop rc))->W P ⟨m,[],some l⟩ B W3 body ⟨λ_ qn=> ∃s',J (k+1) s'/\ ∀W4 w,Hp B W4 w qn->Hp B W4 w (Rx (k+1) s'),λ_ _=>False,λ_ _ _=>False⟩ L' R',λ_ _=>False,λ_ _ _=>False⟩ (prm pl (f k) L) (Rx k s))
  {l:Nat} {rec:LoopState->Loop} {fn:FuncId} {t:Array Value} {Df:Nat} (ki:rec=λst=> {state:=st,pending:=none,fn,tmps:=t,params:=pl.toArray,assign,body,defers:=Df}) (ht:Sat ⟨m,[],some l⟩ L {tmps:=t,defers:=[]}) (Sk:B<=l) (Cd:w0.heap.size<=l) (X:World->Prop)
  (hX: ∀W W' R R',X W->Hp B w0 W R->Hp B W W' R'->X W') (Ri: ∀W o,X W->X (W.putObj l o)) {W1:World} (v8:W1.heap[l]? =some (.loop (rec .ready))) (Wx:X W1) {s0:σ} (v7:J 0 s0) (qt:Hp B w0 W1 (Rx 0 s0)):
  CallsIn Fence.wide 0 P gf (#[.func (.yield l) #[] #[]]++lb) W1 λe W'=>(∃v,e= .returned v)/\ ∃s,J N s/\Hp B w0 W' (Rx N s)/\W'.heap[l]? =some (.loop (rec .ready))/\X W':=by
 refine it l (λk W=> ∃s,J k s/\Hp B w0 W (Rx k s)/\W.heap[l]? =some (.loop (rec .ready))/\X W) W1 (λk W ⟨s,hJ,hp,_⟩=>pv k s W hJ hp) (λk W d ⟨s,hJ,hp,hl,hx⟩ hd=>⟨s,hJ,hp.drawn d hd,hl,hX _ _ _ _ hx hp (hp.rebase.drawn d hd)⟩) ?_ ⟨s0,v7,qt,v8,Wx⟩;rintro k W hk ⟨s,hJ,hp,hl,hx⟩;have hy:=run_yield (P:=P) (args:=(f k).toArray) hl (by rw[ki];simp[tx k])
 have vj:Sat ⟨m,[],some l⟩ (prm pl (f k) L) {tmps:=(rec .ready).params.zip (f k).toArray|>.foldl (λt (p,v)=>t.setIfInBounds p v) (rec .ready).tmps,defers:=[]}:=by
  rw[ki];simpa using Sat.prm pl (f k) sr ht
 refine⟨fn,_,assign,body,by rw[hy,ki],roundIn_of_wpIn trivial ?_⟩;refine Ba ((round l k s W hk hJ hp.below) _ _ (by rw[ki] at vj;exact vj) hp.rebase) ?_;rintro e a1 Wa hq;cases e with
 | normal=>
  obtain⟨L',R',ef,ci,hb⟩:=hq;have Dd:=ci.late.2 _ _ hl rfl;have xa:=hp.comp ci;have bc:=(fo.1 Dd).1;have Xf:=run_beginRound (P:=P) Dd (by rw[ki]);refine⟨_,Xf,?_⟩;have pd:Hp B w0 (Wa.putObj l (.loop {rec .ready with state:= .busy})) R':=xa.putObj Dd rfl _ Sk Cd;have ua:(Wa.putObj l (.loop {rec .ready with state:= .busy})).heap[l]? =some (.loop {rec .ready with state:= .busy}):=World.putObj_heap_same bc;have Zh:=Ri _ (.loop {rec .ready with state:= .busy}) (hX _ _ _ _ hx hp ci);refine Ba (hb _ pd.below ⟨_,ua⟩ a1 _ ef pd.rebase) ?_;rintro e a3 W3 hq;cases e with
  | normal=>
   obtain⟨L3,R3,_,vx,s',Wl,Mc⟩:=hq;have e9:=vx.late.2 _ _ ua rfl;have Xo:=run_endRound (P:=P) none e9;refine⟨_,_,Xo,rfl,s',Wl,?_,?_,?_⟩
   ·exact(pd.comp (Mc _ _ vx)).putObj e9 rfl _ Sk Cd
   ·rw [World.putObj_heap_same (fo.1 e9).1,ki];rfl
   ·exact Ri _ _ (hX _ _ _ _ Zh pd vx)
  |ret=>obtain⟨_,_,_,_,h⟩:=hq;exact h.elim
  |exit id=>obtain⟨_,_,_,_,h⟩:=hq;exact h.elim
  |goto t=>exact hq.elim
  |panic ch=>exact hq.elim
  |outgrown=>exact hq.elim
 |ret=>obtain⟨_,_,_,_,h⟩:=hq;exact h.elim
 |exit id=>obtain⟨_,_,_,_,h⟩:=hq;exact h.elim
 |goto t=>exact hq.elim
 |panic ch=>exact hq.elim
 |outgrown=>exact hq.elim
theorem aQp {σ:Type} {m:Nat} {ds:List Deferred} {g:Operand} {pl:List Nat} {assign body:Code} {gf:Nat} {lb:Array Value} {qs:World->Prop} {N:Nat} {f:Nat->List Value} (hg:ev L g=some (.func (.func gf) #[] lb))
  (g6: ∀args w,(callFunc gf args).run P w= .ok (.enter gf args) w) (it:Iter P gf lb qs N f)
  (sr:pl.all (λp=>Nat.blt p m)=true) (tx: ∀k,(f k).length=pl.length) (hG:Gd B w00 ⟨m,ds,none⟩ w0) (Rx:Nat->σ->List Row) (J:Nat->σ->Prop) (h0: ∃s,J 0 s/\ ∀w,Hp B w0 w R->Hp B w0 w (Rx 0 s)) (pv: ∀k s w,J k s->Hp B w0 w (Rx k s)->qs w)
  (round: ∀l k s W2,k<N->J k s->Below B w0 W2->W P ⟨m,[],some l⟩ B W2 assign ⟨λL' R'=> ∀W3,Below B w0 W3->(∃rc,W3.heap[l]? =some (.loop rc))->W P ⟨m,[],some l⟩ B W3 body ⟨λ_ qn=> ∃s',J (k+1) s'/\ ∀W4 w,Hp B W4 w qn->Hp B W4 w (Rx (k+1) s'),λ_ _=>False,λ_ _ _=>False⟩ L' R',λ_ _=>False,λ_ _ _=>False⟩ (prm pl (f k) L) (Rx k s))
  (after: ∀W5 D s,J N s->Below B w0 W5->Gd B w00 ⟨m,mark D::ds,none⟩ W5->VN ⟨m,mark D::ds,none⟩ B W5 F L (Rx N s)):
  V P ⟨m,ds,none⟩ B w0 (.rangeFunc g pl.toArray assign body) F L R:=by
 intro a w hs hp;refine wpIn_rangeFunc ?_;intro fn _;obtain⟨rec,ki⟩: ∃rec:LoopState->Loop,rec=λst=> {state:=st,pending:=none,fn,tmps:=a.tmps,params:=pl.toArray,assign,body,defers:=w.heap.size}:=⟨_,rfl⟩;obtain⟨W1,d9⟩: ∃W1,(w.alloc (.deferred (some []))).alloc (.loop (rec .ready))=W1:=⟨_,rfl⟩
 have v8:W1.heap[w.heap.size+1]? =some (.loop (rec .ready)):=by
  rw[<-d9];have:=World.alloc_heap_new (w.alloc (.deferred (some []))) (.loop (rec .ready));rwa[World.size_alloc] at this
 have Wn:W1.heap[w.heap.size]? =some (.deferred (some [])):=by
  rw[<-d9];exact(Below.heap_alloc _ _ _ cD).trans (World.alloc_heap_new w _)
 obtain⟨s0,v7,Nk⟩:=h0;have qt:Hp B w0 W1 (Rx 0 s0):=by rw[<-d9];exact((Nk w hp).allocObj _).allocObj _
 have Sn:w0.heap.size<=w.heap.size:=hp.below.size;have So:=hp.base;refine⟨w.heap.size+1,[mark w.heap.size],W1,{target:= .fn (.func gf) lb,args:= #[.func (.yield (w.heap.size+1)) #[] #[]]},W1,gf,#[.func (.yield (w.heap.size+1)) #[] #[]]++lb,W1,?_,?_,λ_ _=>trivial,?_,λh=>(by cases h),?_⟩
 ·rw[<-d9,ki];exact run_enterLoop_outer _ _ _ _ _
 ·simp only[resolve,hs.ev hg];simp[go_sem]
 ·simp[invoke,go_sem,g6]
 ·refine CallsIn.mono (aHx (w0:=w0) (m:=m) (L:=L) it sr tx Rx J pv round (l:=w.heap.size+1) (rec:=rec) ki ⟨hs.size,rfl,hs.val⟩ G G (λW=>W.heap[w.heap.size]? =some (.deferred (some []))/\Late w W) ?_ ?_ v8 ⟨Wn,?_⟩ v7 qt) ?_
  ·rintro W W' R R' ⟨hk,hl⟩ _ h2;exact⟨h2.late.2 _ _ hk rfl,hl.trans h2.late⟩
  ·rintro W o ⟨hk,hl⟩;refine⟨(World.putObj_heap_other G).trans hk,hl.1,λk q ob hc=> ?_⟩;rw[World.putObj_heap_other (λe=>by have:=(fo.1 ob).1;omega)];exact hl.2 k q ob hc
  ·rw [<-d9];exact(Late.alloc _ _).trans (Late.alloc _ _)
  ·rintro e W2 ⟨⟨v,rfl⟩,s,hJ,pd,ua,Lg,b7⟩;have te:=run_endLoop (P:=P) ua (by rw[ki];simp);have Ta:(rec .ready).pending=none:=by rw[ki]
   refine⟨none,W2.putObj (w.heap.size+1) (.loop {rec .ready with state:= .exhausted}),te.trans (bq (λp=>Result.ok p _) Ta),?_⟩;have vx:Hp B w0 (W2.putObj (w.heap.size+1) (.loop {rec .ready with state:= .exhausted})) (Rx N s):=pd.putObj ua rfl _ G G;have Xw:(W2.putObj (w.heap.size+1) (.loop {rec .ready with state:= .exhausted})).heap[w.heap.size]? =some (.deferred (some [])):=(World.putObj_heap_other G).trans Lg
   have Of:Late w (W2.putObj (w.heap.size+1) (.loop {rec .ready with state:= .exhausted})):=⟨b7.1,λk q ob hc=>by
    rw[World.putObj_heap_other (λe=>by have:=(fo.1 ob).1;omega)]
    exact b7.2 k q ob hc⟩
   have a7:=hs.defers;refine after _ w.heap.size s hJ vx.below ⟨hG.below.trans vx.below,hG.late.trans vx.late,vw.2 ⟨λfi=> ?_,hG.nodup⟩,λd hd=> ?_⟩ _ _ ⟨hs.size,by simp only[qb,a7],hs.val⟩ vx.rebase
   ·obtain ⟨D,he,_,_,hD⟩:=hG.marks _ fi;have h1:=(fo.1 hD).1;simp only[mark,Deferred.mk.injEq,Target.collected.injEq,Au] at he;omega
   ·rcases jm.1 hd with rfl|hd
    ·exact⟨_,rfl,G,by have:=hG.below.size;omega,Xw⟩
    ·obtain ⟨D,he,h1,h2,hD⟩:=hG.marks _ hd;exact⟨D,he,h1,h2,vx.late.2 _ _ hD rfl⟩
theorem aKu {σ0 σ1 σ2 σ3:Type} {m:Nat} {ds:List Deferred} {g:Operand} {pl:List Nat} {assign body:Code} {gf:Nat} {lb:Array Value} {qs:World->Prop} {N:Nat} {f:Nat->List Value} (hg:ev L g=some (.func (.func gf) #[] lb))
  (g6: ∀args w,(callFunc gf args).run P w= .ok (.enter gf args) w) (it:Iter P gf lb qs N f)
  (sr:pl.all (λp=>Nat.blt p m)=true) (tx: ∀k,(f k).length=pl.length) (hG:Gd B w00 ⟨m,ds,none⟩ w0) (Rx:Nat->σ0->σ1->σ2->σ3->List Row) (J:Nat->σ0->σ1->σ2->σ3->Prop)
  (h0: ∃x0 x1 x2 x3,J 0 x0 x1 x2 x3/\ ∀w,Hp B w0 w R->Hp B w0 w (Rx 0 x0 x1 x2 x3)) (pv: ∀k x0 x1 x2 x3 w,J k x0 x1 x2 x3->Hp B w0 w (Rx k x0 x1 x2 x3)->qs w)
  (round: ∀l k x0 x1 x2 x3 W2,k<N->J k x0 x1 x2 x3->Below B w0 W2->W P ⟨m,[],some l⟩ B W2 assign ⟨λL' R'=> ∀W3,Below B w0 W3->(∃rc,W3.heap[l]? =some (.loop rc))->W P ⟨m,[],some l⟩ B W3 body ⟨λ_ qn=> ∃y0 y1 y2 y3,J (k+1) y0 y1 y2 y3/\ ∀W4 w,Hp B W4 w qn->Hp B W4 w (Rx (k+1) y0 y1 y2 y3),λ_ _=>False,λ_ _ _=>False⟩ L' R',λ_ _=>False,λ_ _ _=>False⟩ (prm pl (f k) L) (Rx k x0 x1 x2 x3))
  (after: ∀W5 D x0 x1 x2 x3,J N x0 x1 x2 x3->Below B w0 W5->Gd B w00 ⟨m,mark D::ds,none⟩ W5->VN ⟨m,mark D::ds,none⟩ B W5 F L (Rx N x0 x1 x2 x3)):
  V P ⟨m,ds,none⟩ B w0 (.rangeFunc g pl.toArray assign body) F L R:=by
 obtain⟨x0,x1,x2,x3,h1,h2⟩:=h0;refine aQp (σ:=σ0 × σ1 × σ2 × σ3) hg g6 it sr tx hG (λk p=>Rx k p.1 p.2.1 p.2.2.1 p.2.2.2) (λk p=>J k p.1 p.2.1 p.2.2.1 p.2.2.2) ⟨(x0,x1,x2,x3),h1,h2⟩ (λk p=>pv k p.1 p.2.1 p.2.2.1 p.2.2.2) (λl k p W2 hk hp hb=>iA (round l k p.1 p.2.1 p.2.2.1 p.2.2.2 W2 hk hp hb) ?_ (λ_ _ h=>h) (λ_ _ _ h=>h)) (λW5 D p=>after W5 D p.1 p.2.1 p.2.2.1 p.2.2.2);intro L' R' h W3 La e9;refine iA (h W3 La e9) ?_ (λ_ _ h=>h) (λ_ _ _ h=>h);rintro _ qn ⟨y0,y1,y2,y3,g1,g2⟩;exact⟨(y0,y1,y2,y3),g1,g2⟩
theorem aYw {σ:Type} {m l0:Nat} {g:Operand} {pl:List Nat} {assign body:Code} {gf:Nat} {lb:Array Value} {qs:World->Prop} {N:Nat} {f:Nat->List Value} {Q:fC} (hg:ev L g=some (.func (.func gf) #[] lb))
  (g6: ∀args w,(callFunc gf args).run P w= .ok (.enter gf args) w) (it:Iter P gf lb qs N f)
  (sr:pl.all (λp=>Nat.blt p m)=true) (tx: ∀k,(f k).length=pl.length) (Cd: ∃rc,w0.heap[l0]? =some (.loop rc)) (Rx:Nat->σ->List Row) (J:Nat->σ->Prop) (h0: ∃s,J 0 s/\ ∀w,Hp B w0 w R->Hp B w0 w (Rx 0 s)) (pv: ∀k s w,J k s->Hp B w0 w (Rx k s)->qs w)
  (round: ∀l k s W2,k<N->J k s->Below B w0 W2->W P ⟨m,[],some l⟩ B W2 assign ⟨λL' R'=> ∀W3,Below B w0 W3->(∃rc,W3.heap[l]? =some (.loop rc))->W P ⟨m,[],some l⟩ B W3 body ⟨λ_ qn=> ∃s',J (k+1) s'/\ ∀W4 w,Hp B W4 w qn->Hp B W4 w (Rx (k+1) s'),λ_ _=>False,λ_ _ _=>False⟩ L' R',λ_ _=>False,λ_ _ _=>False⟩ (prm pl (f k) L) (Rx k s))
  (after: ∀s,J N s->Q.nrm L (Rx N s)):
  W P ⟨m,[],some l0⟩ B w0 (.rangeFunc g pl.toArray assign body) Q L R:=by
 obtain⟨r0,Vd⟩:=Cd;intro a w hs hp;have Xx:=hp.late.2 _ _ Vd rfl;refine wpIn_rangeFunc ?_;intro fn _;obtain⟨rec,ki⟩: ∃rec:LoopState->Loop,rec=λst=> {state:=st,pending:=none,fn,tmps:=a.tmps,params:=pl.toArray,assign,body,defers:=r0.defers}:=⟨_,rfl⟩;obtain⟨W1,d9⟩: ∃W1,w.alloc (.loop (rec .ready))=W1:=⟨_,rfl⟩;have v8:W1.heap[w.heap.size]? =some (.loop (rec .ready)):=by rw[<-d9];exact World.alloc_heap_new w _
 obtain⟨s0,v7,Nk⟩:=h0;have qt:Hp B w0 W1 (Rx 0 s0):=by rw[<-d9];exact(Nk w hp).allocObj _
 have Sn:w0.heap.size<=w.heap.size:=hp.below.size;have So:=hp.base;refine⟨w.heap.size,[],W1,{target:= .fn (.func gf) lb,args:= #[.func (.yield w.heap.size) #[] #[]]},W1,gf,#[.func (.yield w.heap.size) #[] #[]]++lb,W1,?_,?_,λ_ _=>trivial,?_,λh=>(by cases h),?_⟩
 ·rw[<-d9,ki];exact run_enterLoop_inner Xx _ _ _ _ _
 ·simp only[resolve,hs.ev hg];simp[go_sem]
 ·simp[invoke,go_sem,g6]
 ·refine CallsIn.mono (aHx (w0:=w0) (m:=m) (L:=L) it sr tx Rx J pv round (l:=w.heap.size) (rec:=rec) ki ⟨hs.size,rfl,hs.val⟩ G G (λ_=>True) (λ_ _ _ _ _ _ _=>trivial) (λ_ _ _=>trivial) v8 trivial v7 qt) ?_;rintro e W2 ⟨⟨v,rfl⟩,s,hJ,pd,ua,_⟩;have te:=run_endLoop (P:=P) ua (by rw[ki];simp);have Ta:(rec .ready).pending=none:=by rw[ki]
  refine⟨none,W2.putObj w.heap.size (.loop {rec .ready with state:= .exhausted}),te.trans (bq (λp=>Result.ok p _) Ta),?_⟩;have a7:=hs.defers;exact⟨L,Rx N s,⟨hs.size,by simp only[je,a7],hs.val⟩,pd.putObj ua rfl _ G G,after s hJ⟩
theorem aQl {σ0 σ1 σ2 σ3:Type} {m l0:Nat} {g:Operand} {pl:List Nat} {assign body:Code} {gf:Nat} {lb:Array Value} {qs:World->Prop} {N:Nat} {f:Nat->List Value} {Q:fC} (hg:ev L g=some (.func (.func gf) #[] lb))
  (g6: ∀args w,(callFunc gf args).run P w= .ok (.enter gf args) w) (it:Iter P gf lb qs N f)
  (sr:pl.all (λp=>Nat.blt p m)=true) (tx: ∀k,(f k).length=pl.length) (Cd: ∃rc,w0.heap[l0]? =some (.loop rc)) (Rx:Nat->σ0->σ1->σ2->σ3->List Row) (J:Nat->σ0->σ1->σ2->σ3->Prop)
  (h0: ∃x0 x1 x2 x3,J 0 x0 x1 x2 x3/\ ∀w,Hp B w0 w R->Hp B w0 w (Rx 0 x0 x1 x2 x3)) (pv: ∀k x0 x1 x2 x3 w,J k x0 x1 x2 x3->Hp B w0 w (Rx k x0 x1 x2 x3)->qs w)
  (round: ∀l k x0 x1 x2 x3 W2,k<N->J k x0 x1 x2 x3->Below B w0 W2->W P ⟨m,[],some l⟩ B W2 assign ⟨λL' R'=> ∀W3,Below B w0 W3->(∃rc,W3.heap[l]? =some (.loop rc))->W P ⟨m,[],some l⟩ B W3 body ⟨λ_ qn=> ∃y0 y1 y2 y3,J (k+1) y0 y1 y2 y3/\ ∀W4 w,Hp B W4 w qn->Hp B W4 w (Rx (k+1) y0 y1 y2 y3),λ_ _=>False,λ_ _ _=>False⟩ L' R',λ_ _=>False,λ_ _ _=>False⟩ (prm pl (f k) L) (Rx k x0 x1 x2 x3))
  (after: ∀x0 x1 x2 x3,J N x0 x1 x2 x3->Q.nrm L (Rx N x0 x1 x2 x3)):
  W P ⟨m,[],some l0⟩ B w0 (.rangeFunc g pl.toArray assign body) Q L R:=by
 obtain⟨x0,x1,x2,x3,h1,h2⟩:=h0;refine aYw (σ:=σ0 × σ1 × σ2 × σ3) hg g6 it sr tx Cd (λk p=>Rx k p.1 p.2.1 p.2.2.1 p.2.2.2) (λk p=>J k p.1 p.2.1 p.2.2.1 p.2.2.2) ⟨(x0,x1,x2,x3),h1,h2⟩ (λk p=>pv k p.1 p.2.1 p.2.2.1 p.2.2.2) (λl k p W2 hk hp hb=>iA (round l k p.1 p.2.1 p.2.2.1 p.2.2.2 W2 hk hp hb) ?_ (λ_ _ h=>h) (λ_ _ _ h=>h)) (λp=>after p.1 p.2.1 p.2.2.1 p.2.2.2);intro L' R' h W3 La e9;refine iA (h W3 La e9) ?_ (λ_ _ h=>h) (λ_ _ _ h=>h);rintro _ qn ⟨y0,y1,y2,y3,g1,g2⟩;exact⟨(y0,y1,y2,y3),g1,g2⟩
def SlR (k:IntKind) (Rs:List Row) (vals:List Value) (ls:List (List Int)):Prop:=vals.length=ls.length/\ ∀j:Nat,j<ls.length-> ∃(A:Option Addr) (c:Nat),vals[j]? =some (.slice A (ls.getD j []).length c)/\ ∀(B:Nat) (w0 w:World),Hp B w0 w Rs->Rd w A (ls.getD j []).length c 1 (ints k (ls.getD j []))
theorem SlR.nil (k:IntKind):SlR k [] [] []:=⟨rfl,λj hj=>by simp at hj⟩
theorem SlR.snoc {k:IntKind} {Rs:List Row} {vals:List Value} {ls:List (List Int)} {A:Option Addr} {n c e:Nat} {l:List Int} {ro:Bool} (h:SlR k Rs vals ls) (hn:n=l.length):SlR k (⟨e,1,A,n,c,ints k l,ro⟩::Rs) (vals++[.slice A n c]) (ls++[l]):=by
 subst hn;refine⟨by simp[h.1],λj hj=> ?_⟩;rcases fe j ls.length with g|g
 ·obtain ⟨A',c',h1,h2⟩:=h.2 j g
  have e1:(ls++[l]).getD j []=ls.getD j []:=by
   rw[ai,ai,ji g]
  rw[e1];exact⟨A',c',by rw[ji (by rw[h.1];exact g)];exact h1,λB w0 w hw=>h2 B w0 w hw.tail⟩
 ·have n7:j=ls.length:=by simp at hj;omega
  subst n7;have e1:(ls++[l]).getD ls.length []=l:=by simp[ai]
  rw[e1];refine⟨A,c,by rw[<-h.1];simp,λB w0 w hw=> ?_⟩;exact rdr (R:=⟨e,1,A,l.length,c,ints k l,ro⟩::Rs) 0 rfl w hw
theorem SlR.at {k:IntKind} {Rs:List Row} {vals:List Value} {ls:List (List Int)} (h:SlR k Rs vals ls) {i:Int} (h0:0<=i) (h1:i<ls.length): ∃(A:Option Addr) (c:Nat),vals[i.toNat]? =some (.slice A (rdl ls i).length c)/\ ∀(B:Nat) (w0 w:World),Hp B w0 w Rs->Rd w A (rdl ls i).length c 1 (ints k (rdl ls i)):=h.2 i.toNat G
theorem Hp.left {w:World} {X T:List Row} (h:Hp B w0 w (X++T)):Hp B w0 w X:=h.sublist (List.sublist_append_left X T)
theorem Hp.toTail0 {w:World} {X Rs Y:List Row} (h:Hp B w0 w ((X++Rs)++Y)):Hp B w0 w (X++(Y++Rs)):=by
 refine h.perm ?_;rw[gy];exact Bc X yc
theorem bOc {Q:fC} {c:Code} {d:Nat} {v:Value} (h:lk L d=some v) (k:W P n B w0 c Q ((d,v)::L) R):W P n B w0 c Q L R:=λa w hs hp=>k a w ⟨hs.size,hs.defers,λt u ht=>by
 unfold lk at ht;cases e:Nat.beq d t with
 |true=>rw[e] at ht;simp only[cond_true] at ht;obtain rfl:=yf e;exact hs.val _ _ (h.trans ht)
 |false=>rw[e] at ht;simp only[cond_false] at ht;exact hs.val _ _ ht⟩ hp
end
end Go.Eng
namespace Go.Eng
open Go Go.RowKit Go.Proofs Go.Sort
section
variable {P:Program} {B:Nat} {w0:World} {R:List Row}
def aYp (P:Program) (f g:Nat) (cb:Array Value) (k:Nat):Prop:=
 ∀(α:Type) [Inhabited α] (enc:α->List Value) (_: ∀x,(enc x).length=k) (_: ∀x,∀v∈enc x,v.oneCell'=true) (cf:α->α->Int) (_:SWO (ltOf cf)) (gi off cap:Nat) (d:Array α) (w:World)
  (_:CmpLays P g cb enc k cf gi off d.size w) (_:HoldsK enc k w gi off d) (_:gi<w.heap.size) (_:d.size<4611686018427387904),
  Calls P f #[.slice (some ⟨gi,off,none⟩) d.size cap, .func (.func g) #[] cb] w λe w'=>e= .returned (.tuple #[])/\ ∃d' n os,PermIn 0 d.size d d'/\SortedIn (ltOf cf) 0 d.size d'/\w'=sortWorldK enc k w gi off n d' os
def SS (P:Program) (f:Nat):Prop:= ∀(p:Option Addr) (cap:Nat) (fv:Value) (w:World),Calls P f #[.slice p 0 cap,fv] w λe w'=>e= .returned (.tuple #[])/\w'=w
theorem Hp.putRow {w:World} (hw:Hp B w0 w R) {i T k m c gi:Nat} {vs:List Value} (hi:R[i]? =some ⟨T,k,some ⟨gi,0,none⟩,m,c,vs,false⟩) (xs:Array Value) (Tu:xs.size=m*k) (n:Nat) (os:Array Obj):
  Hp B w0 (grow (putRow id (Sort.ahead w n) gi 0 xs) os) (R.set i ⟨T,k,some ⟨gi,0,none⟩,m,c,xs.toList,false⟩)/\Hp B w0 (grow (putRow id (Sort.ahead w n) gi 0 xs) os) (R.eraseIdx i):=by
 have gr:=Row.lies_w (hw.own _ (gm hi)) rfl;rcases gr.2 with⟨hv,hn⟩|⟨g,cap,cur,hv,hb,hg,hnc,sn,kp,ht⟩
 ·simp at hv
 simp only[kv,mg,Av,Au,Ak] at hv;obtain⟨rfl,rfl⟩:=hv;simp only at ht kp hg hnc hb;have bc:gi<w.heap.size:=(fo.1 hg).1
 have hsz:w.heap.size<=(grow (Go.Sort.putRow id (Sort.ahead w n) gi 0 xs) os).heap.size:=by
  rw[size_grow,Go.Sort.size_putRow];exact Bu _ _
 have hk: ∀k,k<w.heap.size->gi≠k->(grow (Go.Sort.putRow id (Sort.ahead w n) gi 0 xs) os).heap[k]? =w.heap[k]? :=by
  intro k hk z6;rw[heap_grow_old _ _ (by rw[Go.Sort.size_putRow];exact hk)];simp[Go.Sort.putRow,mapBlock,vg,z6,Sort.ahead]
 have Bm:(grow (Go.Sort.putRow id (Sort.ahead w n) gi 0 xs) os).heap[gi]? =some (.cells (putCells id 0 xs cur) T (0,0)):=by
  rw[heap_grow_old _ _ (by rw[Go.Sort.size_putRow];exact bc)];simp[Go.Sort.putRow,mapBlock,vg,Sort.ahead,hg,onCells]
 refine⟨?_,hw.but hi rfl rfl rfl (by show w.drawn<=w.drawn+n;omega) hsz λk h1 h2=>hk k h1 (h2 _ rfl)⟩;refine hw.upd hi (row:=some gi) ⟨rfl,rfl,rfl,hsz,λk h1 dv=>hk k h1 λe=>dv (by rw[e])⟩ ?_ (λk hk=> ?_) ?_ (λa' nc=> .inl ⟨a',nc,rfl⟩)
 ·show w.drawn<=w.drawn+n;omega
 ·obtain rfl:=jc hk;exact⟨_,rfl,rfl⟩
 ·unfold Row.lies;simp only;refine⟨by rw[jy,Tu], .inr ⟨gi,c,_,rfl,hb,Bm,hnc,sn,?_,?_⟩⟩
  ·simp only[putCells,Array.size_mapIdx];exact kp
  ·apply ul;intro t;rw[ny];split
   ·rename_i Hb
    have Vf:t<cur.size:=by
     have:m*k<=c*k:=uq _ hnc;omega
    rw[rf,rf,qd (by simp[putCells];exact Vf),qd (by rw[Tu];exact Hb)];simp only[putCells,Array.getElem_mapIdx,id];rw[df ⟨uf _,by rw[ng,Tu];exact Hb⟩,ze,um _ t (by rw[Tu];exact Hb)]
   ·rename_i Hb;rw[mf (by rw[jy,Tu];omega)]
theorem MI {α:Type} [Inhabited α] {enc:α->List Value} {k:Nat} (hk: ∀x,(enc x).length=k) (d:Array α):(flatK enc k d).toList=d.toList.flatMap enc:=by
 have hlen: ∀l:List α,(l.flatMap enc).length=l.length*k:=λl=>by
  induction l with
  |nil=>simp
  |cons x l ih=>rw[Dg,ah,ih,hk,dh,xz];omega
 have Xs: ∀(l:List α) (t:Nat) (x:α),0<k->l[t/k]? =some x->(l.flatMap enc)[t]? =(enc x)[t%k]? :=λl=>by
  induction l with
  |nil=>intro t x _ h;simp at h
  | cons y l ih=>
   intro t x k0 h;rw[Dg];rcases fe t k with g|g
   ·rw [Dx g] at h;simp only[List.getElem?_cons_zero,mg] at h;subst h;rw[ji (by rw[hk];exact g),lc g]
   ·have e:t/k=(t-k)/k+1:=by
     rw[<-qy g,Nat.add_div_right _ k0];simp
    rw[e,Cw] at h;rw[ig (by rw[hk];exact g),hk,ih (t-k) x k0 h,<-zk g]
 apply ul;intro t;have hs:(flatK enc k d).size=d.size*k:=size_flatK _ _ _;rcases fe t (d.size*k) with h|h
 ·have k0:0<k:=Nat.pos_of_ne_zero λe=>by subst e;simp at h
  have Ry:t/k<d.size:=Nat.div_lt_of_lt_mul (by rw[Am];exact h)
  have e1:(flatK enc k d)[t]? =some ((flatK enc k d)[t]!):=by
   rw[qd (by rw[hs];exact h),um _ t (by rw[hs];exact h)]
  rw[rf,e1,get_flatK enc k d t h,Xs d.toList t d[t/k] k0 (by rw[rf,qd Ry]),um d _ Ry];have hm:t%k<(enc d[t/k]).length:=by rw[hk];exact yw _ k0
  rw[av hm,um (enc d[t/k]) (t%k) hm]
 ·rw[mf (by rw[jy,hs];exact h),mf (by rw[hlen,jy];exact h)]
theorem aVi {α:Type} {enc:α->List Value} {k:Nat} (hk: ∀x,(enc x).length=k) (l:List α):(l.flatMap enc).length=l.length*k:=by
 induction l with
 |nil=>simp
 |cons x l ih=>rw[Dg,ah,ih,hk,dh,xz];omega
theorem KY {α:Type} [Inhabited α] {d d':Array α} (h:PermIn 0 d.size d d'):d'.toList.Perm d.toList:=by
 obtain⟨hs,_,hp⟩:=h;have e1:(d'.extract 0 d.size).toList=d'.toList:=by rw[<-hs];simp
 have e2:(d.extract 0 d.size).toList=d.toList:=cD
 rw[e1,e2] at hp;exact hp
theorem OD {α:Type} [Inhabited α] {cf:α->α->Int} {d':Array α} {n:Nat} (h:SortedIn (ltOf cf) 0 n d') (hn:d'.size=n):d'.toList.Pairwise λx y=> ¬cf y x<0:=by
 refine dn.2 λa b ha Mf vd=> ?_;rw[jy] at ha Mf;have h1:=h a b (uf _) vd G;rw[um d' a ha,um d' b Mf] at h1;simp only[ltOf,uo] at h1;simpa using h1
theorem bBb {w:World} (hw:Hp B w0 w R) {i T k c:Nat} {A:Option Addr} {vs:List Value} (hi:R[i]? =some ⟨T,k,A,0,c,vs,false⟩):R.set i ⟨T,k,A,0,c,[],false⟩=R/\vs=[]:=by
 have gr:=Row.lies_w (hw.own _ (gm hi)) rfl;have hl:=gr.1;simp only[Dm] at hl;obtain rfl:=ed hl;refine⟨?_,rfl⟩;apply ul;intro j;rw[xq];split
 ·rename_i h;subst h;split
  ·exact hi.symm
  ·rename_i h2;rw[mf G]
 ·rfl
theorem aDn {α:Type} {f g k:Nat} {cb:Array Value} {enc:α->List Value} (Wu:aYp P f g cb k) (Wt:SS P f) (hk: ∀x,(enc x).length=k) (h1: ∀x,∀v∈enc x,v.oneCell'=true) {T c:Nat} {A:Option Addr} {l:List α} (i:Nat) (hi:R[i]? =some ⟨T,k,A,l.length,c,l.flatMap enc,false⟩) (hsz:l.length<4611686018427387904) (cmp:α->α->Int) (hO:SWO (ltOf cmp))
  (Nv: ∀W,Hp B w0 W (R.eraseIdx i)-> ∀x∈l,∀y∈l,
   Ct P g (#[.agg (enc x).toArray, .agg (enc y).toArray]++cb) W.heap.size W [] (λv _=>v= .int .i64 (cmp x y))):
  Ct P f #[.slice A l.length c, .func (.func g) #[] cb] B w0 R (λv R'=>v= .tuple #[]/\ ∃l':List α,l'.Perm l/\l'.Pairwise (λx y=> ¬cmp y x<0)/\R'=R.set i ⟨T,k,A,l'.length,c,l'.flatMap enc,false⟩):=by
 intro w hw;rcases l with _|⟨x0,l0⟩
 ·refine (Wt A c _ w).mono ?_;rintro e w' ⟨rfl,rfl⟩;obtain⟨h1,h2⟩:=bBb hw hi;exact⟨_,_,rfl,hw,rfl,[], .refl _, .nil,h1.symm⟩
 generalize hl:x0::l0=l at*;have ee:0<l.length:=by rw[<-hl];simp
 have gr:=Row.lies_w (hw.own _ (gm hi)) rfl;rcases gr.2 with⟨_,hn⟩|⟨gi,cap,cur,hv,hb,hg,hnc,sn,kp,ht⟩
 ·simp only at hn;omega
 simp only[kv,Ak] at hv;obtain⟨rfl,rfl⟩:=hv;simp only at ht kp hg hnc
 haveI:Inhabited {p:α//p∈l}:=⟨⟨l[0],lu _⟩⟩
 obtain⟨d,hd⟩: ∃d:Array {p:α//p∈l},d=l.attach.toArray:=⟨_,rfl⟩;have a7:d.size=l.length:=by rw[hd];simp
 have Sa:d.toList.map Subtype.val=l:=by rw[hd];exact Fh l
 have Lg: ∀x: {p:α//p∈l},(enc x.1).length=k:=λx=>hk x.1;have hfm: ∀e:List {p:α//p∈l},e.flatMap (λx=>enc x.1)=(e.map Subtype.val).flatMap enc:=λe=>by rw[List.flatMap_map]
 have bc:gi<w.heap.size:=(fo.1 hg).1
 have hH:HoldsK (λx: {p:α//p∈l}=>enc x.1) k w gi 0 d:=by
  intro j hj
  have wx:j<l.length*k:=by
   have:j<(flatK (λx: {p:α//p∈l}=>enc x.1) k d).size:=hj;rw[size_flatK,a7] at this;exact this
  have hf:=MI Lg d;rw[hfm,Sa] at hf
  have e:(l.flatMap enc)[j]? =some ((flatK (λx: {p:α//p∈l}=>enc x.1) k d)[j]!):=by
   rw[<-hf,rf,qd hj,um _ j hj]
  refine⟨?_,?_⟩
  ·rw [ng];exact hw.cellAt i hi rfl e
  ·exact hw.openAt i (0+j) hi rfl rfl
 have xl:CmpLays P g cb (λx: {p:α//p∈l}=>enc x.1) k (λx y=>cmp x.1 y.1) gi 0 d.size w:=by
  intro m' os dk Ry x y;have hW:=(hw.putRow hi (flatK (λx: {p:α//p∈l}=>enc x.1) k dk) (by rw[size_flatK,Ry,a7]) m' os).2;refine(Nv (sortWorldK (λx: {p:α//p∈l}=>enc x.1) k w gi 0 m' dk os) hW x.1 x.2 y.1 y.2 _ (Hp.refl _)).mono ?_;rintro e w' ⟨v,R',rfl,hh,rfl⟩;exact⟨rfl,aAe hh.below hh.late.1⟩
 have Wr:SWO (ltOf λ(x y: {p:α//p∈l})=>cmp x.1 y.1):=⟨λx=>hO.irrefl x.1,λx y z=>hO.trans x.1 y.1 z.1,λx y z=>hO.ntrans x.1 y.1 z.1⟩;have a6:=Wu _ (λx: {p:α//p∈l}=>enc x.1) Lg (λx=>h1 x.1) _ Wr gi 0 c d w xl hH bc (by rw[a7];exact hsz);rw[a7] at a6;refine a6.mono ?_;rintro e w' ⟨rfl,d',n,os,rx,Ft,rfl⟩;rw[<-a7] at rx;have z8:d'.size=l.length:=by rw[rx.1,a7]
 have hW:=(hw.putRow hi (flatK (λx: {p:α//p∈l}=>enc x.1) k d') (by rw[size_flatK,z8]) n os).1;rw[MI Lg,hfm] at hW
 have ci:(d'.toList.map Subtype.val).Perm l:=by
  have:=(KY rx).map Subtype.val;rwa[Sa] at this
 refine⟨_,_,rfl,hW,rfl,d'.toList.map Subtype.val,ci,?_,?_⟩
 ·exact iw.2 (OD Ft z8)
 ·rw[ci.length_eq]
end
end Go.Eng
namespace Go.Pure
open Go Go.Eng
def Bd (u:List Int) (n k:Nat):Prop:=k<n/\ ∀e,e<k->lt u e=lt u (n-k+e)
def MB (u:List Int) (n:Nat) (k:Int):Prop:=0<=k/\Bd u n k.toNat/\ ∀q:Nat,Bd u n q->(q:Int)<=k
def KI (u:List Int) (i:Nat) (n:Int):Prop:=0<=n/\Bd u i n.toNat/\ ∀q:Nat,Bd u i q->n<q->lt u q≠lt u i
variable {u:List Int}
theorem MB.one:MB u 1 0:=⟨G,⟨G,λe he=>by simp at he⟩,λq h=>by have:=h.1;omega⟩
theorem MB.bd {n:Nat} {k:Int} (h:MB u n k):0<=k/\k<n:=⟨h.1,by have:=h.2.1.1;have:=h.1;omega⟩
theorem KI.bd {n:Nat} {k:Int} (h:KI u n k):0<=k/\k<n:=⟨h.1,by have:=h.2.1.1;have:=h.1;omega⟩
theorem KI.init {i:Nat} {n:Int} (h:MB u i n):KI u i n:=⟨h.1,h.2.1,λq hq hn=>by have:=h.2.2 q hq;omega⟩
theorem KI.step {i:Nat} {n m:Int} (h:KI u i n) (dv:lt u n.toNat≠lt u i) (hb:MB u n.toNat m):KI u i m:=by
 obtain⟨h0,⟨h1,h2⟩,h3⟩:=h;obtain⟨g0,⟨g1,g2⟩,g3⟩:=hb;refine⟨g0,⟨G,λe he=> ?_⟩,λq hq Ye=> ?_⟩
 ·rw [g2 e he,h2 (n.toNat-m.toNat+e) G];congr 1;omega
 ·rcases xx q n.toNat with a|a|a
  ·have:Bd u n.toNat q:=⟨a,λe he=>by
    rw[hq.2 e he,h2 (n.toNat-q+e) G];congr 1
    omega⟩
   have:=g3 q this;omega
  ·subst a;exact dv
  ·exact h3 q hq G
theorem KI.hit {i:Nat} {n:Int} (h:KI u i n) (he:lt u n.toNat=lt u i):MB u (i+1) (n+1):=by
 obtain⟨h0,⟨h1,h2⟩,h3⟩:=h;refine⟨G,⟨G,λe hE=> ?_⟩,λq hq=> ?_⟩
 ·rcases fe e n.toNat with a|a
  ·rw[h2 e a];congr 1;omega
  ·obtain rfl:e=n.toNat:=G
   rw[he];congr 1;omega
 ·rcases q with _|q
  ·omega
  ·have hb:Bd u i q:=⟨by have:=hq.1;omega,λe hE=>by rw[hq.2 e G];congr 1;omega⟩;have hl:=hq.2 q G;have:=hq.1;rw[show i+1-(q+1)+q=i by omega] at hl;rcases bi n q with a|a
   ·exact absurd hl (h3 q hb a)
   ·omega
theorem KI.miss {i:Nat} {n:Int} (h:KI u i n) (hn:n<=0) (he:lt u n.toNat≠lt u i):MB u (i+1) n:=by
 obtain⟨h0,⟨h1,h2⟩,h3⟩:=h;obtain rfl:n=0:=G
 refine⟨G,⟨G,λe hE=>by simp at hE⟩,λq hq=> ?_⟩;rcases q with _|q
 ·omega
 ·have hb:Bd u i q:=⟨by have:=hq.1;omega,λe hE=>by rw[hq.2 e G];congr 1;omega⟩;have hl:=hq.2 q G;have:=hq.1;rw[show i+1-(q+1)+q=i by omega] at hl;rcases dz q with a|a
  ·subst a;exact absurd hl he
  ·exact absurd hl (h3 q hb G)
theorem aKg {n k:Nat} (hn:n=u.length) (hk:k<n):Bd u n k↔NW u (n-k):=by
 subst hn;rw[KZ];constructor
 ·intro h i hi;have:=h.2 i G;unfold lt at this;rw[this];congr 1;omega
 ·intro h;refine⟨hk,λe he=> ?_⟩;have:=h e G;unfold lt;rw[<-this];congr 1;omega
theorem MB.least {k:Int} (hn:0<u.length) (h:MB u u.length k):(u.length:Int)-k=lp u:=by
 obtain⟨r,e,r1,r2,hp,Yb⟩:=IV hn;obtain⟨k0,hb,uc⟩:=h;have wt:=hb.1;have h1:=uc (u.length-r) ((aKg rfl G).2 (by rw[show u.length-(u.length-r)=r by omega];exact hp));have h2:=(aKg rfl hb.1).1 hb;rcases fe (u.length-k.toNat) r with a|a
 ·exact absurd h2 (Yb _ G a)
 ·omega
theorem FE: ∀a b:List Int,cmpL b a= -cmpL a b
 |[],[]=>rfl
 |[],_::_=>rfl
 |_::_,[]=>rfl
 |x::a,y::b=>by
  rw[cmpL,cmpL,FE a b];split<;>split<;>omega
theorem cmpL_eq: ∀a b:List Int,cmpL a b=0↔a=b
 |[],[]=>by simp[cmpL]
 |[],_::_=>by simp[cmpL]
 |_::_,[]=>by simp[cmpL]
 | x::a,y::b=>by
  have ih:=cmpL_eq a b;rw[cmpL];split
  ·simp;omega
  ·split
   ·simp;omega
   ·rw[ih];simp;omega
theorem aJx: ∀a b c:List Int,cmpL a b<=0->cmpL b c<=0->cmpL a c<=0
 |[],[],_,_,h=>h
 |[],_::_,[],_,h=>by simp[cmpL] at h
 |[],_::_,_::_,_,_=>by simp[cmpL]
 |_::_,[],_,h,_=>by simp[cmpL] at h
 |_::_,_::_,[],_,h=>by simp[cmpL] at h
 | x ::a,y::b,z::c,h1,h2=>by
  have ih:=aJx a b c;rw[cmpL] at h1 h2 ⊢;split at h1
  ·split at h2
   ·rw[df G];omega
   ·split at h2
    ·omega
    ·rw[df G];omega
  ·split at h1
   ·omega
   ·split at h2
    ·rw[df G];omega
    ·split at h2
     ·omega
     ·rw[bu G,bu G];exact ih h1 h2
abbrev RT:=List Int × Int
def lT (a b:RT):Int:=if cmpL a.1 b.1≠0 then cmpL a.1 b.1 else iD a.2 b.2
theorem pV (a b:RT):lT b a= -lT a b:=by
 unfold lT;rw[FE a.1 b.1,aOz a.2 b.2];split<;>split<;>omega
theorem UU (a b:RT):lT a b=0↔a=b:=by
 unfold lT;have h1:=cmpL_eq a.1 b.1;have h2:= @jW a.2 b.2;rw[Prod.ext_iff];split
 ·rename_i c;constructor
  ·intro h;exact absurd h c
  ·intro h;exact absurd (h1.2 h.1) c
 ·rename_i c;rw[h2];constructor
  ·intro h;exact⟨h1.1 G,h⟩
  ·intro h;exact h.2
theorem bCs {a b:Int}:iD a b<=0↔a<=b:=by unfold iD;split<;>(try split)<;>omega
theorem ZY {a b:RT}:lT a b<=0↔cmpL a.1 b.1<0\/a.1=b.1/\a.2<=b.2:=by
 unfold lT;have h1:=cmpL_eq a.1 b.1;have h2:= @bCs a.2 b.2;split
 ·rename_i c;constructor
  ·intro h;left;omega
  ·rintro (h|h)
   ·omega
   ·exact absurd (h1.2 h.1) c
 ·rename_i c;rw[h2];constructor
  ·intro h;exact .inr ⟨h1.1 G,h⟩
  ·rintro (h|h)
   ·omega
   ·exact h.2
theorem IW (a b c:RT) (h1:lT a b<=0) (h2:lT b c<=0):lT a c<=0:=by
 rw[ZY] at h1 h2 ⊢;have h:=aJx a.1 b.1 c.1;have e1:=cmpL_eq a.1 b.1;have e2:=cmpL_eq b.1 c.1;have e3:=cmpL_eq a.1 c.1;rcases h1 with h1|h1
 ·rcases h2 with h2|h2
  ·have a1:=h G G;rcases Fx a1 with g|g
   ·exact .inl g
   ·have e:=e3.1 g;rw[e,FE b.1 c.1] at h1;omega
  ·exact .inl (by rw[<-h2.1];exact h1)
 ·rcases h2 with h2|h2
  ·exact .inl (by rw[h1.1];exact h2)
  ·exact .inr ⟨h1.1.trans h2.1,G⟩
theorem GU {l m:List RT} (hp:l.Perm m) (hl:l.Pairwise λa b=>lT a b<=0) (hm:m.Pairwise λa b=>lT a b<=0):l=m:=
 hp.eq_of_pairwise (λa b _ _ h1 h2=>(UU a b).1 (by rw[pV a b] at h2;omega)) hl hm
def lw (u:List Int):List Int:=yA u (rO u)
def lF (c:List Int):List Int:=c.take (rl c).toNat
def iW (c:List Int):Int:=(c.length:Int)/rl c
def EE (u:List Int):RT:=(lF (lw u),iW (lw u))
def fB (ws:List (List Int)):List RT:=(ws.filter λw=>decide (0<w.length)).map EE
def yC (ws:List (List Int)):List RT:=(fB ws).mergeSort λa b=>decide (lT a b<=0)
def bFq (r:RT):List Int:=rep r.1 r.2
def canon (ws:List (List Int)):List (List Int):=(yC ws).map bFq
theorem tX (ws:List (List Int)):(yC ws).Perm (fB ws):=List.mergeSort_perm _ _
theorem TZ (ws:List (List Int)):(yC ws).Pairwise λa b=>lT a b<=0:=by
 have:=List.pairwise_mergeSort (le:=λa b:RT=>decide (lT a b<=0)) (λa b c h1 h2=>nk (IW a b c (Bg h1) (Bg h2))) (λa b=>by
  rw[zo,zy,zy,pV a b];omega) (fB ws)
 exact this.imp λh=>Bg h
theorem QN {ws:List (List Int)} {l:List RT} (hp:l.Perm (fB ws)) (hs:l.Pairwise λa b=>lT a b<=0):l=yC ws:=GU (hp.trans (tX ws).symm) hs (TZ ws)
theorem LW (u:List Int):(lw u).length=u.length:=xB u _
theorem bGy:lw []=[]:=rfl
theorem bGr {a b:List Int} (hl:a.length=b.length) (h:om a=om b):a=b:=by
 refine bQ hl λj h0 h1=> ?_;have:=congrFun h j.toNat;rw[FW G,FW G] at this;exact this
theorem bFy {c:List Int} (h:0<c.length):(c.length:Int)%rl c=0:=by
 obtain⟨r,e,r1,r2,_,_⟩:=IV h;unfold rl;split
 ·exact Int.emod_self
 ·omega
theorem XX {c:List Int} (h:0<c.length):((lF c).length:Int)=rl c:=by
 have:=AR h;unfold lF;rw[ax];omega
theorem PV {c:List Int} (h:0<c.length):iW c*rl c=c.length:=Int.ediv_mul_cancel (Int.dvd_of_emod_eq_zero (bFy h))
theorem DV {c:List Int} (h:0<c.length):0<iW c:=by
 have h1:=PV h;have h2:=AR h;rcases bi 0 (iW c) with a|a
 ·exact a
 ·have:=Int.mul_nonneg_of_nonpos_of_nonpos a (show -(rl c)<=0 by omega);rw[Int.mul_neg] at this;omega
theorem aZu {c:List Int} (h:0<c.length):om (lF c)=om c:=by
 obtain⟨r,e,r1,r2,ho,_⟩:=aHz h;funext i;rw[ho i];unfold lF;rw[e];rfl
theorem FM {c:List Int} (h:0<c.length):rep (lF c) (iW c)=c:=by
 have hr:=XX h;have hp:=AR h;have ht:=DV h
 have hl:(rep (lF c) (iW c)).length=c.length:=by
  rw[qG];have h1:=PV h
  have:((iW c).toNat*(lF c).length:Int)=c.length:=by
   rw[qf G,hr,h1]
  exact_mod_cast this
 refine bGr hl ?_;rw[show iW c=((iW c).toNat:Int) by omega];funext i;rw[bGq G G,aZu h]
theorem aMv {ws:List (List Int)} {r:RT} (h:r∈fB ws): ∃w∈ws,0<w.length/\r=EE w:=by
 unfold fB at h;obtain⟨w,hw,e⟩:=iy.1 h;obtain⟨h1,h2⟩:=og.1 hw;exact⟨w,h1,Bg h2,e.symm⟩
theorem aMw {ws:List (List Int)} {r:RT} (h:r∈yC ws): ∃w∈ws,0<w.length/\r=EE w:=aMv ((tX ws).subset h)
theorem mQ (a b:List (List Int)):fB (a++b)=fB a++fB b:=by unfold fB;rw[ug,jo]
theorem aPd (ws:List (List Int)):(canon ws).length=(fB ws).length:=by
 unfold canon;rw[bz,(tX ws).length_eq]
end Go.Pure
namespace Go.Eng
open Go Go.RowKit Go.Pure
section
variable {P:Program} {n:Nd} {B:Nat} {w0:World} {L:Env} {R:List Row} {ty:TypeId}
theorem aMl {w:World} {A:Option Addr} {m c:Nat} {k:IntKind} {u:List Int} (h:Rd w A m c 1 (ints k u)) (hA:A.isNone=true):u=[]:=by
 cases u with
 |nil=>rfl
 |cons y l=>
  obtain⟨b,g,_⟩:=h.at_ 0 (.int k y) (by simp[ints]);rw[g] at hA;cases hA
theorem SlR.weak {k:IntKind} {Rs Ql:List Row} {vals:List Value} {ls:List (List Int)} (h:SlR k Rs vals ls) (hr: ∀B w0 w,Hp B w0 w Ql->Hp B w0 w Rs):SlR k Ql vals ls:=
 ⟨h.1,λj hj=>by
  obtain⟨A,c,h1,h2⟩:=h.2 j hj
  exact⟨A,c,h1,λB w0 w hw=>h2 B w0 w (hr B w0 w hw)⟩⟩
theorem SlR.right {k:IntKind} {Rs:List Row} {vals:List Value} {ls:List (List Int)} (h:SlR k Rs vals ls) (X:List Row):SlR k (X++Rs) vals ls:=h.weak λ_ _ _ hw=>hw.right
theorem SlR.left {k:IntKind} {Rs:List Row} {vals:List Value} {ls:List (List Int)} (h:SlR k Rs vals ls) (T:List Row):SlR k (Rs++T) vals ls:=h.weak λ_ _ _ hw=>hw.left
theorem aAf {l m:List (List Int)} {j:Nat} (h:j<l.length):(l++m).getD j []=l.getD j []:=by
 rw[ai,ai,ji h]
theorem SlR.app {k:IntKind} {Rs:List Row} {v1 v2:List Value} {l1 l2:List (List Int)} (h:SlR k Rs v1 l1) (g:SlR k Rs v2 l2):SlR k Rs (v1++v2) (l1++l2):=by
 refine⟨by simp[h.1,g.1],λj hj=> ?_⟩;rcases fe j l1.length with q|q
 ·obtain ⟨A,c,h1,h2⟩:=h.2 j q;rw[aAf q,ji (by rw[h.1];exact q)];exact⟨A,c,h1,h2⟩
 ·rw [ah] at hj;obtain⟨A,c,h1,h2⟩:=g.2 (j-l1.length) G
  have e:(l1++l2).getD j []=l2.getD (j-l1.length) []:=by
   rw[ai,ai,ig q]
  rw[e,ig (by rw[h.1];exact q),h.1];exact⟨A,c,h1,h2⟩
theorem SlR.take {k:IntKind} {Rs:List Row} {vals:List Value} {ls:List (List Int)} (h:SlR k Rs vals ls) (i:Nat):SlR k Rs (vals.take i) (ls.take i):=by
 refine⟨by simp[h.1],λj hj=> ?_⟩;rw[ax] at hj;obtain⟨A,c,h1,h2⟩:=h.2 j G
 have e:(ls.take i).getD j []=ls.getD j []:=by
  rw[ai,ai,ou G]
 rw[e,ou G];exact⟨A,c,h1,h2⟩
theorem SlR.drop {k:IntKind} {Rs:List Row} {vals:List Value} {ls:List (List Int)} (h:SlR k Rs vals ls) (i:Nat):SlR k Rs (vals.drop i) (ls.drop i):=by
 refine⟨by simp[h.1],λj hj=> ?_⟩;rw[ay] at hj;obtain⟨A,c,h1,h2⟩:=h.2 (i+j) G
 have e:(ls.drop i).getD j []=ls.getD (i+j) []:=by
  rw[ai,ai,ql]
 rw[e,ql];exact⟨A,c,h1,h2⟩
theorem SlR.single {k:IntKind} {Rs:List Row} {A:Option Addr} {m c:Nat} {l:List Int} (hm:m=l.length) (h: ∀B w0 w,Hp B w0 w Rs->Rd w A m c 1 (ints k l)):SlR k Rs [.slice A m c] [l]:=by
 subst hm;refine⟨rfl,λj hj=> ?_⟩;simp only[gq] at hj;obtain rfl:j=0:=G
 exact⟨A,c,rfl,h⟩
theorem SlR.push {k:IntKind} {Rs:List Row} {vals:List Value} {ls:List (List Int)} {A:Option Addr} {m c:Nat} {l:List Int} (h:SlR k Rs vals ls) (hm:m=l.length) (hr: ∀B w0 w,Hp B w0 w Rs->Rd w A m c 1 (ints k l)):SlR k Rs (vals++[.slice A m c]) (ls++[l]):=h.app (SlR.single hm hr)
theorem SlR.one {k:IntKind} {Rs:List Row} {vals:List Value} {ls:List (List Int)} (h:SlR k Rs vals ls): ∀v∈vals,v.oneCell'=true:=λv hv=>by
 obtain⟨j,hj,e⟩:=gz.1 hv;obtain⟨A,c,h1,_⟩:=h.2 j (by rw[<-h.1];exact hj);rw[av hj,e] at h1;obtain rfl:=jc h1;simp[Value.oneCell']
def OkB (ls:List (List Int)):Prop:= ∀l∈ls,aR l/\l.length<=140737488355327
theorem SlW.take {k:IntKind} {w:World} {vals:List Value} {ls:List (List Int)} (h:SlW k w vals ls) (i:Nat):SlW k w (vals.take i) (ls.take i):=by
 refine⟨by simp[h.1],λj hj=> ?_⟩;rw[ax] at hj
 have e:(ls.take i).getD j []=ls.getD j []:=by
  rw[ai,ai,ou G]
 rw[e,ou G];exact h.2 j G
theorem SlW.one {k:IntKind} {w:World} {vals:List Value} {ls:List (List Int)} (h:SlW k w vals ls): ∀v∈vals,v.oneCell'=true:=λv hv=>by
 obtain⟨j,hj,e⟩:=gz.1 hv;obtain⟨A,c,h1,_⟩:=h.2 j (by rw[<-h.1];exact hj);rw[av hj,e] at h1;obtain rfl:=jc h1;simp[Value.oneCell']
theorem SlW.app {k:IntKind} {w:World} {v1 v2:List Value} {l1 l2:List (List Int)} (h:SlW k w v1 l1) (g:SlW k w v2 l2):SlW k w (v1++v2) (l1++l2):=by
 refine⟨by simp[h.1,g.1],λj hj=> ?_⟩;rcases fe j l1.length with q|q
 ·rw [aAf q,ji (by rw[h.1];exact q)];exact h.2 j q
 ·rw [ah] at hj
  have e:(l1++l2).getD j []=l2.getD (j-l1.length) []:=by
   rw[ai,ai,ig q]
  rw[e,ig (by rw[h.1];exact q),h.1];exact g.2 (j-l1.length) G
theorem SlW.okB {w:World} {vals:List Value} {ls:List (List Int)} (h:SlW .u8 w vals ls):OkB ls:=λl hl=>by
 obtain⟨j,hj,e⟩:=gz.1 hl;obtain⟨A,c,_,_,h3,h4⟩:=h.2 j hj;have e2:ls.getD j []=l:=by rw[ai,av hj,e];rfl
 rw[e2] at h3 h4;exact⟨wR h3,h4⟩
structure RC where
 A:Option Addr
 c:Nat
 root:List Int
 times:Int
def encR (r:RC):List Value:=[.slice r.A r.root.length r.c, .int .i64 r.times]
def RC.rt (r:RC):RT:=(r.root,r.times)
def rdG (l:List RC) (i:Int):RC:=l.getD i.toNat ⟨none,0,[],0⟩
def rgs (l:List RC):List Value:=l.flatMap encR
def RgR (Rs:List Row) (l:List RC):Prop:= ∀r∈l,aR r.root/\ ∀(B:Nat) (w0 w:World),Hp B w0 w Rs->Rd w r.A r.root.length r.c 1 (ints .u8 r.root)
theorem RgR.nil (Rs:List Row):RgR Rs []:=λr h=>by cases h
theorem RgR.weak {Rs Ql:List Row} {l:List RC} (h:RgR Rs l) (hr: ∀B w0 w,Hp B w0 w Ql->Hp B w0 w Rs):RgR Ql l:=λr h'=>⟨(h r h').1,λB w0 w hw=>(h r h').2 B w0 w (hr B w0 w hw)⟩
theorem RgR.right {Rs:List Row} {l:List RC} (h:RgR Rs l) (X:List Row):RgR (X++Rs) l:=h.weak λ_ _ _ hw=>hw.right
theorem RgR.snoc {Rs:List Row} {l:List RC} {e m:Nat} {A:Option Addr} {c:Nat} {u:List Int} {t:Int} {ro:Bool} (h:RgR Rs l) (hm:m=u.length) (hb:aR u):RgR (⟨e,1,A,m,c,ints .u8 u,ro⟩::Rs) (l++[⟨A,c,u,t⟩]):=λr hr=>by
 subst hm;rcases gp.1 hr with hr|hr
 ·exact⟨(h r hr).1,λB w0 w hw=>(h r hr).2 B w0 w hw.tail⟩
 ·obtain rfl:=ib.1 hr;exact⟨hb,λB w0 w hw=>rdr (R:=⟨e,1,A,u.length,c,ints .u8 u,ro⟩::Rs) 0 rfl w hw⟩
theorem RgR.perm {Rs:List Row} {l m:List RC} (h:RgR Rs l) (hp:m.Perm l):RgR Rs m:=λr hr=>h r (hp.subset hr)
theorem aId (l:List RC):(rgs l).length=l.length*2:=aVi (enc:=encR) (λ_=>rfl) l
theorem aIe (l m:List RC):rgs (l++m)=rgs l++rgs m:=List.flatMap_append
theorem bAa (l:List RC): ∀v∈rgs l,v.oneCell'=true:=λv hv=>by
 obtain⟨r,_,h⟩:=Ig.1 hv;simp only[encR,jm,zg,or_false] at h;rcases h with rfl|rfl<;>rfl
theorem aVr (x:RC): ∀v∈encR x,v.oneCell'=true:=λv hv=>by
 simp only[encR,jm,zg,or_false] at hv;rcases hv with rfl|rfl<;>rfl
theorem aIh {l:List RC} {i:Int} (h0:0<=i) (h1:i<l.length):rdG l i∈l:=by
 unfold rdG;rw[ai,av G];exact lu _
theorem bGd {l:List RC} {i:Int} (h0:0<=i) (h1:i<l.length):((rgs l).drop (i.toNat*2)).take 2=encR (rdG l i):=by
 have e:l=l.take i.toNat++rdG l i::l.drop (i.toNat+1):=by
  conv=>lhs;rw[<-gu i.toNat l]
  congr 1;rw[ku G];congr 1;unfold rdG;rw[ai,av G];rfl
 have hl:(rgs (l.take i.toNat)).length=i.toNat*2:=by rw[aId,ax,yu G]
 have e2:rgs l=rgs (l.take i.toNat)++(encR (rdG l i)++rgs (l.drop (i.toNat+1))):=by
  conv=>lhs;rw[e]
  rw[aIe];rfl
 rw[e2,Ev hl];rfl
theorem bIy {x:Operand} {t:TypeId} {d:TypeDesc} {A:Option Addr} {m c:Nat} {l:List RC} {i:Int} (hu:P.underlying t=some d) (hd:DC d=true) (gv:(P.info? t).map (·.size)=some 2) (hx:ev L x=some (.pointer (pat A (i.toNat*2)))) (hr:RdC B w0 R A m c 2 (rgs l)) (h0:0<=i) (h1:i<l.length):
  Yl P n B w0 (.load t x) ty L R (.agg #[.slice (rdG l i).A (rdG l i).root.length (rdG l i).c, .int .i64 (rdG l i).times]):=by
 have:=aHh (P:=P) (n:=n) (B:=B) (w0:=w0) (R:=R) (ty:=ty) hu hd gv hx rfl hr (by rw[aId];omega) G;rwa[bGd h0 h1] at this
theorem aPw {s x:Operand} {t e:TypeId} {z:Value} {bytes m p c c2:Nat} {A A2:Option Addr} {l news:List RC} (i:Nat) (hi:R[i]? =some ⟨e,2,A,p,c,rgs l,false⟩) (ht:P.underlying t=some (.slice e)) (db:(P.info? e).map (λi=>(i.zero,i.size,i.bytes))=some (some z,2,bytes)) (hz:z.cells.size=2) (m8:Nat.blt 0 bytes=true)
  (hs:ev L s=some (.slice A p c)) (hx:ev L x=some (.slice A2 m c2)) (ij:RdC B w0 R A2 m c2 2 (rgs news)) (km:(p+m)*bytes<=140737488355328):
  Ac P n B w0 (.call {callee:= .builtin .append,args:= #[s,x],argTypes:= #[t,t]}) ty L R (λv R'=> ∃A' c',v= .slice A' (p+m) c'/\R'=R.set i ⟨e,2,A',p+m,c',rgs (l++news),false⟩):=by
 have:=oU (P:=P) (n:=n) (B:=B) (w0:=w0) (ty:=ty) i hi rfl ht db hz rfl m8 hs hx ij (bAa news) km;simp only[<-aIe] at this;exact this
theorem bIe {t e:TypeId} {x:Operand} (r:RC) (ht:P.underlying t=some (.slice e)) (db:(P.info? e).map (λi=>(i.zero,i.size))=some (some (.agg #[.slice none 0 0, .int .i64 0]),2)) (hx:ev L x=some (.agg #[.slice r.A r.root.length r.c, .int .i64 r.times])):
  Ac P n B w0 (.buildSlice t 1 #[(0,x)]) ty L R (λv R'=> ∃g,v= .slice (some ⟨g,0,none⟩) 1 1/\R'=⟨e,2,some ⟨g,0,none⟩,1,1,rgs [r],false⟩::R):=by
 have hv:evp L [(0,x)]=some [(0, .agg #[.slice r.A r.root.length r.c, .int .i64 r.times])]:=by simp[evp,hx]
 exact pO (P:=P) (n:=n) (B:=B) (w0:=w0) (L:=L) (R:=R) (ty:=ty) (len:=1) (ps:=[(0,x)]) (cells:= #[.slice r.A r.root.length r.c, .int .i64 r.times]) ht db hv cC cC cA (by rfl)
end
end Go.Eng
namespace Go.Proofs.YtdbebmmhdefgdaaGreat
open Go Go.Eng Go.Pure
open Tryz
set_option maxRecDepth 100000
variable {w:World} {x:Int} {ap pe:Option Addr} {aw ao rn pf:Nat} {u t:List Int}
theorem RF:
  Ct Tryz.prog 194 #[I x] w.heap.size w [] (λv R'=>v=bf):=by
 refine fn1 Ja Z Z Z ?_;refine wq<|wn Z<|wq<|wm Z<|wm Z<|wy (Yl.f (gU Z Z))<|wn Z<|bW ?_;refine⟨_,Z,?_⟩;rfl
theorem oQ {y:Int}:
  Ct Tryz.prog 121 #[I x,I y] w.heap.size w [] (λv R'=>v=I (iD x y)):=by
 refine fn1 Tryz.func121 Z Z Z ?_;refine wq<|wn Z<|wq<|wm Z<|wa (aF bEs Z (Ct.quiet (λw hw=>RF))) ?_;rintro _ _ ⟨rfl,rfl⟩;refine wn Z<|wq<|wm Z<|wa (aF bEs Z (Ct.quiet (λw hw=>RF))) ?_;rintro _ _ ⟨rfl,rfl⟩;refine wn Z<|aD<|wq<|wm Z<|aA<|aJ Z<|aL<|aD<|wq<|wm Z<|aA<|aJ Z ?_;refine aL<|aD<|wq<|wm Z<|wm Z<|wL Z Z<|aA<|bF Z (λaq=> ?_) (λaq=> ?_)
 ·refine wq<|wn Z<|bW ?_;refine⟨_,Z,?_⟩;exact bq (Value.int .i64) (by unfold iD;rw[df G])
 ·refine aL<|aD<|wq<|wm Z<|wm Z<|wy (dJ Z Z)<|aA<|bF Z (λce=> ?_) (λce=> ?_)
  ·refine wq<|wn Z<|bW ?_;refine⟨_,Z,?_⟩;exact bq (Value.int .i64) (by unfold iD;rw[bu G,df G])
  ·refine aL<|wq<|wn Z<|bW ?_;refine⟨_,Z,?_⟩;exact bq (Value.int .i64) (by unfold iD;rw[bu G,bu G])
theorem PI (al:Rd w ap aw ao 1 (ints .u8 u)) (se:Rd w pe rn pf 1 (ints .u8 t)):
  Ct Tryz.prog 96 #[sl ap aw ao,sl pe rn pf] w.heap.size w [] (λv R'=>v=I (cmpL u t)):=by
 obtain rfl:=al.lenI;obtain rfl:=se.lenI;refine fn1 Tryz.func96 Z Z Z ?_;have mj:=al.max;have Vl:=se.max;refine wq<|wn Z<|aD<|wq<|wn Z<|aH ?_;refine jD (λ(i:Int)=>[(0,sl ap u.length ao),(1,sl pe t.length pf),(5,I i)]) (λi=>[]) (λi=>(0<=i)/\(i<=u.length)/\(i<=t.length)/\(cmpL u t=cmpL (u.drop i.toNat) (t.drop i.toNat))) (λi=>(u.length-i).toNat) ?_ ?_
 ·exact⟨0,⟨G,G,G,cD⟩,SA,λ_ h=>h⟩
 intro i ⟨ar,Oe,hit,hc⟩;refine aD<|wq<|wm Z<|wm Z<|wy (aQ af Z)<|wL Z Z<|wm Z<|dD 5 [(0,sl ap u.length ao),(1,sl pe t.length pf),(5,I i),(15, .bool (decide ((i<((u.length:Nat):Int))/\(i<((t.length:Nat):Int)))))] [] ?_ ?_
 ·refine bV 10 Z (λaq=> ?_) (λaq=> ?_)
  ·refine aC Z Z<|wm Z<|aC Z Z<|wm Z<|aC Z Z<|wy (aQ af Z)<|aC Z Z<|wL Z Z<|wy (bB Z Z)<|aA ?_;exact⟨SA,λ_ h=>h⟩
  ·refine aP Z Z Z Z<|aP Z Z Z Z<|aP Z Z Z Z<|aP Z Z Z Z<|wy (aS Z Z)<|aA ?_;exact⟨SA,λ_ h=>h⟩
 refine aA<|bF Z (λce=> ?_) (λce=> ?_)
 ·refine aL<|aD<|aH<|aD<|bP mixed<|wD 0 Z (aM Z)<|wD 1 Z (aM Z)<|wD 2 Z (aI af sz5 Z Z (al.c _))<|wD 3 Z (aW bg Z Z (al.c _))<|wD 4 Z (aM Z)<|wD 5 Z (aM Z)<|wD 6 Z (aI af sz5 Z Z (se.c _))<|wD 7 Z (aW bg Z Z (se.c _))<|wD 8 Z (gU Z Z)<|wN ?_;refine bF Z (λfj=> ?_) (λfj=> ?_)
  ·refine aD<|aD<|bP mixed<|wD 0 Z (aM Z)<|wD 1 Z (aM Z)<|wD 2 Z (aI af sz5 Z Z (al.c _))<|wD 3 Z (aW bg Z Z (al.c _))<|wD 4 Z (aM Z)<|wD 5 Z (aM Z)<|wD 6 Z (aI af sz5 Z Z (se.c _))<|wD 7 Z (aW bg Z Z (se.c _))<|wD 8 Z (eG Z Z)<|wN<|bF Z (λkl=> ?_) (λkl=> ?_)
   ·refine wq<|wn Z<|bW ?_;refine⟨_,Z,?_⟩;exact bq (Value.int .i64) (by rw[hc,qA ar G G,df G])
   ·refine aL<|wq<|wn Z<|bW ?_;refine⟨_,Z,?_⟩;exact bq (Value.int .i64) (by rw[hc,qA ar G G,bu G,df G])
  ·refine aL<|aN<|wm Z<|wA Z Z<|wn Z ?_;exact⟨i+1,⟨G,G,G,(by rw[hc,qA ar G G,bu G,bu G])⟩,G,SA,λ_ h=>h⟩
 ·refine aY<|aD<|aH<|wq<|wm Z<|wy (aQ af Z)<|wm Z<|wy (aQ af Z)<|wL Z Z<|wn Z<|bF Z (λmd=> ?_) (λmd=> ?_)
  ·refine wq<|wn Z<|bW ?_;refine⟨_,Z,?_⟩;exact bq (Value.int .i64) (by rw[hc,sM ar Oe hit G,df G])
  ·refine wq<|wm Z<|wy (aQ af Z)<|wm Z<|wy (aQ af Z)<|wy (dJ Z Z)<|wn Z<|bF Z (λvt=> ?_) (λvt=> ?_)
   ·refine wq<|wn Z<|bW ?_;refine⟨_,Z,?_⟩;exact bq (Value.int .i64) (by rw[hc,sM ar Oe hit G,bu G,df G])
   ·refine aL<|wq<|wn Z<|bW ?_;refine⟨_,Z,?_⟩;exact bq (Value.int .i64) (by rw[hc,sM ar Oe hit G,bu G,bu G])
theorem VI (al:Rd w ap aw ao 1 (ints .u8 u)) (se:Rd w pe rn pf 1 (ints .u8 t)) (Uv:u.length<=1000000) (bc:t.length<=1000000):
  Ct Tryz.prog 258 #[sl ap aw ao,sl pe rn pf] w.heap.size w [] (λv R'=>v=I (MZ u t)):=by
 obtain rfl:=al.lenI;obtain rfl:=se.lenI;refine fn1 Tryz.func258 Z Z Z ?_;have mj:=al.max;have Vl:=se.max;refine wq<|wn Z<|aD<|wq<|wm Z<|wy (aQ af Z)<|wy (aX Z Z)<|wm Z<|dD 4 [(0,sl ap u.length ao),(1,sl pe t.length pf),(15, .bool (decide ((((u.length:Nat):Int)=0)\/(((t.length:Nat):Int)=0))))] [] ?_ ?_
 ·refine bV 11 Z (λaq=> ?_) (λaq=> ?_)
  ·refine aP Z Z Z Z<|aP Z Z Z Z<|aP Z Z Z Z<|wy (bB Z Z)<|aA ?_;exact⟨SA,λ_ h=>h⟩
  ·refine aC Z Z<|wm Z<|aC Z Z<|wy (aQ af Z)<|aC Z Z<|wy (aX Z Z)<|wy (aS Z Z)<|aA ?_;exact⟨SA,λ_ h=>h⟩
 refine aA<|bF Z (λce=> ?_) (λce=> ?_)
 ·refine aD<|bP mixed<|wD 0 Z (aM Z)<|wD 1 Z (aM Z)<|wD 2 Z (aQ af Z)<|wD 3 Z (rV Z Z)<|wD 4 Z (dO af sz5 Z Z (al.c _) (by first|omega|exact ko _ G|exact ja _ G) (by first|omega|exact ko _ G|exact ja _ G)) ?_;refine wD 5 Z (aM Z)<|wD 6 Z (aM Z)<|wD 7 Z (aQ af Z)<|wD 8 Z (rV Z Z)<|wD 9 Z (dO af sz5 Z Z (se.c _) (by first|omega|exact ko _ G|exact ja _ G) (by first|omega|exact ko _ G|exact ja _ G)) ?_;refine wC 10 Z (aF bJo Z (Ct.quiet (λw hw=>PI ((RdC.toI (al.c _) G) w hw) ((RdC.toI (se.c _) G) w hw)))) ?_;rintro _ _ ⟨rfl,rfl⟩;refine⟨.inr λ_ h=>h,?_⟩;refine wD 11 Z (bG Z)<|wN<|bW ?_;refine⟨_,Z,?_⟩;exact bq (Value.int .i64) (by rw[aGa u t G];unfold MZ;rw[df G])
 ·refine aL<|aD<|wq<|wn Z<|aH ?_;refine jD (λ(k:Int)=>[(0,sl ap u.length ao),(1,sl pe t.length pf),(5,I k)]) (λk=>[]) (λk=>(0<=k)/\(k<=u.length+t.length)/\(MZ u t=MX u t ((u.length:Int)+t.length-k).toNat k)) (λk=>((u.length:Int)+t.length-k).toNat) ?_ ?_
  ·exact⟨0,⟨G,G,(by unfold MZ;rw[bu G];congr 1<;>omega)⟩,SA,λ_ h=>h⟩
  intro k ⟨li,va,hO⟩;refine aD<|wq<|wm Z<|wm Z<|wy (aQ af Z)<|wm Z<|wy (aQ af Z)<|wy (dG Z Z (by first|omega|exact ko _ G|exact ja _ G)) ?_;refine wL Z Z<|aA<|bF Z (λfj=> ?_) (λfj=> ?_)
  ·refine aL<|aD<|aH<|aD<|bP mixed<|wD 0 Z (aM Z)<|wD 1 Z (aM Z)<|wD 2 Z (aM Z)<|wD 3 Z (aQ af Z)<|wD 4 Z (uN Z Z (by first|omega|exact ko _ G|exact ja _ G) (by first|omega|exact ko _ G|exact ja _ G)) ?_;refine wD 5 Z (aI af sz5 Z Z (al.c _) (by first|omega|exact ko _ G|exact ja _ G) (by first|omega|exact ko _ G|exact ja _ G)) ?_;refine wD 6 Z (aW bg Z Z (al.c _) (by first|omega|exact ko _ G|exact ja _ G) (by first|omega|exact ko _ G|exact ja _ G)) ?_;refine wD 7 Z (aM Z)<|wD 8 Z (aM Z)<|wD 9 Z (aM Z)<|wD 10 Z (aQ af Z)<|wD 11 Z (uN Z Z (by first|omega|exact ko _ G|exact ja _ G) (by first|omega|exact ko _ G|exact ja _ G)) ?_;refine wD 12 Z (aI af sz5 Z Z (se.c _) (by first|omega|exact ko _ G|exact ja _ G) (by first|omega|exact ko _ G|exact ja _ G)) ?_;refine wD 13 Z (aW bg Z Z (se.c _) (by first|omega|exact ko _ G|exact ja _ G) (by first|omega|exact ko _ G|exact ja _ G)) ?_;refine wD 14 Z (bG Z)<|wD 15 Z (bG Z)<|wN<|aD<|wq<|wm Z<|wm Z<|wL Z Z<|aA<|bF Z (λkl=> ?_) (λkl=> ?_)
   ·refine wq<|wn Z<|bW ?_;refine⟨_,Z,?_⟩;exact bq (Value.int .i64) (by rw[hO,MW G (by unfold iD;rw[df G];decide)];unfold iD;rw[df G])
   ·refine aL<|wq<|wm Z<|wm Z<|wy (dJ Z Z)<|aA<|bF Z (λmd=> ?_) (λmd=> ?_)
    ·refine wq<|wn Z<|bW ?_;refine⟨_,Z,?_⟩;exact bq (Value.int .i64) (by rw[hO,MW G (by unfold iD;rw[bu G,df G];decide)];unfold iD;rw[bu G,df G])
    ·refine aL<|aN<|wm Z<|wy (dG Z Z (by first|omega|exact ko _ G|exact ja _ G)) ?_;refine wn Z ?_;exact⟨k+1,⟨G,G,(by rw[hO,bCr G (by unfold iD;rw[bu G,bu G])];congr 1<;>omega)⟩,G,SA,λ_ h=>h⟩
  ·refine aY<|wq<|wn Z<|bW ?_;refine⟨_,Z,?_⟩;exact bq (Value.int .i64) (by rw[hO,show((u.length:Int)+t.length-k).toNat=0 by omega];rfl)
variable {w:World} {ap:Option Addr} {aw ao:Nat} {u:List Int}
theorem bGt (al:Rd w ap aw ao 1 (ints .u8 u)) (am:aR u) (hN:u.length<=1000000):
  Ct Tryz.prog 116 #[sl ap aw ao] w.heap.size w [] (λv R'=> ∃A c,v=sl A (lw u).length c/\R'=[(ru 5 A ((lw u).length) c (lw u))]):=by
 obtain rfl:=al.lenI;refine fn1 Tryz.func116 Z Z Z ?_;have mj:=al.max;have Sr:=bBo u;have hfe:([u.drop (rO u).toNat,u.take (rO u).toNat]:List (List Int)).flatten=lw u:=by simp[lw,yA]
 have hlw:=LW u;refine wq<|wn Z<|wq<|wm Z<|wa (aF bMd Z (Ct.quiet (λw hw=>bIc ((al.c _) w hw) cE))) ?_;rintro _ _ ⟨rfl,rfl⟩;refine wn Z<|aD<|bP mixed<|wD 0 Z (aM Z)<|wD 1 Z (aM Z)<|wD 2 Z (dK af sz5 Z Z)<|wD 3 Z (aM Z)<|wD 4 Z (aM Z)<|wD 5 Z (dO af sz5 Z Z (al.c _)) ?_;have j9:SlW .u8 w [sl (jA ap (rO u).toNat ao 1) (u.length-(rO u).toNat) (ao-(rO u).toNat),sl ap ((rO u).toNat) ao] [u.drop (rO u).toNat,u.take (rO u).toNat]:=((jG _ _).snoc (al.fromI (l:=(rO u).toNat) G) (λx hx=>fP (am x (pg hx))) (by rw[ay];omega)).snoc (al.toI G) (λx hx=>fP (am x (lv hx))) (by rw[ax];omega);refine wC 6 Z (mE [Value.slice (jA ap (rO u).toNat ao 1) (u.length-(rO u).toNat) (ao-(rO u).toNat),Value.slice ap ((rO u).toNat) ao] dm xY Z Z Z Z) ?_;rintro _ _ ⟨cm,rfl,rfl⟩;refine⟨.inr λ_ h=>h.right (R':=[_]),?_⟩;refine wC 7 Z (aF OU Z (Ct.fresh (λw hw=>kI ((rdr 0 Z) w hw) (j9.c hw) (by rw[hfe];exact⟨G,cD⟩)))) ?_;rintro _ _ ⟨_,rfl,ff,fh,rfl,rfl⟩;refine⟨.inr λ_ h=>h.right (R':=[_]),?_⟩;refine wD 8 Z (bG Z)<|wN<|aT [0] 99 cC Z ?_;refine⟨_,Z,?_⟩;rw[hfe];exact⟨_,_,Z,Z⟩
theorem lZ (al:Rd w ap aw ao 1 (ints .u8 u)) (hN:u.length<=1000000):
  Ct Tryz.prog 57 #[sl ap aw ao] w.heap.size w [] (λv R'=> ∃A c,v=sl A (u).length c/\R'=[(ru 5 A ((u).length) c (u))]):=by
 obtain rfl:=al.lenI;refine fn1 Tryz.func57 Z Z Z ?_;have mj:=al.max;refine wq<|dB (R1:=[(ru 5 none 0 0 ([]))]) (Sub.refl _) (λ_ h=>h.nil 5 1)<|wn Z<|aD<|wq<|wm Z<|wy (aHg af Z Z)<|aA<|JL Z (λaq=> ?_) (λaq=> ?_)
 ·refine wq<|wn Z<|aT [0] 99 cC Z ?_;refine⟨_,Z,?_⟩;obtain rfl:=aMl al aq;exact⟨_,_,Z,Z⟩
 ·refine aL<|wq<|wa (bL .u8 [] af zs5 Z Z Z) ?_;rintro _ _ ⟨cm,rfl,rfl⟩;refine wm Z<|wa (aV 0 Z af zb5 Z Z Z (al.c _)) ?_;rintro _ _ ⟨ff,fh,rfl,rfl⟩;refine bK (v:=sl ff (0+u.length) fh) Z<|wn Z<|aT [0] 99 cC Z ?_;refine⟨_,Z,?_⟩;simp only[je,ng];exact⟨_,_,Z,Z⟩
theorem VJ {pe:Option Addr} {rn pf:Nat} {t:List Int} (al:Rd w ap aw ao 1 (ints .u8 u)) (se:Rd w pe rn pf 1 (ints .u8 t)) (am:aR u) (Nf:aR t):
  Ct Tryz.prog 120 #[sl ap aw ao,sl pe rn pf] w.heap.size w [] (λv R'=>v=I (cmpL u t)):=by
 obtain rfl:=al.lenI;obtain rfl:=se.lenI;refine fn1 Tryz.func120 Z Z Z ?_;have mj:=al.max;have Vl:=se.max;refine wq<|wn Z<|wq<|wm Z<|wm Z<|wa (bNs Tryz.func193 cA cA cA cA Z Z (al.c _) (se.c _) am Nf) ?_;rintro _ _ ⟨rfl,rfl⟩;refine wn Z<|bW ?_;refine⟨_,Z,?_⟩;rfl
theorem SC {L:List Int} {i z:Int} (i1:1<=i) (hi:i<u.length) (hl:L.length=u.length) (hM: ∀j:Int,0<=j->j<i->j<u.length->MB u (j+1).toNat (rd L j)) (h:MB u (i.toNat+1) z): ∀j:Int,0<=j->j<i+1->j<u.length->MB u (j+1).toNat (rd (upd L i z) j):=λj h0 h1 h2=>by
 by_cases e:j=i
 ·subst e;rw[eQ G G,show(j+1).toNat=j.toNat+1 by omega];exact h
 ·rw [fI G h0 (λq=>e q.symm)];exact hM j h0 G h2
set_option maxHeartbeats 800000 in
theorem aGq (al:Rd w ap aw ao 1 (ints .u8 u)) (hN:u.length<=1000000):
  Ct Tryz.prog 242 #[sl ap aw ao] w.heap.size w [] (λv R'=> ∃(A:Option Addr) (c:Nat) (L:List Int),v=sl A L.length c/\L.length=u.length/\(∀j:Int,0<=j->j<u.length->j<u.length->MB u (j+1).toNat (rd L j))/\R'=[(ri 3 A L.length c L)]):=by
 obtain rfl:=al.lenI;refine fn1 Tryz.func242 Z Z Z ?_;have mj:=al.max;refine wq<|wn Z<|wq<|wm Z<|wy (aQ af Z)<|wa (dL aa zb3 Z Z) ?_;rintro _ _ ⟨an,rfl,rfl⟩;refine jC (R1:=[(ri 3 (GG an) u.length u.length (List.replicate u.length (0:Int)))]) Z<|bK (v:=sl (GG an) u.length u.length) Z<|wn Z<|wq<|wn Z<|aD<|wq<|wn Z<|aH ?_;refine gG (λ(i:Int) (z:Int) (L:List Int)=>[(0,sl ap u.length ao),(3,sl (GG an) u.length u.length),(4,I z),(5,I i)]) (λi z L=>[(ri 3 (GG an) u.length u.length L)]) (λi z L=>(1<=i)/\(i<=u.length\/i=1)/\(L.length=u.length)/\(∀j:Int,0<=j->j<i->j<u.length->MB u (j+1).toNat (rd L j))/\(MB u i.toNat z)) (λi z L=>(u.length-i).toNat) ?_ ?_
 ·exact⟨1,0,List.replicate u.length (0:Int),⟨G,G,(by rw[cz]),(λj h0 h1 h2=>by obtain rfl:j=0:=G;have e:rd (List.replicate u.length (0:Int)) 0=0:=(by unfold rd;rw[ai,Ai];split<;>rfl);rw[e];exact MB.one),(MB.one)⟩,SA,λ_ h=>h⟩
 intro i z L ⟨jj,Pg,r8,hM,hn⟩;refine aD<|wq<|wm Z<|wm Z<|wy (aQ af Z)<|wL Z Z<|aA<|bF Z (λaq=> ?_) (λaq=> ?_)
 ·refine aL<|aD<|aH<|aD<|aH ?_;refine jD (λ(m:Int)=>[(0,sl ap u.length ao),(3,sl (GG an) u.length u.length),(4,I m),(5,I i)]) (λm=>[(ri 3 (GG an) u.length u.length L)]) (λm=>(KI u i.toNat m)) (λm=>m.toNat) ?_ ?_
  ·exact⟨z,(KI.init hn),SA,λ_ h=>h⟩
  intro m hK;have hKb:=hK.bd;refine aD ?_;refine tL [(0,sl ap u.length ao),(3,sl (GG an) u.length u.length),(4,I m),(5,I i),(27, .bool (decide ((0<m)/\((rd u i)≠(rd u m)))))] [(ri 3 (GG an) u.length u.length L)] ?_ ?_
  ·refine bP mixed<|wD 0 Z (aM Z)<|wD 1 Z (dJ Z Z)<|wD 2 Z (aM Z)<|oF 17 Z (λce=> ?_) (λce=> ?_)
   ·refine wG 3 Z Z Z (aM Z)<|wG 4 Z Z Z (aM Z)<|wG 5 Z Z Z (aI af sz5 Z Z (al.c _))<|wG 6 Z Z Z (aW bg Z Z (al.c _))<|wG 7 Z Z Z (aM Z)<|wG 8 Z Z Z (aM Z)<|wG 9 Z Z Z (aI af sz5 Z Z (al.c _))<|wG 10 Z Z Z (aW bg Z Z (al.c _))<|wG 11 Z Z Z (gU Z Z)<|wD 12 Z (bB Z Z)<|wN ?_;exact⟨SA,λ_ h=>h⟩
   ·refine wO 3 Z Z Z<|wO 4 Z Z Z<|wO 5 Z Z Z<|wO 6 Z Z Z<|wO 7 Z Z Z<|wO 8 Z Z Z<|wO 9 Z Z Z<|wO 10 Z Z Z<|wO 11 Z Z Z<|wD 12 Z (aS Z Z)<|wN ?_;exact⟨SA,λ_ h=>h⟩
  refine bF Z (λfj=> ?_) (λfj=> ?_)
  ·have gv:rd u m≠rd u i:=λe=>fj.2 e.symm;have Wo:=hM (m-1) G G G;rw[show(m-1+1).toNat=m.toNat by omega] at Wo;refine aL<|aH<|aN<|wm Z<|wm Z<|wS Z Z<|wy (aI aa sz3 Z Z (rdr 0 Z))<|wy (aW ak Z Z (rdr 0 Z))<|wn Z ?_;exact⟨rd L (m-1),(hK.step (by rw[<-LX,<-LX];exact gv) Wo),(by have:=Wo.bd;omega),SA,λ_ h=>h⟩
  ·refine aY<|aD<|aD<|bP mixed<|wD 0 Z (aM Z)<|wD 1 Z (aM Z)<|wD 2 Z (aI af sz5 Z Z (al.c _))<|wD 3 Z (aW bg Z Z (al.c _))<|wD 4 Z (aM Z)<|wD 5 Z (aM Z)<|wD 6 Z (aI af sz5 Z Z (al.c _))<|wD 7 Z (aW bg Z Z (al.c _))<|wD 8 Z (aX Z Z)<|wN<|bF Z (λkl=> ?_) (λkl=> ?_)
   ·have Pp:=hK.hit (by rw[<-LX,<-LX];exact kl.symm);refine aN<|wm Z<|wA Z Z<|wn Z<|aN<|wm Z<|wm Z<|wm Z<|wy (aI aa sz3 Z Z (rdr 0 Z))<|bY (bJ 0 Z sz3 Z Z) ?_;rintro _ _ rfl;refine jC (R1:=[(ri 3 (GG an) u.length u.length (upd L i (m+1)))]) Z<|aA<|aN<|wm Z<|wA Z Z<|wn Z ?_;exact⟨i+1,m+1,upd L i (m+1),⟨G,G,(by rw[bD];exact r8),(SC jj G r8 hM Pp),(by rw[show(i+1).toNat=i.toNat+1 by omega];exact Pp)⟩,G,SA,λ_ h=>h⟩
   ·have Pp:=hK.miss G (by rw[<-LX,<-LX];exact λe=>kl e.symm);refine aL<|aN<|wm Z<|wm Z<|wm Z<|wy (aI aa sz3 Z Z (rdr 0 Z))<|bY (bJ 0 Z sz3 Z Z) ?_;rintro _ _ rfl;refine jC (R1:=[(ri 3 (GG an) u.length u.length (upd L i m))]) Z<|aA<|aN<|wm Z<|wA Z Z<|wn Z ?_;exact⟨i+1,m,upd L i m,⟨G,G,(by rw[bD];exact r8),(SC jj G r8 hM Pp),(by rw[show(i+1).toNat=i.toNat+1 by omega];exact Pp)⟩,G,SA,λ_ h=>h⟩
 ·refine aY<|wq<|wm Z<|wn Z<|bS (R1:=[(ri 3 (GG an) u.length u.length L)]) (λ_ h=>h.sel [0] cC Z) ?_;refine⟨_,Z,?_⟩;exact⟨_,_,L,by rw[r8],r8,λj h0 h1 _=>hM j h0 G h1,by rw[r8]⟩
theorem aNh (al:Rd w ap aw ao 1 (ints .u8 u)) (hN:u.length<=1000000):
  Ct Tryz.prog 189 #[sl ap aw ao] w.heap.size w [] (λv R'=>v=I (lp u)):=by
 obtain rfl:=al.lenI;refine fn1 Tryz.func189 Z Z Z ?_;have mj:=al.max;refine wq<|wn Z<|aD<|wq<|wm Z<|wy (aQ af Z)<|wy (aX Z Z)<|aA<|bF Z (λaq=> ?_) (λaq=> ?_)
 ·refine wq<|wn Z<|bW ?_;refine⟨_,Z,?_⟩;exact bq (Value.int .i64) (by rw[ed (show u.length=0 by omega)];rfl)
 ·refine aL<|wq<|wm Z<|wy (aQ af Z)<|wm Z<|wa (aF bLh Z (Ct.fresh (λw hw=>aGq ((al.c _) w hw) cE))) ?_;rintro _ _ ⟨_,rfl,bm,bl,L_3,rfl,r8,hLM,rfl⟩;refine wm Z<|wy (aQ af Z)<|wS Z Z<|wy (aI aa sz3 Z Z (rdr 0 Z))<|wy (aW ak Z Z (rdr 0 Z))<|wy (iK Z Z (by have hq:=(hLM (u.length-1) G G G).bd;omega)) ?_;refine wn Z<|aT [] 99 cC Z ?_;refine⟨_,Z,?_⟩;exact bq (Value.int .i64) (MB.least G (by have:=hLM (u.length-1) G G G;rw[show((u.length:Int)-1+1).toNat=u.length by omega] at this;exact this))
theorem aRv (al:Rd w ap aw ao 1 (ints .u8 u)) (hN:u.length<=1000000):
  Ct Tryz.prog 115 #[sl ap aw ao] w.heap.size w [] (λv R'=> ∃(A:Option Addr) (c:Nat),v= .tuple #[sl A (lF u).length c,I (iW u)]/\R'=[(ru 5 A ((lF u).length) c (lF u))]):=by
 obtain rfl:=al.lenI;refine fn2 Tryz.func115 Z Z Z ?_;have mj:=al.max;refine wq<|dB (R1:=[(ru 5 none 0 0 ([]))]) (Sub.refl _) (λ_ h=>h.nil 5 1)<|wg Z<|wn Z<|aD<|wq<|wm Z<|wy (aQ af Z)<|wy (aX Z Z)<|aA<|bF Z (λaq=> ?_) (λaq=> ?_)
 ·refine wq<|wg Z<|wn Z<|aT [0] 99 cC Z ?_;refine⟨_,_,Z,Z,?_⟩;obtain rfl:=ed (show u.length=0 by omega);exact⟨_,_,Z,Z⟩
 ·have Mq:=aUb (u:=u) G;refine aL<|wq<|wm Z<|wa (aF bMe Z (Ct.quiet (λw hw=>aNh ((al.c _) w hw) cE))) ?_;rintro _ _ ⟨rfl,rfl⟩;refine wn Z<|aD<|wq<|wm Z<|wy (aQ af Z)<|wm Z<|wy (uN Z Z)<|wy (gU Z Z)<|aA<|bF Z (λce=> ?_) (λce=> ?_)
  ·refine aN<|wm Z<|wy (aQ af Z)<|wn Z<|aD<|bP mixed<|wD 0 Z (aM Z)<|wD 1 Z (aM Z)<|wD 2 Z (dO af sz5 Z Z (al.c _))<|wD 4 Z (aM Z)<|wD 5 Z (aQ af Z)<|wD 6 Z (aM Z)<|wD 7 Z (DR Z Z G G G)<|wC 3 Z (aF aAu Z (Ct.fresh (λw hw=>lZ ((RdC.toI (al.c _) G) w hw) (by rw[ax];omega)))) ?_;rintro _ _ ⟨_,rfl,bm,bl,rfl,rfl⟩;refine⟨.inr λ_ h=>h.right (R':=[_]),?_⟩;refine wD 8 Z (bG Z)<|wD 9 Z (bG Z)<|wN<|aT [0] 99 cC Z ?_;refine⟨_,_,Z,Z,?_⟩;have e:rl u=u.length:=by unfold rl;rw[df cF]
   unfold lF iW;rw[e];exact⟨_,_,Z,Z⟩
  ·refine aL<|aD<|bP mixed<|wD 0 Z (aM Z)<|wD 1 Z (aM Z)<|wD 2 Z (dO af sz5 Z Z (al.c _))<|wD 4 Z (aM Z)<|wD 5 Z (aQ af Z)<|wD 6 Z (aM Z)<|wD 7 Z (DR Z Z G G G)<|wC 3 Z (aF aAu Z (Ct.fresh (λw hw=>lZ ((RdC.toI (al.c _) G) w hw) (by rw[ax];omega)))) ?_;rintro _ _ ⟨_,rfl,ir,iu,rfl,rfl⟩;refine⟨.inr λ_ h=>h.right (R':=[_]),?_⟩;refine wD 8 Z (bG Z)<|wD 9 Z (bG Z)<|wN<|aT [0] 99 cC Z ?_;refine⟨_,_,Z,Z,?_⟩;have e:rl u=lp u:=by unfold rl;rw[bu cF]
   unfold lF iW;rw[e];exact⟨_,_,Z,Z⟩
variable {w w0:World} {ap:Option Addr} {aw ao B g:Nat} {u:List Int} {R:List Row} {V:Int}
theorem VH (al:Rd w ap aw ao 1 (ints .u8 u)) (hN:u.length<=1000000):
  Ct Tryz.prog 50 #[sl ap aw ao] w.heap.size w [] (λv R'=> ∃g A c,v=PG g/\R'=[(rc 146 1 g [sl A u.length c]),(ru 5 A u.length c u)]):=by
 obtain rfl:=al.lenI;refine fn1 Tryz.func50 Z Z Z ?_;have mj:=al.max;refine wq<|wn Z<|wq<|wm Z<|wa (aF aAu Z (Ct.fresh (λw hw=>lZ ((al.c _) w hw) hN))) ?_;rintro _ _ ⟨_,rfl,bm,bl,rfl,rfl⟩;refine wy (dZ (v:= .agg #[sl bm u.length bl]) Z (λw=>cA))<|wa (bR (sz:=1) rfl rfl) ?_;rintro _ _ ⟨ew,rfl,rfl⟩;refine wn Z<|bS (R1:=[(rc 146 1 ew [sl bm u.length bl]),(ru 5 bm u.length bl u)]) (λ_ h=>h) ?_;refine⟨_,Z,?_⟩;exact⟨_,_,_,Z,Z⟩
theorem yM {k:Int} (al:RdC B w0 R ap aw ao 1 (ints .u8 u)) (bw:aw=u.length) (hN:u.length<=1000000) (hk:0<=k/\k<=u.length):
  Ct Tryz.prog 156 #[PG g,I k] B w0 ((rc 146 1 g [sl ap aw ao])::R) (λv R'=> ∃A1 c1,v= .tuple #[sl A1 k.toNat c1,bt]/\R'=(ru 5 A1 k.toNat c1 (u.take k.toNat))::(rc 146 1 g [sl ((jA ap k.toNat ao 1)) (aw-k.toNat) (ao-k.toNat)])::R):=by
 subst bw;refine fn2 Tryz.func156 Z Z Z ?_;refine wq<|wg Z<|wn Z<|aD<|wq<|wm Z<|wy (dP Aa Z Z)<|wm Z<|aC Z Z<|wm Z<|aC Z Z<|wy (Yl.f (eG Z Z)) ?_;refine wy (aS Z Z)<|wm Z<|aC Z Z<|wm Z<|aC Z Z<|wm Z<|aC Z Z<|wy (aG Z)<|aC Z Z<|wy (aB (off:=0) (m:=0) Ae Z dA Z Z Z)<|aC Z Z<|wy (aK (rdr 0 Z) af Z Z Z)<|aC Z Z<|wy (aQ af Z)<|aC Z Z ?_;refine wy (Yl.f (dJ Z Z))<|wy (aS Z Z)<|aA<|aJ Z<|aL<|wq<|wm Z<|wy (aG Z)<|wy (aB (off:=0) (m:=0) Ae Z dA Z Z Z)<|wy (aK (rdr 0 Z) af Z Z Z)<|wm Z<|wy (dO af sz5 Z Z (RdC.right al [_]))<|wa (aF aAu Z (Ct.fresh (λw hw=>lZ ((RdC.toI (RdC.right al [_]) G) w hw) (by rw[ax];omega)))) ?_;rintro _ _ ⟨_,rfl,bm,bl,rfl,rfl⟩;refine wn Z<|wq<|wm Z<|wm Z<|wy (aG Z)<|wy (aB (off:=0) (m:=0) Ae Z dA Z Z Z)<|wy (aK (rdr 1 Z) af Z Z Z)<|wm Z<|wy (dK af sz5 Z Z)<|wy (aG Z)<|wy (aB (off:=0) (m:=0) Ae Z dA Z Z Z)<|bY (bC 1 Z Z Z dA Z Z Z Z (au Z)) ?_;rintro _ _ rfl;refine aA<|wq<|wm Z<|wg Z<|wn Z<|bS (R1:=((ru 5 bm (((u).take (k).toNat).length) bl ((u).take (k).toNat))::(rc 146 1 g [sl (jA ap (k).toNat ao 1) (u.length-(k).toNat) (ao-(k).toNat)])::R)) (λ_ h=>h) ?_;refine⟨_,_,Z,Z,?_⟩;have e:(u.take k.toNat).length=k.toNat:=by rw[ax];omega
 rw[e];exact⟨_,_,Z,Z⟩
theorem aNu {lj:Option Addr} {rj ln:Nat} {b:List Int} {k:Nat} (io:Rd w lj rj ln 1 (ints .u8 b)) (cj:aR b) (hN:b.length<=1000000) (h:uR b V k):Ct Tryz.prog 227 #[sl lj rj ln] w.heap.size w [] (λv R'=>v= .tuple #[.int .u64 V,I (k:Int),bt]):=
 (bBz io cj hN).mono λv R' hv=>by
  rcases hv with⟨V',k',g,rfl⟩|⟨g,rfl⟩
  ·obtain ⟨rfl,rfl⟩:=g.one h;rfl
  ·exact(g ⟨V,k,h⟩).elim
theorem TD {dt:Int} {m:Nat} (al:RdC B w0 R ap aw ao 1 (ints .u8 u)) (bw:aw=u.length) (hN:u.length<=1000000) (am:aR u) (hG:uR u V m) (hm:V<=dt) (hb:dt<=9223372036854775807):
  Ct Tryz.prog 157 #[PG g,I dt] B w0 ((rc 146 1 g [sl ap aw ao])::R) (λv R'=>v= .tuple #[I V,bt]/\R'=(rc 146 1 g [sl (jA ap m ao 1) (aw-m) (ao-m)])::R):=by
 subst bw;have Xr:=hG.1;have hgm:m<=u.length:=by obtain⟨_,h2,t,h3⟩:=hG;have h4:=bq List.length h3;rw[ah] at h4;omega
 refine fn2 Tryz.func157 Z Z Z ?_;refine wq<|wg Z<|wn Z<|aD<|wq<|wm Z<|wy (dP Aa Z Z)<|wm Z<|aC Z Z<|wm Z<|aC Z Z<|wy (Yl.f (eG Z Z)) ?_;refine wy (aS Z Z)<|aA<|aJ Z<|aL<|wq<|wm Z<|wy (aG Z)<|wy (aB (off:=0) (m:=0) Ae Z dA Z Z Z)<|wy (aK (rdr 0 Z) af Z Z Z)<|wa (aF bLp Z (Ct.quiet (λw hw=>aNu ((RdC.right al [_]) w hw) am hN hG))) ?_;rintro _ _ ⟨rfl,rfl⟩;refine wm Z<|wX Z Z<|wX Z Z<|wX Z Z<|wg Z<|wg Z<|wn Z<|aD<|wq<|wm Z<|wy (dU Z)<|wm Z<|aC Z Z ?_;refine wm Z<|aC Z Z<|wm Z<|aC Z Z<|wy (gI ak dx Z)<|aC Z Z<|wy (Yl.f (dJ Z Z))<|wy (aS Z Z)<|aA<|aJ Z<|aL<|wq<|wm Z<|wm Z ?_;refine wy (aG Z)<|wy (aB (off:=0) (m:=0) Ae Z dA Z Z Z)<|wy (aK (rdr 0 Z) af Z Z Z)<|wm Z<|wy (dK af sz5 Z Z)<|wy (aG Z)<|wy (aB (off:=0) (m:=0) Ae Z dA Z Z Z)<|bY (bC 0 Z Z Z dA Z Z Z Z (au Z)) ?_;rintro _ _ rfl;refine aA<|wq<|wm Z<|wy (iF dx ak Z)<|wg Z<|wn Z<|bS (R1:=((rc 146 1 g [sl (jA ap ((m:Int)).toNat ao 1) (u.length-((m:Int)).toNat) (ao-((m:Int)).toNat)])::R)) (λ_ h=>h) ?_;refine⟨_,_,Z,Z,?_⟩;exact⟨Z,Z⟩
variable {w:World} {k:Int}
theorem oP {u4:Option Addr} {Tx u7:Nat} {ks:List Int} (Kx:Rd w u4 Tx u7 1 (ints .i64 ks)) (dg:(0<=k/\k<=1048576)/\ ∀x∈ks,0<=x/\x<k):
  Ct Tryz.prog 264 #[sl u4 Tx u7,I k] w.heap.size w [] (λv R'=> ∃A c,v= .tuple #[sl A k.toNat c,bt]/\R'=[(ri 3 A k.toNat c (eD ks k))]):=by
 obtain rfl:=Kx.lenI;refine fn2 Tryz.func264 Z Z Z ?_;have m_ks:=Kx.max;have hk:=dg.1;refine wq<|wg Z<|wn Z<|aD<|wq<|wm Z<|wL Z Z<|wm Z<|dD 3 [(0,sl u4 ks.length u7),(1,I k),(14, .bool (decide ((k<0)\/(1048576<k))))] [] ?_ ?_
 ·refine bV 11 Z (λaq=> ?_) (λaq=> ?_)
  ·refine aP Z Z Z Z<|aP Z Z Z Z<|wy (bB Z Z)<|aA ?_;exact⟨SA,λ_ h=>h⟩
  ·refine aC Z Z<|wm Z<|aC Z Z<|wy (dJ Z Z)<|wy (aS Z Z)<|aA ?_;exact⟨SA,λ_ h=>h⟩
 refine pI 14 Z G<|aA<|aJ Z<|aL<|wq<|wm Z<|wa (dL aa zb3 Z Z) ?_;rintro _ _ ⟨an,rfl,rfl⟩;refine bK (v:=sl (GG an) ((k).toNat) ((k).toNat)) Z<|wn Z<|aD<|wq<|wm Z<|wy (aQ aa Z)<|wm Z<|aA<|aH ?_;refine dR (λ(m:Int) (V:List Int)=>[(1,I k),(6,sl (GG an) ((k).toNat) ((k).toNat)),(17,sl u4 ks.length u7),(18,I ((ks.length:Nat):Int)),(19,I m)]) (λm V=>[(ri 3 (GG an) ((k).toNat) ((k).toNat) V)]) (λm V=>(0<=m)/\(m<=ks.length)/\(V=eD (ks.take m.toNat) k)) (λm V=>(ks.length-m).toNat) ?_ ?_
 ·exact⟨0,List.replicate ((k).toNat) (0:Int),⟨G,G,((aBs k).symm)⟩,SA,λ_ h=>h⟩
 intro m V ⟨rm,na,hV⟩;refine wq<|wL Z Z<|aA<|aD<|bF Z (λce=> ?_) (λce=> ?_)
 ·have hx:=dg.2 _ (bN (L:=ks) rm G)
  have hb:0<=rd V (rd ks m)/\rd V (rd ks m)<=m:=by
   have a:=MU (ks:=ks.take m.toNat) (k:=k) (x:=rd ks m);rw[<-hV,ax] at a;omega
  refine aL<|aD<|aH<|wq<|wy (aI aa sz3 Z Z (Kx.c _))<|wy (aW ak Z Z (Kx.c _))<|wn Z<|aD<|wq<|wm Z<|wL Z Z<|wm Z ?_;refine dD 4 [(1,I k),(6,sl (GG an) ((k).toNat) ((k).toNat)),(8,I (rd ks m)),(17,sl u4 ks.length u7),(18,I ((ks.length:Nat):Int)),(19,I m),(29, .bool (decide (((rd ks m)<0)\/(k<=(rd ks m)))))] [(ri 3 (GG an) ((k).toNat) ((k).toNat) V)] ?_ ?_
  ·refine bV 25 Z (λfj=> ?_) (λfj=> ?_)
   ·refine aP Z Z Z Z<|aP Z Z Z Z<|aP Z Z Z Z<|wy (bB Z Z)<|aA ?_;exact⟨SA,λ_ h=>h⟩
   ·refine aC Z Z<|wm Z<|aC Z Z<|wm Z<|aC Z Z<|wy (gZ Z Z)<|wy (aS Z Z)<|aA ?_;exact⟨SA,λ_ h=>h⟩
  refine pI 29 Z G<|aA<|aJ Z<|aL<|aN<|wm Z<|wm Z<|wy (aI aa sz3 Z Z (rdr 0 Z))<|wy (aW ak Z Z (rdr 0 Z))<|wA Z Z<|wy (aI aa sz3 Z Z (rdr 0 Z))<|bY (bJ 0 Z sz3 Z Z) ?_;rintro _ _ rfl;refine aA<|aN<|wA Z Z<|wm Z<|aA ?_;exact⟨m+1,upd V (rd ks m) ((rd V (rd ks m))+1),⟨G,G,(by rw[dH rm G,<-RV hx.1 hx.2,<-hV])⟩,G,SA,λ_ h=>h⟩
 ·refine aY<|wq<|wm Z<|wg Z<|wn Z<|aT [0] 99 cC Z ?_;refine⟨_,_,Z,Z,?_⟩;have e:ks.take m.toNat=ks:=bn G;rw[e] at hV;subst hV;exact⟨_,_,Z,Z⟩
theorem xD {Nc:Option Addr} {Tw Ng:Nat} {cs:List Int} (Kw:Rd w Nc Tw Ng 1 (ints .i64 cs)) (kp: ∀x∈cs,0<=x) (Gk:cs.sum<=1000000000) (kx:cs.length<=1048576):
  Ct Tryz.prog 280 #[sl Nc Tw Ng] w.heap.size w [] (λv R'=> ∃A c,v=sl A (dE cs).length c/\R'=[(ri 3 A ((dE cs).length) c (dE cs))]):=by
 obtain rfl:=Kw.lenI;refine fn1 Tryz.func280 Z Z Z ?_;have m_cs:=Kw.max;refine wq<|wn Z<|wq<|wm Z<|wy (aQ aa Z)<|wa (dL aa zb3 Z Z) ?_;rintro _ _ ⟨an,rfl,rfl⟩;refine bK (v:=sl (GG an) cs.length cs.length) Z<|wn Z<|wq<|wn Z<|aD<|wq<|wm Z<|wy (aQ aa Z)<|wm Z<|aA<|aH ?_;refine gG (λ(i:Int) (n:Int) (V:List Int)=>[(3,sl (GG an) cs.length cs.length),(4,I n),(10,sl Nc cs.length Ng),(11,I ((cs.length:Nat):Int)),(12,I i)]) (λi n V=>[(ri 3 (GG an) cs.length cs.length V)]) (λi n V=>(0<=i)/\(i<=cs.length)/\(n=ps cs i)/\(V.length=cs.length)/\(∀j:Int,0<=j->j<i->rd V j=ps cs j)) (λi n V=>(cs.length-i).toNat) ?_ ?_
 ·exact⟨0,0,List.replicate cs.length (0:Int),⟨G,G,(Z),(by rw[cz]),(λj h1 h2=>G)⟩,SA,λ_ h=>h⟩
 intro i n V ⟨ar,jj,hn,hl,hV⟩;refine wq<|wL Z Z<|aA<|aD<|bF Z (λaq=> ?_) (λaq=> ?_)
 ·have wt:=vU kp i;have e7:=vU kp (i+1);rw[lJ ar G] at e7;refine aL<|aD<|aH<|wq<|wm Z<|wy (aI aa sz3 Z Z (Kw.c _))<|wy (aW ak Z Z (Kw.c _))<|wg Z<|wn Z<|wq<|wm Z<|wm Z ?_;refine wm Z<|wy (aI aa sz3 Z Z (rdr 0 Z))<|bY (bJ 0 Z sz3 Z Z) ?_;rintro _ _ rfl;refine aA<|aN<|wm Z<|wm Z<|wA Z Z<|wn Z<|aN<|wA Z Z<|wm Z<|aA ?_;exact⟨i+1,n+(rd cs i),upd V i n,⟨G,G,(by rw[lJ ar G,hn]),(by rw[bD];exact hl),(eX ar G hV hn)⟩,G,SA,λ_ h=>h⟩
 ·refine aY<|wq<|wm Z<|wn Z<|aT [0] 99 cC Z ?_;refine⟨_,Z,?_⟩;obtain rfl:V=dE cs:=bQ (hl.trans (fE cs).symm) λj h1 h2=>by rw[nK h1 G];exact hV j h1 G
  rw[fE];exact⟨_,_,Z,Z⟩
set_option maxHeartbeats 800000 in
theorem uB {nh:Option Addr} {k5 nv:Nat} {order:List Int} {ur:Option Addr} {Hn ux:Nat} {keys:List Int} (qe:Rd w nh k5 nv 1 (ints .i64 order)) (oa:Rd w ur Hn ux 1 (ints .i64 keys)) (hk:0<=k/\k<=1048576) (Mn: ∀x∈keys,0<=x/\x<k) (ho: ∀i∈order,0<=i/\i<keys.length) (hlen:order.length<=1000000):
  Ct Tryz.prog 239 #[sl nh k5 nv,sl ur Hn ux,I k] w.heap.size w [] (λv R'=> ∃A c,v= .tuple #[sl A order.length c,bt]/\R'=[(ri 3 A order.length c (dC order keys k.toNat))]):=by
 obtain rfl:=qe.lenI;obtain rfl:=oa.lenI;refine fn2 Tryz.func239 Z Z Z ?_;have Vk:=qe.max;have Zn:=oa.max;have Pn: ∀i∈order,0<=rd keys i/\rd keys i<k:=λi hi=>Mn _ (bN (ho i hi).1 (ho i hi).2);refine wq<|wg Z<|wn Z<|aD<|wq<|wm Z<|wm Z<|wa (aF aAy Z (Ct.fresh (λw hw=>oP ((oa.c _) w hw) ⟨hk,Mn⟩))) ?_;rintro _ _ ⟨_,rfl,bm,bl,rfl,rfl⟩;refine wm Z<|wX Z Z<|wX Z Z<|wg Z<|wn Z<|wq<|wm Z<|wy (dU Z)<|aA<|aJ Z<|aL<|wq ?_;refine wm Z<|wa (dL aa zb3 Z Z) ?_;rintro _ _ ⟨gg,rfl,rfl⟩;refine bK (v:=sl (GG gg) ((k).toNat) ((k).toNat)) Z<|wn Z<|aD<|wq<|wm Z<|wy (aQ aa Z)<|wm Z<|aA<|aH ?_;refine dR (λ(m:Int) (V:List Int)=>[(0,sl nh order.length nv),(1,sl ur keys.length ux),(10,sl (GG gg) ((k).toNat) ((k).toNat)),(27,sl nh order.length nv),(28,I ((order.length:Nat):Int)),(29,I m)]) (λm V=>[(ri 3 (GG gg) ((k).toNat) ((k).toNat) V),(ri 3 bm ((k).toNat) bl (eD keys k))]) (λm V=>(0<=m)/\(m<=order.length)/\(V=eD ((order.take m.toNat).map (rd keys)) k)) (λm V=>(order.length-m).toNat) ?_ ?_
 ·exact⟨0,List.replicate ((k).toNat) (0:Int),⟨G,G,((aBs k).symm)⟩,SA,λ_ h=>h⟩
 intro m V ⟨rm,na,hV⟩;refine wq<|wL Z Z<|aA<|aD<|bF Z (λaq=> ?_) (λaq=> ?_)
 ·have hi:=ho _ (bN (L:=order) rm G);have hx:=Pn _ (bN (L:=order) rm G)
  have hb:0<=rd V (rd keys (rd order m))/\rd V (rd keys (rd order m))<=m:=by
   have a:=MU (ks:=(order.take m.toNat).map (rd keys)) (k:=k) (x:=rd keys (rd order m));rw[<-hV,bz,ax] at a;omega
  have lz:V.length=k.toNat:=by rw[hV,dY]
  refine aL<|aD<|aH<|wq<|wy (aI aa sz3 Z Z (qe.c _))<|wy (aW ak Z Z (qe.c _))<|wn Z<|aD<|wq<|wm Z<|wL Z Z<|wm Z ?_;refine dD 5 [(0,sl nh order.length nv),(1,sl ur keys.length ux),(10,sl (GG gg) ((k).toNat) ((k).toNat)),(12,I (rd order m)),(27,sl nh order.length nv),(28,I ((order.length:Nat):Int)),(29,I m),(40, .bool (decide (((rd order m)<0)\/(((keys.length:Nat):Int)<=(rd order m)))))] [(ri 3 (GG gg) ((k).toNat) ((k).toNat) V),(ri 3 bm ((k).toNat) bl (eD keys k))] ?_ ?_
  ·refine bV 35 Z (λce=> ?_) (λce=> ?_)
   ·refine aP Z Z Z Z<|aP Z Z Z Z<|aP Z Z Z Z<|aP Z Z Z Z<|wy (bB Z Z)<|aA ?_;exact⟨SA,λ_ h=>h⟩
   ·refine aC Z Z<|wm Z<|aC Z Z<|wm Z<|aC Z Z<|wy (aQ aa Z)<|aC Z Z<|wy (gZ Z Z)<|wy (aS Z Z)<|aA ?_;exact⟨SA,λ_ h=>h⟩
  refine pI 40 Z G<|aA<|aJ Z<|aL<|aN<|wm Z<|wm Z<|wm Z<|wy (aI aa sz3 Z Z (oa.c _))<|wy (aW ak Z Z (oa.c _))<|wy (aI aa sz3 Z Z (rdr 0 Z))<|wy (aW ak Z Z (rdr 0 Z))<|wA Z Z<|wy (aI aa sz3 Z Z (rdr 0 Z))<|bY (bJ 0 Z sz3 Z Z) ?_;rintro _ _ rfl;refine aA<|aN<|wA Z Z<|wm Z<|aA ?_;exact⟨m+1,upd V (rd keys (rd order m)) ((rd V (rd keys (rd order m)))+1),⟨G,G,(by rw[dH rm G,jo,List.map_singleton,<-RV hx.1 hx.2,<-hV])⟩,G,SA,λ_ h=>h⟩
 ·have w6:V=(eD (order.map (rd keys)) k):=by rw[hV,bn G]
  have Kv:(dE V).length=k.toNat:=by rw[fE,hV,dY]
  refine aY<|wq<|wm Z<|wa (aF aJl Z (Ct.fresh (λw hw=>xD ((rdr 0 Z) w hw) (by rw[w6];exact lY _ _) (by rw[w6,MS G Pn];omega) (by rw[w6,dY];omega)))) ?_;rintro _ _ ⟨_,rfl,fb,kt,rfl,rfl⟩;refine wn Z<|wq<|wm Z<|wy (aQ aa Z)<|wa (dL aa zb3 Z Z) ?_;rintro _ _ ⟨ka,rfl,rfl⟩;refine bK (v:=sl (GG ka) order.length order.length) Z<|wn Z<|aD<|wq<|wm Z<|wy (aQ aa Z)<|wm Z<|aA<|aH ?_;refine gG (λ(q:Int) (S:List Int) (Lr:List Int)=>[(1,sl ur keys.length ux),(13,sl fb ((dE V).length) kt),(14,sl (GG ka) order.length order.length),(56,sl nh order.length nv),(57,I ((order.length:Nat):Int)),(58,I q)]) (λq S Lr=>[(ri 3 (GG ka) order.length order.length Lr),(ri 3 fb ((dE V).length) kt S),(ri 3 (GG gg) ((k).toNat) ((k).toNat) V),(ri 3 bm ((k).toNat) bl (eD keys k))]) (λq S Lr=>(0<=q)/\(q<=order.length)/\(DJ order keys S Lr k q)) (λq S Lr=>(order.length-q).toNat) ?_ ?_
  ·exact⟨0,dE V,List.replicate order.length (0:Int),⟨G,G,(by rw[w6];exact aEh)⟩,SA,λ_ h=>h⟩
  intro q S Lr ⟨kf,yp,hP⟩;refine wq<|wL Z Z<|aA<|aD<|bF Z (λfj=> ?_) (λfj=> ?_)
  ·have hi:=ho _ (bN (L:=order) kf G);have hx:=Pn _ (bN (L:=order) kf G);have bc:=hP.lt Pn kf G;have yk:=hP.len;have ua:=hP.alen;refine aL<|aD<|aH<|wq<|wy (aI aa sz3 Z Z (qe.c _))<|wy (aW ak Z Z (qe.c _))<|wn Z<|wq<|wm Z<|wm Z<|wm Z<|wm Z ?_;refine wy (aI aa sz3 Z Z (oa.c _))<|wy (aW ak Z Z (oa.c _))<|wy (aI aa sz3 Z Z (rdr 1 Z))<|wy (aW ak Z Z (rdr 1 Z))<|wm Z<|wy (aI aa sz3 Z Z (rdr 0 Z))<|bY (bJ 0 Z sz3 Z Z) ?_;rintro _ _ rfl;refine aA<|aN<|wm Z<|wm Z<|wm Z<|wy (aI aa sz3 Z Z (oa.c _))<|wy (aW ak Z Z (oa.c _))<|wy (aI aa sz3 Z Z (rdr 1 Z))<|wy (aW ak Z Z (rdr 1 Z))<|wA Z Z<|wy (aI aa sz3 Z Z (rdr 1 Z))<|bY (bJ 1 Z sz3 Z Z) ?_;rintro _ _ rfl;refine aA<|aN<|wA Z Z<|wm Z<|aA ?_;exact⟨q+1,upd S (rd keys (rd order q)) ((rd S (rd keys (rd order q)))+1),upd Lr (rd S (rd keys (rd order q))) (rd order q),⟨G,G,(hP.step Pn kf G)⟩,G,SA,λ_ h=>h⟩
  ·refine aY<|wq<|wm Z<|wg Z<|wn Z<|aT [0] 99 cC Z ?_;refine⟨_,_,Z,Z,?_⟩;have e:=hP.done Pn G;subst e;exact⟨_,_,Z,Z⟩
variable {w:World} {n i j k:Int} {cr:Option Addr} {gw cq:Nat} {s:List Int}
theorem lW {r:Int} (hr:0<=r/\r<=2) (hn:0<=n/\n<=1000000):
  Ct Tryz.prog 293 #[I n,I r] w.heap.size w [] (λv R'=> ∃A c,v=sl A (plc n.toNat r.toNat).length c/\R'=[(ri 3 A ((plc n.toNat r.toNat).length) c (plc n.toNat r.toNat))]):=by
 refine fn1 Tryz.func293 Z Z Z ?_;refine wq<|wn Z<|wq<|dB (R1:=[(ri 3 none 0 0 ([]))]) (Sub.refl _) (λ_ h=>h.nil 3 1)<|wn Z<|aD<|wq<|wm Z<|wn Z ?_;refine aH ?_;refine mK (λ(A1:Option Addr) (n1:Nat) (c1:Nat) (a1:List Int) (i:Int) (k:Nat)=>[(0,I n),(5,sl A1 n1 c1),(6,I i)]) (λA1 n1 c1 a1 i k=>[(ri 3 A1 n1 c1 a1)]) (λA1 n1 c1 a1 i k=>(n1=a1.length)/\(i=r+3*k)/\(a1=OP r.toNat k)/\(r+3*(k:Int)<n+3)) (λA1 n1 c1 a1 i k=>(n-i).toNat) ?_ ?_
 ·exact⟨none,0,0,[],r,0,⟨(Z),G,(Z),G⟩,SA,λ_ h=>h⟩
 intro A1 n1 c1 a1 i k ⟨co,hi,ba,hk⟩;have tk:=bq List.length ba;rw[YS] at tk;refine aD<|wq<|wm Z<|wm Z<|wL Z Z<|aA<|bF Z (λaq=> ?_) (λaq=> ?_)
 ·refine aL<|aD<|aH<|aN<|wm Z<|wm Z<|wa (bL .i64 [i] aa zs3 Z Z Z) ?_;rintro _ _ ⟨cm,rfl,rfl⟩;refine wa (aV 1 Z aa zb3 Z Z Z (rdr 0 Z)) ?_;rintro _ _ ⟨ff,fh,rfl,rfl⟩;refine bK (v:=sl ff (n1+1) fh) Z<|wn Z<|aN<|wm Z<|wA Z Z<|wn Z ?_;exact⟨ff,n1+1,fh,a1++([i]),i+3,(k+1),⟨(by simp only[ah,co];try rfl),G,(by rw[aMp,<-ba,show((r.toNat:Nat):Int)+3*(k:Int)=i by omega]),G⟩,G,SA,λ_ h=>h.sel [1] cC Z⟩
 ·refine aY<|wq<|wm Z<|wn Z<|aT [0] 99 cC Z ?_;refine⟨_,Z,?_⟩;obtain rfl:k=(n.toNat+2-r.toNat)/3:=G
  subst ba;obtain rfl:=co;exact⟨_,_,Z,Z⟩
theorem XP (hn:0<=n/\n<=100000):
  Ct Tryz.prog 322 #[I n] w.heap.size w [] (λv R'=> ∃A c,v=sl A (smp n.toNat).length c/\R'=[(ri 3 A ((smp n.toNat).length) c (smp n.toNat))]):=by
 refine fn1 Tryz.func322 Z Z Z ?_;refine wq<|wn Z<|aD<|wq<|wm Z<|wL Z Z<|wm Z<|dD 3 [(0,I n),(8, .bool (decide ((n<0)\/(100000<n))))] [] ?_ ?_
 ·refine bV 5 Z (λaq=> ?_) (λaq=> ?_)
  ·refine aP Z Z Z Z<|aP Z Z Z Z<|wy (bB Z Z)<|aA ?_;exact⟨SA,λ_ h=>h⟩
  ·refine aC Z Z<|wm Z<|aC Z Z<|wy (dJ Z Z)<|wy (aS Z Z)<|aA ?_;exact⟨SA,λ_ h=>h⟩
 refine pI 8 Z G<|aA<|aJ Z<|aL<|wq<|wm Z<|wa (aF RP Z (Ct.fresh (λw hw=>lW cE G))) ?_;rintro _ _ ⟨_,rfl,bm,bl,rfl,rfl⟩;refine jC (R1:=[(ri 3 bm ((plc n.toNat 1).length) bl (plc n.toNat 1))]) Z<|bK (v:=sl bm ((plc n.toNat 1).length) bl) Z<|wm Z<|wa (aF RP Z (Ct.fresh (λw hw=>lW cE G))) ?_;rintro _ _ ⟨_,rfl,ir,iu,rfl,rfl⟩;refine jC (R1:=[(ri 3 ir ((plc n.toNat 2).length) iu (plc n.toNat 2)),(ri 3 bm ((plc n.toNat 1).length) bl (plc n.toNat 1))]) Z<|bK (v:=sl ir ((plc n.toNat 2).length) iu) Z<|wa (aV 1 Z aa zb3 Z Z Z (rdr 0 Z) (by have:=jQ n.toNat 1;have:=jQ n.toNat 2;omega)) ?_;rintro _ _ ⟨du,dp,rfl,rfl⟩;refine jC (R1:=[(ri 3 ir ((plc n.toNat 2).length) iu (plc n.toNat 2)),(ri 3 du (((plc n.toNat 1).length)+((plc n.toNat 2).length)) dp ((plc n.toNat 1)++(plc n.toNat 2)))]) Z<|bK (v:=sl du (((plc n.toNat 1).length)+((plc n.toNat 2).length)) dp) Z<|wn Z<|aT [1] 99 cC Z ?_;refine⟨_,Z,?_⟩;have e:(plc n.toNat 1).length+(plc n.toNat 2).length=(smp n.toNat).length:=(ah ..).symm;rw[e];exact⟨_,_,Z,Z⟩
theorem wH {s:List Int} (bb:Rd w cr gw cq 1 (ints .i64 s)) (hi:0<=i) (hs: ∀x∈s,0<=x/\x<=1000000):
  Ct Tryz.prog 324 #[sl cr gw cq,I i] w.heap.size w [] (λv R'=>v=I (iN s i)):=by
 obtain rfl:=bb.lenI;refine fn1 Tryz.func324 Z Z Z ?_;have xb:=bb.max;refine wq<|wn Z<|aD<|wq<|wm Z<|wm Z<|wy (aQ aa Z)<|wy (gZ Z Z)<|aA<|bF Z (λaq=> ?_) (λaq=> ?_)
 ·refine wq<|wn Z<|bW ?_;refine⟨_,Z,?_⟩;exact bq (Value.int .i64) (by unfold iN;rw[df G])
 ·have hm:=hs _ (bN (L:=s) hi G);refine aL<|wq<|wm Z<|wm Z<|wy (aI aa sz3 Z Z (bb.c _))<|wy (aW ak Z Z (bb.c _))<|wA Z Z<|wn Z<|bW ?_;refine⟨_,Z,?_⟩;exact bq (Value.int .i64) (by unfold iN;rw[bu G])
theorem RB {s:List Int} {b:Int} (bb:Rd w cr gw cq 1 (ints .i64 s)) (hb:0<=b/\b<=2) (hs: ∀x∈s,0<=x/\x<=1000000) (hN:s.length<=1000000):
  Ct Tryz.prog 295 #[sl cr gw cq,I b] w.heap.size w [] (λv R'=> ∃A c,v=sl A (s.length) c/\R'=[(ri 3 A s.length c (fU s b))]):=by
 obtain rfl:=bb.lenI;refine fn1 Tryz.func295 Z Z Z ?_;have xb:=bb.max;refine wq<|wn Z<|wq<|wm Z<|wy (aQ aa Z)<|wa (dL aa zb3 Z Z) ?_;rintro _ _ ⟨an,rfl,rfl⟩;refine bK (v:=sl (GG an) s.length s.length) Z<|wn Z<|aD<|wq<|wm Z<|wy (aQ aa Z)<|wm Z<|aA<|aH ?_;refine dR (λ(i:Int) (V:List Int)=>[(0,sl cr s.length cq),(1,I b),(5,sl (GG an) s.length s.length),(11,I ((s.length:Nat):Int)),(12,I i)]) (λi V=>[(ri 3 (GG an) s.length s.length V)]) (λi V=>(0<=i)/\(i<=s.length)/\(V.length=s.length)/\(∀j:Int,0<=j->j<i->rd V j=iN s (j+b))) (λi V=>(s.length-i).toNat) ?_ ?_
 ·exact⟨0,List.replicate s.length (0:Int),⟨G,G,(by rw[cz]),(λj h1 h2=>G)⟩,SA,λ_ h=>h⟩
 intro i V ⟨ar,jj,lz,hV⟩;refine wq<|wL Z Z<|aA<|aD<|bF Z (λaq=> ?_) (λaq=> ?_)
 ·refine aL<|aD<|aH<|wq<|wm Z<|wn Z<|aN<|wm Z<|wm Z<|wm Z<|wm Z<|wm Z<|wA Z Z ?_;refine wa (aF aAw Z (Ct.quiet (λw hw=>wH ((bb.c _) w hw) G cE))) ?_;rintro _ _ ⟨rfl,rfl⟩;refine wy (aI aa sz3 Z Z (rdr 0 Z))<|bY (bJ 0 Z sz3 Z Z) ?_;rintro _ _ rfl;refine aA<|aN<|wA Z Z<|wm Z<|aA ?_;exact⟨i+1,upd V i (iN s (i+b)),⟨G,G,(by rw[bD];exact lz),(eX (f:=λj=>iN s (j+b)) ar G hV Z)⟩,G,SA,λ_ h=>h⟩
 ·refine aY<|wq<|wm Z<|wn Z<|aT [0] 99 cC Z ?_;refine⟨_,Z,?_⟩;obtain rfl:V=fU s b:=aUn lz (λj h1 h2=>hV j h1 G);exact⟨_,_,Z,Z⟩
theorem aGy {s:List Int} (bb:Rd w cr gw cq 1 (ints .i64 s)) (hi:0<=i/\i<=1000000) (hj:0<=j/\j<=1000000) (hs: ∀x∈s,0<=x/\x<=1000000):
  Ct Tryz.prog 323 #[sl cr gw cq,I i,I j] w.heap.size w [] (λv R'=>v= .bool (decide (PC s i j))):=by
 obtain rfl:=bb.lenI;refine fn1 Tryz.func323 Z Z Z ?_;have xb:=bb.max;refine wq<|wn Z<|aD<|wq<|wm Z<|aA<|aH ?_;refine jD (λ(b:Int)=>[(0,sl cr s.length cq),(1,I i),(2,I j),(8,I b)]) (λb=>[]) (λb=>(0<=b)/\(b<=3)/\(∀c:Int,0<=c->c<b->iN s (i+c)=iN s (j+c))) (λb=>(3-b).toNat) ?_ ?_
 ·exact⟨0,⟨G,G,(λc h1 h2=>G)⟩,SA,λ_ h=>h⟩
 intro b ⟨m8,La,hk⟩;refine wq<|wL Z Z<|aA<|aD<|bF Z (λaq=> ?_) (λaq=> ?_)
 ·refine aL<|aD<|aH<|wq<|wm Z<|wn Z<|wq<|wm Z<|wm Z<|wm Z<|wA Z Z<|wa (aF aAw Z (Ct.quiet (λw hw=>wH ((bb.c _) w hw) G cE))) ?_;rintro _ _ ⟨rfl,rfl⟩;refine wm Z<|wm Z<|wm Z<|wA Z Z<|wa (aF aAw Z (Ct.quiet (λw hw=>wH ((bb.c _) w hw) G cE))) ?_;rintro _ _ ⟨rfl,rfl⟩;refine wy (gU Z Z)<|aA<|bF Z (λce=> ?_) (λce=> ?_)
  ·refine wq<|wn Z<|bW ?_;refine⟨_,Z,?_⟩;exact bq Value.bool (oh (aYh m8 G ce)).symm
  ·refine aL<|aN<|wA Z Z<|wm Z<|aA ?_;exact⟨b+1,⟨G,G,(λc h1 h2=>(bi c b).elim (hk c h1) λg=>by rw[show c=b by omega];exact xk.1 ce)⟩,G,SA,λ_ h=>h⟩
 ·refine aY<|wq<|wn Z<|bW ?_;refine⟨_,Z,?_⟩;exact bq Value.bool (nk (bDe λc h1 h2=>hk c h1 G)).symm
theorem aNg {s:List Int} {Kl:Option Addr} {Tz Kq:Nat} {rk:List Int} {o:List Int} (bb:Rd w cr gw cq 1 (ints .i64 s)) (m7:Rd w Kl Tz Kq 1 (ints .i64 rk)) (hR:RkO s o rk) (hi:(0<=i/\i<s.length)/\i%3≠0) (hj:(0<=j/\j<s.length)/\j%3=0) (hs: ∀x∈s,0<=x/\x<=1000000) (hN:s.length<=1000000):
  Ct Tryz.prog 296 #[sl cr gw cq,sl Kl Tz Kq,I i,I j] w.heap.size w [] (λv R'=>v= .bool (decide (cmpL (s.drop i.toNat) (s.drop j.toNat)<0))):=by
 obtain rfl:=bb.lenI;obtain rfl:=m7.lenI;refine fn1 Tryz.func296 Z Z Z ?_;have xb:=bb.max;have m_rk:=m7.max;have nn:Nn s:=λx hx=>(hs x hx).1;refine wq<|wn Z<|aH ?_;refine gG (λ(p:Int) (q:Int) (c:Nat)=>[(0,sl cr s.length cq),(1,sl Kl rk.length Kq),(2,I p),(3,I q)]) (λp q c=>[]) (λp q c=>(p=i+c)/\(q=j+c)/\(EqH c (eu s i.toNat) (eu s j.toNat))/\(c=0\/c=1/\i%3=2)) (λp q c=>2-c) ?_ ?_
 ·exact⟨i,j,0,⟨G,G,(λd hd=>G),(.inl rfl)⟩,SA,λ_ h=>h⟩
 intro p q c ⟨hp,hq,he,hc⟩;have hcc:c<=1:=G
 have lz:=hR.len;refine aH<|aD<|wq<|wm Z<|wm Z<|wa (aF aAw Z (Ct.quiet (λw hw=>wH ((bb.c _) w hw) G cE))) ?_;rintro _ _ ⟨rfl,rfl⟩;refine wm Z<|wm Z<|wa (aF aAw Z (Ct.quiet (λw hw=>wH ((bb.c _) w hw) G cE))) ?_;rintro _ _ ⟨rfl,rfl⟩;refine wg Z<|wn Z<|wq<|wm Z<|wm Z<|wy (gU Z Z)<|aA<|bF Z (λaq=> ?_) (λaq=> ?_)
 ·refine wq<|wm Z<|wm Z<|wL Z Z<|wn Z<|bW ?_;refine⟨_,Z,?_⟩;exact bq Value.bool (yg.2 (by subst hp hq;rw[gT];exact aUf nn hi.1.1 hj.1.1 he aq))
 ·have he2:=bBs nn hi.1.1 hj.1.1 he (by rw[<-hp,<-hq];exact xk.1 aq);refine aL<|wq<|wm Z<|wA Z Z<|wm Z<|wA Z Z<|wg Z<|wn Z<|wq<|wm Z<|wy (uN Z Z)<|wy (gU Z Z) ?_;refine wm Z<|dD 4 [(0,sl cr s.length cq),(1,sl Kl rk.length Kq),(2,I (p+1)),(3,I (q+1)),(34, .bool (decide ((((p+1)%3)≠0)/\(((q+1)%3)≠0))))] [] ?_ ?_
  ·refine bV 30 Z (λce=> ?_) (λce=> ?_)
   ·refine aC Z Z<|wm Z<|aC Z Z<|wy (uN Z Z)<|aC Z Z<|wy (gU Z Z)<|wy (bB Z Z)<|aA ?_;exact⟨SA,λ_ h=>h⟩
   ·refine aP Z Z Z Z<|aP Z Z Z Z<|aP Z Z Z Z<|wy (aS Z Z)<|aA ?_;exact⟨SA,λ_ h=>h⟩
  refine aA<|bF Z (λfj=> ?_) (λfj=> ?_)
  ·have Sr:=aNf hR hi.1 hj.1 G he2 G G;rw[show i+((c+1:Nat):Int)=p+1 by omega,show j+((c+1:Nat):Int)=q+1 by omega] at Sr;refine aD<|bP mixed<|wD 0 Z (aM Z)<|wD 1 Z (aM Z)<|wD 2 Z (aM Z)<|wD 3 Z (aQ aa Z)<|wD 4 Z (rV Z Z)<|wD 5 Z (aI aa sz3 Z Z (m7.c _))<|wD 6 Z (aW ak Z Z (m7.c _))<|wD 7 Z (aM Z)<|wD 8 Z (aM Z)<|wD 9 Z (aM Z)<|wD 10 Z (aQ aa Z)<|wD 11 Z (rV Z Z)<|wD 12 Z (aI aa sz3 Z Z (m7.c _)) ?_;refine wD 13 Z (aW ak Z Z (m7.c _))<|wD 14 Z (eG Z Z)<|wD 15 Z (bG Z)<|wN<|bW ?_;refine⟨_,Z,?_⟩;exact bq Value.bool (yg.2 (by rw[gT,Et Sr.1.1,Et Sr.1.2];exact Sr.2))
  ·refine aL ?_;exact⟨p+1,q+1,(c+1),⟨G,G,(he2),G⟩,G,SA,λ_ h=>h⟩
set_option maxHeartbeats 4000000 in
theorem OO {w:World} {s:List Int} (bb:Rd w cr gw cq 1 (ints .i64 s)) (IH: ∀ {w:World} {pe:Option Addr} {rn pf:Nat} {t:List Int} {j:Int},Rd w pe rn pf 1 (ints .i64 t)->t.length<s.length->((0<=j/\j<=1000000)/\ ∀x∈t,0<=x/\x<j)->t.length<=100000->Ct Tryz.prog 266 #[sl pe rn pf,I j] w.heap.size w [] (λv R'=> ∃(b:List Int) (A:Option Addr) (c:Nat),v=sl A t.length c/\b.Perm (iota t.length)/\b.Pairwise (bX t)/\R'=[(ri 3 A t.length c b)])) (dg:(0<=k/\k<=1000000)/\ ∀x∈s,0<=x/\x<k) (hN:s.length<=100000) (h2:2<=s.length):
  Ct Tryz.prog 294 #[sl cr gw cq,I k] w.heap.size w [] (λv R'=> ∃(o V:List Int) (A A':Option Addr) (c c' m:Nat),v= .tuple #[sl A o.length c,sl A' m c']/\m=V.length/\RkO s o V/\(∀(B:Nat) (w0 w:World),Hp B w0 w R'->Rd w A o.length c 1 (ints .i64 o))/\ ∀(B:Nat) (w0 w:World),Hp B w0 w R'->Rd w A' V.length c' 1 (ints .i64 V)):=by
 obtain rfl:=bb.lenI;refine fn2 Tryz.func294 Z Z Z ?_;have xb:=bb.max;have nn:Nn s:=λx hx=>(dg.2 x hx).1;have vj: ∀x∈s,0<=x/\x<=1000000:=λx hx=>by have:=dg.2 x hx;omega
 have lp1:=jQ s.length 1;have lp2:=jQ s.length 2;have lsm:=AC s.length;refine wq<|dB (R1:=((ri 3 none 0 0 ([]))::[])) (Sub.refl _) (λ_ h=>h.nil 3 1)<|wg Z<|wn Z<|wq<|wm Z<|wy (aQ aa Z)<|wa (aF bKf Z (Ct.fresh (λw hw=>XP G))) ?_;rintro _ _ ⟨_,rfl,bm,bl,rfl,rfl⟩;refine bK (v:=sl bm ((smp s.length).length) bl) Z<|wn Z<|wq<|wm Z<|wn Z<|aD<|wq<|wn Z<|aH ?_;refine WJ (λ(b:Int) (A1:Option Addr) (n1:Nat) (c1:Nat) (O:List Int) (A6:Option Addr) (n6:Nat) (c6:Nat) (j:Nat) (Rs:List Row)=>[(0,sl cr s.length cq),(1,I k),(4,sl A1 n1 c1),(6,sl A6 n6 c6),(7,I b)]) (λb A1 n1 c1 O A6 n6 c6 j Rs=>((ri 3 none 0 0 ([]))::Rs)) (λb A1 n1 c1 O A6 n6 c6 j Rs=>(b=2-j)/\(j<=3)/\(O=bFr s k j)/\(n1=O.length)/\(n6=(smp s.length).length)/\(∀(B:Nat) (w0 w:World),Hp B w0 w Rs->Rd w A1 n1 c1 1 (ints .i64 O))/\(∀(B:Nat) (w0 w:World),Hp B w0 w Rs->Rd w A6 n6 c6 1 (ints .i64 (smp s.length)))) (λb A1 n1 c1 O A6 n6 c6 j Rs=>(b+1).toNat) ?_ ?_
 ·exact⟨2,bm,(smp s.length).length,bl,(smp s.length),bm,(smp s.length).length,bl,0,((ri 3 bm ((smp s.length).length) bl (smp s.length))::[]),⟨G,G,(Z),(Z),(Z),(λB w0 w h=>rdr 0 Z w h),(λB w0 w h=>rdr 0 Z w h)⟩,SA,λ_ h=>h.selR (F:=[_,_]) (F':=[_,_]) [1,0] cC Z⟩
 intro b A1 n1 c1 O A6 n6 c6 j Rs ⟨hj,hj3,hO,co,hn6,h4,h6⟩;have r9:=DU dg.2 dg.1.1 j hj3;rw[<-hO] at r9;have Uk:=r9.length_eq;rw[AC] at Uk;refine aD<|wq<|wm Z<|wy (gZ Z Z)<|aA<|bF Z (λaq=> ?_) (λaq=> ?_)
 ·have e7:0<=b/\b<=2:=G
  have sr:O.length=(dC O (fU s b) (k+1).toNat).length:=((pR dg.2 dg.1.1 e7.1 (λx hx=>nJ (r9.subset hx))).length_eq).symm;refine aL<|aD<|aH<|aN<|wm Z<|wm Z<|wm Z<|wa (aF bEi Z (Ct.fresh (λw hw=>RB ((bb.c _) w hw) G vj G))) ?_;rintro _ _ ⟨_,rfl,ff,fh,rfl,rfl⟩;refine wm Z<|wA Z Z<|wa (aF ML Z (Ct.fresh (λw hw=>uB ((λ_ h=>h4 _ _ _ (h.right (R':=[_,_]))) w hw) ((rdr 0 Z) w hw) G (ZX dg.2 dg.1.1 G) (λx hx=>by have:=nJ (r9.subset hx);rw[EQ];omega) G))) ?_;rintro _ _ ⟨_,rfl,fb,kt,rfl,rfl⟩;refine wm Z<|wX Z Z<|wX Z Z<|wn Z<|aN<|wm Z<|wS Z Z<|wn Z ?_;exact⟨b-1,fb,(O).length,kt,(dC O (fU s b) (k+1).toNat),A6,n6,c6,(j+1),((ri 3 fb ((O).length) kt (dC O (fU s b) ((k+1)).toNat))::Rs),⟨G,G,(by rw[hO,hj];rfl),(sr),(hn6),(λB w0 w h=>rdr 0 Z w h),(λB w0 w h=>h6 B w0 w h.tail)⟩,G,SA,λ_ h=>h.selR (F:=[_,_,_]) (F':=[_,_]) [2,0] cC Z⟩
 ·have hO3:O=bFs s k:=by rw[hO,show j=3 by omega];rfl
  have hOs:=aDf dg.2 dg.1.1;rw[<-hO3] at hOs;refine aY<|wq<|wm Z<|wy (aQ aa Z)<|wA Z Z<|wa (dL aa zb3 Z Z) ?_;rintro _ _ ⟨oe,rfl,rfl⟩;refine bK (v:=sl (GG oe) ((((s.length:Nat):Int)+3).toNat) ((((s.length:Nat):Int)+3).toNat)) Z<|wn Z<|wq<|wn Z<|aD<|wq<|wm Z<|wy (aQ aa Z)<|wm Z<|aA<|aH ?_;refine gG (λ(q:Int) (n:Int) (V:List Int)=>[(0,sl cr s.length cq),(4,sl A1 n1 c1),(5,sl (GG oe) ((((s.length:Nat):Int)+3).toNat) ((((s.length:Nat):Int)+3).toNat)),(6,sl A6 n6 c6),(8,I n),(43,sl A1 n1 c1),(44,I ((n1:Nat):Int)),(45,I q)]) (λq n V=>((ri 3 (GG oe) ((((s.length:Nat):Int)+3).toNat) ((((s.length:Nat):Int)+3).toNat) V)::(ri 3 none 0 0 ([]))::Rs)) (λq n V=>(0<=q)/\(q<=O.length)/\(RkI s O V q n)) (λq n V=>(O.length-q).toNat) ?_ ?_
  ·exact⟨0,0,List.replicate ((((s.length:Nat):Int)+3).toNat) (0:Int),⟨G,G,(by rw[show(((s.length:Nat):Int)+3).toNat=s.length+3 by omega];exact aSa)⟩,SA,λ_ h=>h⟩
  intro q n V ⟨kf,yp,hI⟩;have lz:=hI.len;have hnq:=hI.nq;have Lh:=hI.n0;refine wq<|wL Z Z<|aA<|aD<|bF Z (λce=> ?_) (λce=> ?_)
  ·have If:0<=q-> ∀p:Int,0<=p->p<O.length->0<=rd O p/\rd O p<s.length:=λ_ p a b=>nJ (r9.subset (bN a b));refine aL<|aD<|aH<|wq<|wm Z<|wy (aI aa sz3 Z Z (λ_ h=>h4 _ _ _ (h.right (R':=[_,_]))))<|wy (aW ak Z Z (λ_ h=>h4 _ _ _ (h.right (R':=[_,_]))))<|wg Z<|wn Z<|aD<|wq<|wm Z ?_;refine wy (aX Z Z)<|wm Z<|dD 10 [(0,sl cr s.length cq),(4,sl A1 n1 c1),(5,sl (GG oe) ((((s.length:Nat):Int)+3).toNat) ((((s.length:Nat):Int)+3).toNat)),(6,sl A6 n6 c6),(8,I n),(10,I (rd O q)),(43,sl A1 n1 c1),(44,I ((n1:Nat):Int)),(45,I q),(62, .bool (decide ((q=0)\/(¬(PC s (rd O (q-1)) (rd O q))))))] ((ri 3 (GG oe) ((((s.length:Nat):Int)+3).toNat) ((((s.length:Nat):Int)+3).toNat) V)::(ri 3 none 0 0 ([]))::Rs) ?_ ?_
   ·refine bV 52 Z (λfj=> ?_) (λfj=> ?_)
    ·refine aP Z Z Z Z<|aP Z Z Z Z<|aP Z Z Z Z<|aP Z Z Z Z<|aP Z Z Z Z<|aP Z Z Z Z<|aP Z Z Z Z<|aP Z Z Z Z<|aP Z Z Z Z<|wy (bB Z Z)<|aA ?_;exact⟨SA,λ_ h=>h⟩
    ·refine aC Z Z<|wm Z<|aC Z Z<|wm Z<|aC Z Z<|wm Z<|aC Z Z<|wS Z Z<|aC Z Z<|wy (aI aa sz3 Z Z (λ_ h=>h4 _ _ _ (h.right (R':=[_,_]))))<|aC Z Z<|wy (aW ak Z Z (λ_ h=>h4 _ _ _ (h.right (R':=[_,_]))))<|aC Z Z<|wm Z<|aC Z Z ?_;refine wa (aF bKe Z (Ct.quiet (λw hw=>aGy ((bb.c _) w hw) (by have:=If kf (q-1) G G;omega) (by have:=If kf q G G;omega) vj))) ?_;rintro _ _ ⟨rfl,rfl⟩;refine aC Z Z<|wy (DT Z)<|wy (aS Z Z)<|aA ?_;exact⟨SA,λ_ h=>h⟩
   refine aA<|bF Z (λkl=> ?_) (λkl=> ?_)
   ·refine aN<|wm Z<|wA Z Z<|wn Z<|aN<|wm Z<|wm Z<|wm Z<|wy (aI aa sz3 Z Z (rdr 0 Z) (by have:=If kf q G G;omega) (by have:=If kf q G G;omega)) ?_;refine bY (bJ 0 Z sz3 Z Z (by have:=If kf q G G;omega) (by have:=If kf q G G;omega)) ?_;rintro _ _ rfl;refine aA<|aN<|wA Z Z<|wm Z<|aA ?_;exact⟨q+1,n+1,upd V (rd O q) (n+1),⟨G,G,(hI.step r9 kf G (.inl ⟨Z,bGu nn r9 hOs kf G kl⟩))⟩,G,SA,λ_ h=>h⟩
   ·refine aL<|aN<|wm Z<|wm Z<|wm Z<|wy (aI aa sz3 Z Z (rdr 0 Z) (by have:=If kf q G G;omega) (by have:=If kf q G G;omega)) ?_;refine bY (bJ 0 Z sz3 Z Z (by have:=If kf q G G;omega) (by have:=If kf q G G;omega)) ?_;rintro _ _ rfl;refine aA<|aN<|wA Z Z<|wm Z<|aA ?_;exact⟨q+1,n,upd V (rd O q) n,⟨G,G,(hI.step r9 kf G (.inr ⟨Z,bGs nn r9 kf G kl⟩))⟩,G,SA,λ_ h=>h⟩
  ·have Uh:RkI s O V O.length n:=by have e:q=O.length:=G;rw[<-e];exact hI
   refine aY<|aD<|wq<|wm Z<|wm Z<|wy (aQ aa Z)<|wy (aX Z Z)<|aA<|bF Z (λmd=> ?_) (λmd=> ?_)
   ·refine wq<|wm Z<|wm Z<|wg Z<|wn Z<|aT [0] 2 cC Z ?_;refine⟨_,_,Z,Z,?_⟩;obtain rfl:=co;have Rf:(((s.length:Nat):Int)+3).toNat=V.length:=by have:=Uh.len;omega
    exact⟨O,V,_,_,_,_,_,Z,Rf,Uh.all r9 G,λB w0 w h=>h4 B w0 w h.tail,λB w0 w h=>by rw[<-Rf];exact rdr 0 rfl w h⟩
   ·have hF:=Uh.done r9;have h4l:4<=s.length:=Io.1 λg=>md (by have:=Uh.short r9 h2 G;omega);refine aL<|wq<|wm Z<|wy (aQ aa Z)<|wa (aF RP Z (Ct.fresh (λw hw=>lW cE G))) ?_;rintro _ _ ⟨_,rfl,bo,bp,rfl,rfl⟩;refine bK (v:=sl bo ((plc s.length 1).length) bp) Z<|wn Z<|wq<|dB (R1:=((ri 3 none 0 0 ([]))::(ri 3 bo ((plc s.length 1).length) bp (plc s.length 1))::(ri 3 (GG oe) ((((s.length:Nat):Int)+3).toNat) ((((s.length:Nat):Int)+3).toNat) V)::(ri 3 none 0 0 ([]))::Rs)) (Sub.refl _) (λ_ h=>h.nil 3 1)<|wn Z<|aD<|wq<|wm Z<|wy (aQ aa Z)<|wm Z<|aA ?_;refine aH ?_;refine fH (λ(A2:Option Addr) (n2:Nat) (c2:Nat) (a2:List Int) (i:Int)=>[(0,sl cr s.length cq),(5,sl (GG oe) ((((s.length:Nat):Int)+3).toNat) ((((s.length:Nat):Int)+3).toNat)),(6,sl A6 n6 c6),(8,I n),(11,sl bo ((plc s.length 1).length) bp),(12,sl A2 n2 c2),(79,sl bo ((plc s.length 1).length) bp),(80,I (((plc s.length 1).length:Nat):Int)),(81,I i)]) (λA2 n2 c2 a2 i=>((ri 3 A2 n2 c2 a2)::(ri 3 bo ((plc s.length 1).length) bp (plc s.length 1))::(ri 3 (GG oe) ((((s.length:Nat):Int)+3).toNat) ((((s.length:Nat):Int)+3).toNat) V)::(ri 3 none 0 0 ([]))::Rs)) (λA2 n2 c2 a2 i=>(n2=a2.length)/\(0<=i)/\(i<=(plc s.length 1).length)/\(a2=((plc s.length 1).take i.toNat).map (rd V))) (λA2 n2 c2 a2 i=>((plc s.length 1).length-i).toNat) ?_ ?_
    ·exact⟨none,0,0,[],0,⟨(Z),G,G,(Z)⟩,SA,λ_ h=>h⟩
    intro A2 n2 c2 a2 i ⟨sf,ar,jj,Np⟩;have Ns:=bq List.length Np;rw[bz,ax] at Ns;refine wq<|wL Z Z<|aA<|aD<|bF Z (λvt=> ?_) (λvt=> ?_)
    ·have Pr:=(kC (n:=s.length) (r:=1) G).1 (bN (L:=plc s.length 1) ar G);refine aL<|aD<|aH<|wq<|wy (aI aa sz3 Z Z (rdr 1 Z))<|wy (aW ak Z Z (rdr 1 Z))<|wn Z<|aN<|wm Z<|wm Z<|wm Z<|wy (aI aa sz3 Z Z (rdr 2 Z))<|wy (aW ak Z Z (rdr 2 Z)) ?_;refine wa (bL .i64 [rd V (rd (plc s.length 1) i)] aa zs3 Z Z Z) ?_;rintro _ _ ⟨jp,rfl,rfl⟩;refine wa (aV 1 Z aa zb3 Z Z Z (rdr 0 Z)) ?_;rintro _ _ ⟨fd,fg,rfl,rfl⟩;refine bK (v:=sl fd (n2+1) fg) Z<|wn Z<|aN<|wA Z Z<|wm Z<|aA ?_;exact⟨fd,n2+1,fg,a2++([rd V (rd (plc s.length 1) i)]),i+1,⟨(by simp only[ah,sf];try rfl),G,G,(by rw[dH ar G,jo,Np];rfl)⟩,G,SA,λ_ h=>h.selR (F:=[_,_,_,_,_]) (F':=[_,_,_,_]) [1,2,3,4] cC Z⟩
    ·refine aY<|wq<|wm Z<|wa (bL .i64 [0] aa zs3 Z Z Z) ?_;rintro _ _ ⟨m5,rfl,rfl⟩;refine wa (aV 1 Z aa zb3 Z Z Z (rdr 0 Z)) ?_;rintro _ _ ⟨un,fz,rfl,rfl⟩;refine bK (v:=sl un (n2+1) fz) Z<|wn Z<|aD<|wq<|wm Z<|wy (aQ aa Z)<|wa (aF RP Z (Ct.fresh (λw hw=>lW cE G))) ?_;rintro _ _ ⟨_,rfl,tg,ti,rfl,rfl⟩;refine bK (v:=sl tg ((plc s.length 2).length) ti) Z<|wy (aQ aa Z)<|wm Z<|aA<|aH ?_;refine fH (λ(A3:Option Addr) (n3:Nat) (c3:Nat) (a3:List Int) (u:Int)=>[(5,sl (GG oe) ((((s.length:Nat):Int)+3).toNat) ((((s.length:Nat):Int)+3).toNat)),(6,sl A6 n6 c6),(8,I n),(11,sl bo ((plc s.length 1).length) bp),(12,sl A3 n3 c3),(98,sl tg ((plc s.length 2).length) ti),(99,I (((plc s.length 2).length:Nat):Int)),(100,I u)]) (λA3 n3 c3 a3 u=>((ri 3 tg ((plc s.length 2).length) ti (plc s.length 2))::(ri 3 (GG m5) 1 1 ([0]))::(ri 3 A3 n3 c3 a3)::(ri 3 bo ((plc s.length 1).length) bp (plc s.length 1))::(ri 3 (GG oe) ((((s.length:Nat):Int)+3).toNat) ((((s.length:Nat):Int)+3).toNat) V)::(ri 3 none 0 0 ([]))::Rs)) (λA3 n3 c3 a3 u=>(n3=a3.length)/\(0<=u)/\(u<=(plc s.length 2).length)/\(a3=((plc s.length 1).map (rd V)++[0])++((plc s.length 2).take u.toNat).map (rd V))) (λA3 n3 c3 a3 u=>((plc s.length 2).length-u).toNat) ?_ ?_
     ·exact⟨un,n2+1,fz,a2++([0]),0,⟨(by simp only[ah,sf];try rfl),G,G,(by rw[Np,bn G];simp)⟩,SA,λ_ h=>h⟩
     intro A3 n3 c3 a3 u ⟨Uz,li,va,Nq⟩;have Wz:=bq List.length Nq;rw[ah,ah,bz,bz,ax,gq] at Wz;refine wq<|wL Z Z<|aA<|aD<|bF Z (λz7=> ?_) (λz7=> ?_)
     ·have Pr:=(kC (n:=s.length) (r:=2) G).1 (bN (L:=plc s.length 2) li G);refine aL<|aD<|aH<|wq<|wy (aI aa sz3 Z Z (rdr 0 Z))<|wy (aW ak Z Z (rdr 0 Z))<|wn Z<|aN<|wm Z<|wm Z<|wm Z<|wy (aI aa sz3 Z Z (rdr 4 Z))<|wy (aW ak Z Z (rdr 4 Z)) ?_;refine wa (bL .i64 [rd V (rd (plc s.length 2) u)] aa zs3 Z Z Z) ?_;rintro _ _ ⟨Nh,rfl,rfl⟩;refine wa (aV 3 Z aa zb3 Z Z Z (rdr 0 Z)) ?_;rintro _ _ ⟨nf,nj,rfl,rfl⟩;refine bK (v:=sl nf (n3+1) nj) Z<|wn Z<|aN<|wA Z Z<|wm Z<|aA ?_;exact⟨nf,n3+1,nj,a3++([rd V (rd (plc s.length 2) u)]),u+1,⟨(by simp only[ah,Uz];try rfl),G,G,(by rw[dH li G,jo,Nq,gy];rfl)⟩,G,SA,λ_ h=>h.selR (F:=[_,_,_,_,_,_,_]) (F':=[_,_,_,_,_,_]) [1,2,3,4,5,6] cC Z⟩
     ·have f9:a3=blw s V:=by rw[Nq,bn G];rfl
      refine aY<|wq<|wn Z<|aD<|wq<|wm Z<|wm Z<|wA Z Z<|wa (aF bEl Z (Ct.fresh (λw hw=>IH ((rdr 2 Z) w hw) (by rw[f9,uJ];omega) ⟨G,by rw[f9];exact aXx hF hI.n0⟩ (by rw[f9,uJ];omega)))) ?_;rintro _ _ ⟨_,rfl,b1,ox,oy,rfl,cv,dq,rfl⟩;refine wy (aQ aa Z)<|wm Z<|aA<|aH ?_;refine fH (λ(A4:Option Addr) (n4:Nat) (c4:Nat) (a4:List Int) (m:Int)=>[(4,sl A4 n4 c4),(5,sl (GG oe) ((((s.length:Nat):Int)+3).toNat) ((((s.length:Nat):Int)+3).toNat)),(6,sl A6 n6 c6),(11,sl bo ((plc s.length 1).length) bp),(115,sl ox a3.length oy),(116,I ((a3.length:Nat):Int)),(117,I m)]) (λA4 n4 c4 a4 m=>((ri 3 ox a3.length oy b1)::(ri 3 tg ((plc s.length 2).length) ti (plc s.length 2))::(ri 3 (GG m5) 1 1 ([0]))::(ri 3 A3 n3 c3 a3)::(ri 3 bo ((plc s.length 1).length) bp (plc s.length 1))::(ri 3 (GG oe) ((((s.length:Nat):Int)+3).toNat) ((((s.length:Nat):Int)+3).toNat) V)::(ri 3 A4 n4 c4 a4)::Rs)) (λA4 n4 c4 a4 m=>(n4=a4.length)/\(0<=m)/\(m<=b1.length)/\(a4=ofB s (b1.take m.toNat))) (λA4 n4 c4 a4 m=>(b1.length-m).toNat) ?_ ?_
      ·exact⟨none,0,0,[],0,⟨(Z),G,G,(Z)⟩,SA,λ_ h=>h⟩
      intro A4 n4 c4 a4 m ⟨Va,rm,na,w7⟩;have hbl1:b1.length=a3.length:=by rw[cv.length_eq,bI]
      have hal4:=bq List.length w7;have Xa:=bAy (s:=s) (b1.take m.toNat);rw[ax] at Xa;refine wq<|wL Z Z<|aA<|aD<|bF Z (λRu=> ?_) (λRu=> ?_)
      ·have Up:=bE.1 (cv.subset (bN (L:=b1) rm G));rw[f9,uJ] at Up;refine aL<|aD<|aH<|wq<|wy (aI aa sz3 Z Z (rdr 0 Z))<|wy (aW ak Z Z (rdr 0 Z))<|wn Z<|aH<|wq<|wm Z<|wm Z<|wy (aQ aa Z) ?_;refine wL Z Z<|wn Z<|bF Z (λXj=> ?_) (λXj=> ?_)
       ·refine aN<|wm Z<|wm Z<|wm Z<|wy (aI aa sz3 Z Z (rdr 4 Z))<|wy (aW ak Z Z (rdr 4 Z))<|wa (bL .i64 [rd (plc s.length 1) (rd b1 m)] aa zs3 Z Z Z) ?_;rintro _ _ ⟨g_30,rfl,rfl⟩;refine wa (aV 7 Z aa zb3 Z Z Z (rdr 0 Z)) ?_;rintro _ _ ⟨Qi,Qs,rfl,rfl⟩;refine bK (v:=sl Qi (n4+1) Qs) Z<|wn Z<|aN<|wA Z Z<|wm Z<|aA ?_;exact⟨Qi,n4+1,Qs,a4++([rd (plc s.length 1) (rd b1 m)]),m+1,⟨(by simp only[ah,Va];try rfl),G,G,(by rw[dH rm G,ZI G,w7,bHy Up.1 G])⟩,G,SA,λ_ h=>h.selR (F:=[_,_,_,_,_,_,_,_]) (F':=[_,_,_,_,_,_,_]) [1,2,3,4,5,6,7] cC Z⟩
       ·refine wq<|wm Z<|wm Z<|wy (aQ aa Z)<|wy (dJ Z Z)<|wn Z<|bF Z (λXh=> ?_) (λXh=> ?_)
        ·refine aN<|wm Z<|wm Z<|wm Z<|wS Z Z<|wy (aI aa sz3 Z Z (λ_ h=>h6 _ _ _ (h.right (R':=[_,_,_,_,_,_,_]))))<|wy (aW ak Z Z (λ_ h=>h6 _ _ _ (h.right (R':=[_,_,_,_,_,_,_]))))<|wa (bL .i64 [rd (smp s.length) ((rd b1 m)-1)] aa zs3 Z Z Z) ?_;rintro _ _ ⟨Wc,rfl,rfl⟩;refine wa (aV 7 Z aa zb3 Z Z Z (rdr 0 Z)) ?_;rintro _ _ ⟨Ki,Kn,rfl,rfl⟩;refine bK (v:=sl Ki (n4+1) Kn) Z<|wn Z<|aN<|wA Z Z<|wm Z<|aA ?_;exact⟨Ki,n4+1,Kn,a4++([rd (smp s.length) ((rd b1 m)-1)]),m+1,⟨(by simp only[ah,Va];try rfl),G,G,(by rw[dH rm G,ZI G,w7,bHx G G])⟩,G,SA,λ_ h=>h.selR (F:=[_,_,_,_,_,_,_,_]) (F':=[_,_,_,_,_,_,_]) [1,2,3,4,5,6,7] cC Z⟩
        ·refine aL<|aN<|wA Z Z<|wm Z<|aA ?_;exact⟨A4,n4,c4,a4,m+1,⟨(by simp only[ah,Va];try rfl),G,G,(by rw[dH rm G,ZH G,w7])⟩,G,SA,λ_ h=>h⟩
      ·rw [f9] at cv dq;have hof:a4=ofB s b1:=by rw[w7,bn G]
       have Oj:a4.Perm (smp s.length):=by rw[hof];exact aTq cv
       have Yo:a4.Pairwise (bX s):=by rw[hof];exact aEn hF hI.n0 cv dq
       refine aY<|aD<|wq<|wm Z<|wy (aQ aa Z)<|wm Z<|aA<|aH ?_;refine dR (λ(z:Int) (V5:List Int)=>[(4,sl A4 n4 c4),(5,sl (GG oe) ((((s.length:Nat):Int)+3).toNat) ((((s.length:Nat):Int)+3).toNat)),(147,sl A4 n4 c4),(148,I ((n4:Nat):Int)),(149,I z)]) (λz V5=>((ri 3 ox a3.length oy b1)::(ri 3 tg ((plc s.length 2).length) ti (plc s.length 2))::(ri 3 (GG m5) 1 1 ([0]))::(ri 3 A3 n3 c3 a3)::(ri 3 bo ((plc s.length 1).length) bp (plc s.length 1))::(ri 3 (GG oe) ((((s.length:Nat):Int)+3).toNat) ((((s.length:Nat):Int)+3).toNat) V5)::(ri 3 A4 n4 c4 a4)::Rs)) (λz V5=>(0<=z)/\(z<=a4.length)/\(RkN s a4 V5 z)) (λz V5=>(a4.length-z).toNat) ?_ ?_
       ·exact⟨0,V,⟨G,G,(hF.zero _)⟩,SA,λ_ h=>h⟩
       intro z V5 ⟨vl,d7,Uj⟩;have hV5:=Uj.len;refine wq<|wL Z Z<|aA<|aD<|bF Z (λXi=> ?_) (λXi=> ?_)
       ·have hzi:=nJ (Oj.subset (bN (L:=a4) vl G));refine aL<|aD<|aH<|wq<|wm Z<|wy (aI aa sz3 Z Z (rdr 6 Z))<|wy (aW ak Z Z (rdr 6 Z))<|wg Z<|wn Z<|aN<|wm Z<|wm Z<|wm Z ?_;refine wA Z Z<|wy (aI aa sz3 Z Z (rdr 5 Z))<|bY (bJ 5 Z sz3 Z Z) ?_;rintro _ _ rfl;refine aA<|aN<|wA Z Z<|wm Z<|aA ?_;exact⟨z+1,upd V5 (rd a4 z) (z+1),⟨G,G,(Uj.step Oj vl G)⟩,G,SA,λ_ h=>h⟩
       ·refine aY<|wq<|wm Z<|wm Z<|wg Z<|wn Z<|bS (R1:=[(ri 3 A4 n4 c4 a4),(ri 3 (GG oe) ((((s.length:Nat):Int)+3).toNat) ((((s.length:Nat):Int)+3).toNat) V5)]) (λ_ h=>(h.selR (F:=[_,_,_,_,_,_,_]) (F':=[_,_]) [6,5] cC Z).left (X:=[_,_])) ?_;refine⟨_,_,Z,Z,?_⟩;obtain rfl:=Va;have Rf:(((s.length:Nat):Int)+3).toNat=V5.length:=by have:=Uj.len;omega
        have hNe:RkN s a4 V5 a4.length:=by have e:z=a4.length:=G;rw[<-e];exact Uj
        exact⟨a4,V5,_,_,_,_,_,Z,Rf,hNe.done Oj Yo,λB w0 w h=>rdr 0 Z w h,λB w0 w h=>by rw[<-Rf];exact rdr 1 rfl w h⟩
theorem aSv {l:List Int} {a:Int} (h0:0<=a):rd (l.drop a.toNat) 0=rd l a:=by
 unfold rd;rw[ai,ai,ql];rfl
set_option maxHeartbeats 4000000 in
theorem GL {w:World} {s:List Int} (bb:Rd w cr gw cq 1 (ints .i64 s)) (IH: ∀ {w:World} {pe:Option Addr} {rn pf:Nat} {t:List Int} {j:Int},Rd w pe rn pf 1 (ints .i64 t)->t.length<s.length->((0<=j/\j<=1000000)/\ ∀x∈t,0<=x/\x<j)->t.length<=100000->Ct Tryz.prog 266 #[sl pe rn pf,I j] w.heap.size w [] (λv R'=> ∃(b:List Int) (A:Option Addr) (c:Nat),v=sl A t.length c/\b.Perm (iota t.length)/\b.Pairwise (bX t)/\R'=[(ri 3 A t.length c b)])) (dg:(0<=k/\k<=1000000)/\ ∀x∈s,0<=x/\x<k) (hN:s.length<=100000):
  Ct Tryz.prog 266 #[sl cr gw cq,I k] w.heap.size w [] (λv R'=> ∃(b:List Int) (A:Option Addr) (c:Nat),v=sl A s.length c/\b.Perm (iota s.length)/\b.Pairwise (bX s)/\R'=[(ri 3 A s.length c b)]):=by
 obtain rfl:=bb.lenI;refine fn1 Tryz.func266 Z Z Z ?_;have xb:=bb.max;have vj: ∀x∈s,0<=x/\x<=1000000:=λx hx=>by have:=dg.2 x hx;omega
 have lp0:=jQ s.length 0;have lsm:=AC s.length;refine wq<|wn Z<|aD<|wq<|wm Z<|wy (aQ aa Z)<|wL Z Z<|aA<|bF Z (λaq=> ?_) (λaq=> ?_)
 ·refine wq<|wm Z<|wy (aQ aa Z)<|wa (aF RP Z (Ct.fresh (λw hw=>lW cE G))) ?_;rintro _ _ ⟨_,rfl,bm,bl,rfl,rfl⟩;refine bK (v:=sl bm ((plc s.length 0).length) bl) Z<|wm Z<|wy (aQ aa Z)<|wy (dO aa sz3 Z Z (rdr 0 Z))<|wn Z<|bS (R1:=[(ri 3 bm ((plc s.length 0).length) bl (plc s.length 0))]) (λ_ h=>(h.selR (F:=[_]) (F':=[_]) [0] cC Z).left (X:=[_])) ?_;refine⟨_,Z,?_⟩;rw[aMo (show s.length<2 by omega),bI];exact⟨_,_,_,Z, .refl _,bGg G,Z⟩
 ·refine aL<|wq<|wm Z<|wm Z<|wa (aF bKp Z (Ct.fresh (λw hw=>OO ((bb.c _) w hw) IH dg hN G))) ?_;rintro _ _ ⟨Rn,rfl,o1,V1,ff,fb,fh,kt,_,rfl,rfl,s5,Oq,f7⟩;refine dB (R1:=(Rn)) (Sub.refl _) (λ_ h=>Hp.toTail0 (X:=[]) (Y:=[]) h)<|wm Z<|wX Z Z<|wX Z Z<|wg Z<|wn Z<|wq<|wm Z<|wy (aQ aa Z)<|wa (aF RP Z (Ct.fresh (λw hw=>lW cE G))) ?_;rintro _ _ ⟨_,rfl,du,dp,rfl,rfl⟩;refine bK (v:=sl du ((plc s.length 0).length) dp) Z<|wn Z<|wq<|wm Z<|wy (aQ aa Z)<|wa (dL aa zb3 Z Z) ?_;rintro _ _ ⟨oe,rfl,rfl⟩;refine bK (v:=sl (GG oe) s.length s.length) Z<|wn Z<|aD<|wq<|wm Z<|wy (aQ aa Z)<|wm Z<|aA<|aH ?_;refine dR (λ(i:Int) (V:List Int)=>[(0,sl cr s.length cq),(1,I k),(5,sl ff o1.length fh),(6,sl fb V1.length kt),(7,sl du ((plc s.length 0).length) dp),(8,sl (GG oe) s.length s.length),(35,I ((s.length:Nat):Int)),(36,I i)]) (λi V=>((ri 3 (GG oe) s.length s.length V)::(ri 3 du ((plc s.length 0).length) dp (plc s.length 0))::Rn)) (λi V=>(0<=i)/\(i<=s.length)/\(V.length=s.length)/\(∀j:Int,0<=j->j<i->rd V j=rd V1 (j+1))) (λi V=>(s.length-i).toNat) ?_ ?_
  ·exact⟨0,List.replicate s.length (0:Int),⟨G,G,(by rw[cz]),(λj h1 h2=>G)⟩,SA,λ_ h=>h⟩
  intro i V ⟨ar,jj,lz,hV⟩;refine wq<|wL Z Z<|aA<|aD<|bF Z (λce=> ?_) (λce=> ?_)
  ·have hV1:=s5.len;refine aL<|aD<|aH<|wq<|wm Z<|wn Z<|aN<|wm Z<|wm Z<|wm Z<|wm Z<|wA Z Z<|wy (aI aa sz3 Z Z (λ_ h=>f7 _ _ _ (h.right (R':=[_,_])))) ?_;refine wy (aW ak Z Z (λ_ h=>f7 _ _ _ (h.right (R':=[_,_]))))<|wy (aI aa sz3 Z Z (rdr 0 Z))<|bY (bJ 0 Z sz3 Z Z) ?_;rintro _ _ rfl;refine aA<|aN<|wA Z Z<|wm Z<|aA ?_;exact⟨i+1,upd V i (rd V1 (i+1)),⟨G,G,(by rw[bD];exact lz),(eX (f:=λj=>rd V1 (j+1)) ar G hV Z)⟩,G,SA,λ_ h=>h⟩
  ·have hB:V=bhd s V1:=bIb lz (λj h1 h2=>hV j h1 G);have Wf:=aTf s5;have Uf:=LC s5 dg.2 dg.1.1;have Ol:=aEi s5 dg.2 dg.1.1;have Vb:=s5.perm.length_eq;refine aY<|wq<|wm Z<|wm Z<|wm Z<|wy (aQ aa Z)<|wA Z Z<|wa (aF ML Z (Ct.fresh (λw hw=>uB ((rdr 1 Z) w hw) ((rdr 0 Z) w hw) G (by rw[hB];exact aXy s5) (λx hx=>by rw[kC G] at hx;omega) G))) ?_;rintro _ _ ⟨_,rfl,bo,bp,rfl,rfl⟩;generalize xo:dC (plc s.length 0) V ((((s.length:Nat):Int)+1)).toNat=ot1;refine wm Z<|wX Z Z<|wX Z Z<|wn Z<|wq<|wm Z<|wm Z<|wa (aF bEi Z (Ct.fresh (λw hw=>RB ((bb.c _) w hw) G vj G))) ?_;rintro _ _ ⟨_,rfl,pi,cx,rfl,rfl⟩;refine wm Z<|wA Z Z<|wa (aF ML Z (Ct.fresh (λw hw=>uB ((rdr 1 Z) w hw) ((rdr 0 Z) w hw) G (ZX dg.2 dg.1.1 G) (λx hx=>by rw[<-xo,hB] at hx;have:=Wf.subset hx;rw[kC G] at this;rw[EQ];omega) (by rw[<-xo,hB,Wf.length_eq];omega)))) ?_;rintro _ _ ⟨_,rfl,fd,fg,rfl,rfl⟩;generalize Ob:dC ot1 (fU s 0) ((k+1)).toNat=ot2;have Om:oth s V1 k=ot2:=by unfold oth;rw[<-hB,xo,Ob]
   rw[Om] at Uf Ol;have ua:=Uf.length_eq;have yk:ot1.length=ot2.length:=by rw[ua,<-xo,hB,Wf.length_eq]
   refine wm Z<|wX Z Z<|wX Z Z<|wn Z<|wq<|dB (R1:=((ri 3 none 0 0 ([]))::(ri 3 fd ((ot1).length) fg ot2)::(ri 3 pi ((s).length) cx (fU s 0))::(ri 3 bo (((plc s.length 0)).length) bp ot1)::(ri 3 (GG oe) s.length s.length V)::(ri 3 du ((plc s.length 0).length) dp (plc s.length 0))::Rn)) (Sub.refl _) (λ_ h=>h.nil 3 1)<|wn Z<|aD<|wq<|wm Z<|wy (aQ aa Z) ?_;refine wm Z<|aA<|aH ?_;refine TB (λ(q:Int) (x:Int) (AL:Option Addr) (nL:Nat) (cL:Nat) (acc:List Int) (AO:Option Addr) (nO:Nat) (cO:Nat)=>[(0,sl cr s.length cq),(5,sl AO nO cO),(6,sl fb V1.length kt),(10,sl AL nL cL),(66,sl fd ((ot1).length) fg),(67,I (((ot1).length:Nat):Int)),(68,I q)]) (λq x AL nL cL acc AO nO cO=>((ri 3 AL nL cL acc)::(ri 3 fd ((ot1).length) fg ot2)::(ri 3 pi ((s).length) cx (fU s 0))::(ri 3 bo (((plc s.length 0)).length) bp ot1)::(ri 3 (GG oe) s.length s.length V)::(ri 3 du ((plc s.length 0).length) dp (plc s.length 0))::Rn)) (λq x AL nL cL acc AO nO cO=>(0<=q)/\(q<=ot2.length)/\(0<=x)/\(x<=o1.length)/\(MgI s o1 ot2 acc x q)/\(nL=acc.length)/\(nO=(o1.drop x.toNat).length)/\(∀(B:Nat) (w0 w:World),Hp B w0 w Rn->Rd w AO nO cO 1 (ints .i64 (o1.drop x.toNat)))) (λq x AL nL cL acc AO nO cO=>(ot2.length-q).toNat) ?_ ?_
   ·exact⟨0,0,none,0,0,[],ff,o1.length,fh,⟨G,G,G,G,(aTx),(Z),(Z),(Oq)⟩,SA,λ_ h=>h⟩
   intro q x AL nL cL acc AO nO cO ⟨kf,yp,hx0,hx1,hM,hnL,hnO,h5⟩;have tk:=hM.len hx0 hx1 kf yp;refine wq<|wL Z Z<|aA<|aD<|bF Z (λfj=> ?_) (λfj=> ?_)
   ·have hqq:q<ot2.length:=G
    have hqm:=(kC G).1 (Uf.subset (bN (L:=ot2) kf hqq));have hqj:(0<=rd ot2 q/\rd ot2 q<s.length)/\rd ot2 q%3=0:=G
    refine aL<|aD<|aH<|wq<|wy (aI aa sz3 Z Z (rdr 1 Z))<|wy (aW ak Z Z (rdr 1 Z))<|wn Z<|aD<|aH ?_;refine tK (λ(y:Int) (AM:Option Addr) (nM:Nat) (cM:Nat) (vn:List Int) (AP:Option Addr) (nP:Nat) (cP:Nat)=>[(0,sl cr s.length cq),(5,sl AP nP cP),(6,sl fb V1.length kt),(10,sl AM nM cM),(12,I (rd ot2 q)),(66,sl fd ((ot1).length) fg),(67,I (((ot1).length:Nat):Int)),(68,I q)]) (λy AM nM cM vn AP nP cP=>((ri 3 AM nM cM vn)::(ri 3 fd ((ot1).length) fg ot2)::(ri 3 pi ((s).length) cx (fU s 0))::(ri 3 bo (((plc s.length 0)).length) bp ot1)::(ri 3 (GG oe) s.length s.length V)::(ri 3 du ((plc s.length 0).length) dp (plc s.length 0))::Rn)) (λy AM nM cM vn AP nP cP=>(0<=y)/\(y<=o1.length)/\(MgI s o1 ot2 vn y q)/\(nM=vn.length)/\(nP=(o1.drop y.toNat).length)/\(∀(B:Nat) (w0 w:World),Hp B w0 w Rn->Rd w AP nP cP 1 (ints .i64 (o1.drop y.toNat)))) (λy AM nM cM vn AP nP cP=>(o1.length-y).toNat) ?_ ?_
    ·exact⟨x,AL,nL,cL,acc,AO,nO,cO,⟨G,G,(hM),(hnL),(hnO),(h5)⟩,SA,λ_ h=>h⟩
    intro y AM nM cM vn AP nP cP ⟨Tv,Zk,Rb,hnM,Yf,h6⟩;have Ns:=Rb.len Tv Zk kf G;have Yg:=Yf;rw[ay] at Yg;have e0:=aSv (l:=o1) Tv
    have hoi:y<o1.length->(0<=rd (o1.drop y.toNat) 0/\rd (o1.drop y.toNat) 0<s.length)/\rd (o1.drop y.toNat) 0%3≠0:=λh=>by
     have:=lL.1 (s5.perm.subset (bN Tv h));rw[e0];omega
    refine aD<|wq<|wm Z<|wy (aQ aa Z)<|wy (dJ Z Z)<|wm Z<|dD 8 [(0,sl cr s.length cq),(5,sl AP nP cP),(6,sl fb V1.length kt),(10,sl AM nM cM),(12,I (rd ot2 q)),(66,sl fd ((ot1).length) fg),(67,I (((ot1).length:Nat):Int)),(68,I q),(83, .bool (decide ((0<((nP:Nat):Int))/\(cmpL ((s).drop ((rd (o1.drop y.toNat) 0)).toNat) ((s).drop ((rd ot2 q)).toNat)<0))))] ((ri 3 AM nM cM vn)::(ri 3 fd ((ot1).length) fg ot2)::(ri 3 pi ((s).length) cx (fU s 0))::(ri 3 bo (((plc s.length 0)).length) bp ot1)::(ri 3 (GG oe) s.length s.length V)::(ri 3 du ((plc s.length 0).length) dp (plc s.length 0))::Rn) ?_ ?_
    ·refine bV 75 Z (λkl=> ?_) (λkl=> ?_)
     ·refine aC Z Z<|wm Z<|aC Z Z<|wm Z<|aC Z Z<|wm Z<|aC Z Z<|wy (aI aa sz3 Z Z (λ_ h=>h6 _ _ _ (h.right (R':=[_,_,_,_,_,_]))))<|aC Z Z<|wy (aW ak Z Z (λ_ h=>h6 _ _ _ (h.right (R':=[_,_,_,_,_,_]))))<|aC Z Z<|wm Z<|aC Z Z<|wa (aF bKo Z (Ct.quiet (λw hw=>aNg ((bb.c _) w hw) ((λ_ h=>f7 _ _ _ (h.right (R':=[_,_,_,_,_,_]))) w hw) s5 (hoi G) hqj vj G))) ?_;rintro _ _ ⟨rfl,rfl⟩;refine wy (bB Z Z)<|aA ?_;exact⟨SA,λ_ h=>h⟩
     ·refine aP Z Z Z Z<|aP Z Z Z Z<|aP Z Z Z Z<|aP Z Z Z Z<|aP Z Z Z Z<|aP Z Z Z Z<|aP Z Z Z Z<|wy (aS Z Z)<|aA ?_;exact⟨SA,λ_ h=>h⟩
    refine aA<|bF Z (λmd=> ?_) (λmd=> ?_)
    ·have Vh:y<o1.length:=G
     have t6:=gT.1 md.2;rw[e0] at t6;refine aL<|aH<|bP mixed<|wD 0 Z (aM Z)<|wD 1 Z (aM Z)<|wD 2 Z (aI aa sz3 Z Z (λ_ h=>h6 _ _ _ (h.right (R':=[_,_,_,_,_,_]))))<|wD 3 Z (aW ak Z Z (λ_ h=>h6 _ _ _ (h.right (R':=[_,_,_,_,_,_]))))<|wD 6 Z (aM Z)<|wD 7 Z (dK aa sz3 Z Z)<|wC 4 Z (bL .i64 [rd (o1.drop y.toNat) 0] aa zs3 Z Z Z) ?_;rintro _ _ ⟨m5,rfl,rfl⟩;refine⟨.inr λ_ h=>h.right (R':=[_]),?_⟩;refine wC 5 Z (aV 1 Z aa zb3 Z Z Z (rdr 0 Z)) ?_;rintro _ _ ⟨un,fz,rfl,rfl⟩;refine⟨.inl cA,?_⟩;refine iJ (v:=sl un (nM+1) fz) Z<|wD 8 Z (bG Z)<|wD 9 Z (bG Z)<|wN ?_
     exact⟨(y+1),un,nM+1,fz,vn++([rd (o1.drop y.toNat) 0]),jA AP (1:Int).toNat cP 1,nP-(1:Int).toNat,cP-(1:Int).toNat,⟨G,G,(by rw[e0];exact Rb.left s5.sorted Ol Tv G kf hqq t6),(by rw[ah,hnM];rfl),(by rw[ay] at Yf ⊢;omega),(λB w0 w h=>by
        have g:=RdC.fromI (l:=(1:Int).toNat) (h6 B w0) G w h;rw[Fy,show y.toNat+(1:Int).toNat=(y+1).toNat by omega] at g
        exact g)⟩,G,SA,λ_ h=>h.selR (F:=[_,_,_,_,_,_,_]) (F':=[_,_,_,_,_,_]) [1,2,3,4,5,6] cC Z⟩
    ·have n9:y<o1.length->bX s (rd ot2 q) (rd o1 y):=λh=>by
      have h1:=hoi h;rw[e0] at h1 md;rcases BI h1.1 hqj.1 G with g|g
      ·exact absurd ⟨G,gT.2 g⟩ md
      ·exact g
     refine aY<|aN<|wm Z<|wm Z<|wa (bL .i64 [rd ot2 q] aa zs3 Z Z Z) ?_;rintro _ _ ⟨ge,rfl,rfl⟩;refine wa (aV 1 Z aa zb3 Z Z Z (rdr 0 Z)) ?_;rintro _ _ ⟨gl,gn,rfl,rfl⟩;refine bK (v:=sl gl (nM+1) gn) Z<|wn Z<|aN<|wA Z Z<|wm Z<|aA ?_;exact⟨q+1,y,gl,nM+1,gn,vn++([rd ot2 q]),AP,nP,cP,⟨G,G,G,G,(Rb.right s5.sorted Ol Tv kf G n9),(by rw[ah,hnM];rfl),(Yf),(h6)⟩,G,SA,λ_ h=>h.selR (F:=[_,_,_,_,_,_,_]) (F':=[_,_,_,_,_,_]) [1,2,3,4,5,6] cC Z⟩
   ·refine aY<|wq<|wm Z<|wm Z<|wa (aV 0 Z aa zb3 Z Z Z (λ_ h=>h5 _ _ _ (h.right (R':=[_,_,_,_,_,_]))) (by have:=hnO;rw[ay] at this;omega)) ?_;rintro _ _ ⟨nf,nj,rfl,rfl⟩;refine bK (v:=sl nf (nL+nO) nj) Z<|wn Z<|bS (R1:=[(ri 3 nf (nL+nO) nj (acc++(o1.drop x.toNat)))]) (λ_ h=>(h.selR (F:=[_,_,_,_,_,_]) (F':=[_]) [0] cC Z).left (X:=[_])) ?_;refine⟨_,Z,?_⟩;have hd:=hM.done s5.sorted G s5.perm Uf;have e:nL+nO=s.length:=by have:=hd.1.length_eq;rw[bI,ah] at this;omega
    rw[e];exact⟨_,_,_,Z,hd.1,hd.2,Z⟩
theorem XK (m:Nat): ∀ {w:World} {cr:Option Addr} {gw cq:Nat} {s:List Int} {k:Int},Rd w cr gw cq 1 (ints .i64 s)->s.length<m->((0<=k/\k<=1000000)/\ ∀x∈s,0<=x/\x<k)->s.length<=100000->
  Ct Tryz.prog 266 #[sl cr gw cq,I k] w.heap.size w [] (λv R'=> ∃(b:List Int) (A:Option Addr) (c:Nat),v=sl A s.length c/\b.Perm (iota s.length)/\b.Pairwise (bX s)/\R'=[(ri 3 A s.length c b)]):=by
 induction m with
 |zero=>intro w A n c s k _ h;omega
 |succ m ih=>
  intro w A n c s k bb hm dg hN;exact GL bb (λh1 h2 h3 h4=>ih h1 G h3 h4) dg hN
theorem OE {s:List Int} (bb:Rd w cr gw cq 1 (ints .i64 s)) (dg:(0<=k/\k<=1000000)/\ ∀x∈s,0<=x/\x<k) (hN:s.length<=100000):
  Ct Tryz.prog 266 #[sl cr gw cq,I k] w.heap.size w [] (λv R'=> ∃(b:List Int) (A:Option Addr) (c:Nat),v=sl A s.length c/\b.Perm (iota s.length)/\b.Pairwise (bX s)/\R'=[(ri 3 A s.length c b)]):=XK (s.length+1) bb G dg hN
set_option maxHeartbeats 600000 in
theorem OB {s:List Int} (bb:Rd w cr gw cq 1 (ints .i64 s)) (hs: ∀x∈s,0<=x/\x<1048576) (hN:s.length<=100000):
  Ct Tryz.prog 267 #[sl cr gw cq] w.heap.size w [] (λv R'=> ∃(m:Int) (A:Option Addr) (c:Nat),v=sl A s.length c/\(∀x∈s,0<=x/\x<=m)/\R'=[(ri 3 A s.length c (sqz s m))]):=by
 obtain rfl:=bb.lenI;refine fn1 Tryz.func267 Z Z Z ?_;have xb:=bb.max;refine wq<|wn Z<|wq<|wn Z<|aD<|wq<|wm Z<|wy (aQ aa Z)<|wm Z<|aA ?_;refine aH ?_;refine dR (λ(i:Int) (m:Int)=>[(0,sl cr s.length cq),(3,I m),(13,sl cr s.length cq),(14,I ((s.length:Nat):Int)),(15,I i)]) (λi m=>[]) (λi m=>(0<=i)/\(i<=s.length)/\(0<=m)/\(m<=1048575)/\(∀x∈s.take i.toNat,x<=m)) (λi m=>(s.length-i).toNat) ?_ ?_
 ·exact⟨0,0,⟨G,G,G,G,(λx hx=>by cases hx)⟩,SA,λ_ h=>h⟩
 intro i m ⟨ar,jj,rm,hmk,Ms⟩;refine wq<|wL Z Z<|aA<|aD<|bF Z (λaq=> ?_) (λaq=> ?_)
 ·have hsi:=hs _ (bN (L:=s) ar G);refine aL<|aD<|aH<|wq<|wy (aI aa sz3 Z Z (bb.c _))<|wy (aW ak Z Z (bb.c _))<|wn Z<|aN<|wm Z<|wm Z<|wy (aQc Z Z)<|wn Z ?_;refine aN<|wA Z Z<|wm Z<|aA ?_
  exact⟨i+1,max m (rd s i),⟨G,G,G,G,(λx hx=>by
    rw[dH ar G] at hx;rcases gp.1 hx with hx|hx
    ·have:=Ms x hx;omega
    ·rw[ib.1 hx];omega)⟩,G,SA,λ_ h=>h⟩
 ·rw [bn G] at Ms;refine aY<|wq<|wm Z<|wA Z Z<|wa (dL aa zb3 Z Z) ?_;rintro _ _ ⟨an,rfl,rfl⟩;refine bK (v:=sl (GG an) ((m+1).toNat) ((m+1).toNat)) Z<|wn Z<|aD<|wq<|wm Z<|wy (aQ aa Z)<|wm Z<|aA<|aH ?_;refine dR (λ(j:Int) (V:List Int)=>[(0,sl cr s.length cq),(6,sl (GG an) ((m+1).toNat) ((m+1).toNat)),(26,sl cr s.length cq),(27,I ((s.length:Nat):Int)),(28,I j)]) (λj V=>[(ri 3 (GG an) ((m+1).toNat) ((m+1).toNat) V)]) (λj V=>(0<=j)/\(j<=s.length)/\(V=thr (s.take j.toNat) m)) (λj V=>(s.length-j).toNat) ?_ ?_
  ·exact⟨0,List.replicate ((m+1).toNat) (0:Int),⟨G,G,((aZb m).symm)⟩,SA,λ_ h=>h⟩
  intro j V ⟨tz,n5,hV⟩;refine wq<|wL Z Z<|aA<|aD<|bF Z (λce=> ?_) (λce=> ?_)
  ·have hsj:0<=rd s j/\rd s j<=m:=⟨(hs _ (bN (L:=s) tz G)).1,Ms _ (bN (L:=s) tz G)⟩;have lz:V.length=(m+1).toNat:=by rw[hV,jY]
   refine aL<|aD<|aH<|wq<|wy (aI aa sz3 Z Z (bb.c _))<|wy (aW ak Z Z (bb.c _))<|wn Z<|aN<|wm Z<|wm Z<|wy (aI aa sz3 Z Z (rdr 0 Z))<|bY (bJ 0 Z sz3 Z Z) ?_;rintro _ _ rfl;refine aA<|aN<|wA Z Z<|wm Z<|aA ?_;exact⟨j+1,upd V (rd s j) 1,⟨G,G,(by rw[dH tz G,<-aQv hsj.1 hsj.2,<-hV])⟩,G,SA,λ_ h=>h⟩
  ·have Rg:V=thr s m:=by rw[hV,bn G]
   have Kv:(dE V).length=(m+1).toNat:=by rw[fE,Rg,jY]
   refine aY<|wq<|wm Z<|wa (aF aJl Z (Ct.fresh (λw hw=>xD ((rdr 0 Z) w hw) (by rw[Rg];exact aQw s m) (by rw[Rg];have:=aZa s m;omega) (by rw[Rg,jY];omega)))) ?_;rintro _ _ ⟨_,rfl,eh,es,rfl,rfl⟩;refine wn Z<|wq<|wm Z<|wy (aQ aa Z)<|wa (dL aa zb3 Z Z) ?_;rintro _ _ ⟨kc,rfl,rfl⟩;refine bK (v:=sl (GG kc) s.length s.length) Z<|wn Z<|aD<|wq<|wm Z<|wy (aQ aa Z)<|wm Z<|aA<|aH ?_;refine dR (λ(z:Int) (U:List Int)=>[(9,sl eh ((dE V).length) es),(10,sl (GG kc) s.length s.length),(41,sl cr s.length cq),(42,I ((s.length:Nat):Int)),(43,I z)]) (λz U=>[(ri 3 (GG kc) s.length s.length U),(ri 3 eh ((dE V).length) es (dE V)),(ri 3 (GG an) ((m+1).toNat) ((m+1).toNat) V)]) (λz U=>(0<=z)/\(z<=s.length)/\(U.length=s.length)/\(∀j:Int,0<=j->j<z->rd U j=rd (dE (thr s m)) (rd s j))) (λz U=>(s.length-z).toNat) ?_ ?_
   ·exact⟨0,List.replicate s.length (0:Int),⟨G,G,(by rw[cz]),(λj h1 h2=>G)⟩,SA,λ_ h=>h⟩
   intro z U ⟨vl,d7,w5,hU⟩;refine wq<|wL Z Z<|aA<|aD<|bF Z (λfj=> ?_) (λfj=> ?_)
   ·have hsz:0<=rd s z/\rd s z<=m:=⟨(hs _ (bN (L:=s) vl G)).1,Ms _ (bN (L:=s) vl G)⟩;refine aL<|aD<|aH<|wq<|wm Z<|wy (aI aa sz3 Z Z (bb.c _))<|wy (aW ak Z Z (bb.c _))<|wg Z<|wn Z<|aN<|wm Z<|wm Z<|wm Z ?_;refine wm Z<|wy (aI aa sz3 Z Z (rdr 1 Z))<|wy (aW ak Z Z (rdr 1 Z))<|wy (aI aa sz3 Z Z (rdr 0 Z))<|bY (bJ 0 Z sz3 Z Z) ?_;rintro _ _ rfl;refine aA<|aN<|wA Z Z<|wm Z<|aA ?_;exact⟨z+1,upd U z (rd (dE V) (rd s z)),⟨G,G,(by rw[bD];exact w5),(eX (f:=λj=>rd (dE (thr s m)) (rd s j)) vl G hU (by rw[Rg]))⟩,G,SA,λ_ h=>h⟩
   ·refine aY<|wq<|wm Z<|wn Z<|aT [0] 99 cC Z ?_;refine⟨_,Z,?_⟩;have ju: ∀x∈s,0<=x/\x<=m:=λx hx=>⟨(hs x hx).1,Ms x hx⟩;obtain rfl:U=sqz s m:=bFu ju w5 (λj h1 h2=>hU j h1 G);exact⟨m,_,_,Z,ju,Z⟩
theorem aUm {s:List Int} (bb:Rd w cr gw cq 1 (ints .i64 s)) (dg:(0<=k/\k<=1048576)/\ ∀x∈s,0<=x/\x<k) (hN:s.length<=100000):
  Ct Tryz.prog 220 #[sl cr gw cq,I k] w.heap.size w [] (λv R'=> ∃(b:List Int) (A:Option Addr) (c:Nat),v= .tuple #[sl A s.length c,I 0]/\b.Perm (iota s.length)/\b.Pairwise (bX s)/\R'=[(ri 3 A s.length c b)]):=by
 obtain rfl:=bb.lenI;refine fn2 Tryz.func220 Z Z Z ?_;have xb:=bb.max;refine wq<|wg Z<|wn Z<|aD<|wq<|wm Z<|wy (aQ aa Z)<|wy (Yl.f (dJ Z Z))<|aA<|aJ Z<|aL<|aD ?_;refine wq<|wm Z<|wm Z<|wa (aF aAy Z (Ct.fresh (λw hw=>oP ((bb.c _) w hw) cE))) ?_;rintro _ _ ⟨_,rfl,bm,bl,rfl,rfl⟩;refine wm Z<|wX Z Z<|wX Z Z<|wg Z<|wn Z<|wq<|wm Z<|wy (dU Z)<|aA<|aJ Z<|aL<|wq ?_;refine wm Z<|wa (aF bLb Z (Ct.fresh (λw hw=>OB ((bb.c _) w hw) (λx hx=>by have:=dg.2 x hx;omega) hN))) ?_;rintro _ _ ⟨_,rfl,mq,ir,iu,rfl,Ye,rfl⟩;refine wm Z<|wy (aQ aa Z)<|wA Z Z<|wa (aF bEl Z (Ct.fresh (λw hw=>OE ((rdr 0 Z) w hw) ⟨G,λx hx=>by have:=bFv Ye x hx;omega⟩ (by rw[IG];exact hN)))) ?_;rintro _ _ ⟨_,rfl,b1,du,dp,rfl,cv,dq,rfl⟩;refine wg Z<|wn Z<|aT [0] 99 cC Z ?_;refine⟨_,_,Z,Z,?_⟩;have ho:=aLb Ye cv dq;rw[IG];exact⟨b1,_,_,Z,ho.1,ho.2,Z⟩
theorem aNl {ap:Option Addr} {aw ao:Nat} {u:List Int} (al:Rd w ap aw ao 1 (ints .u8 u)) (am:aR u) (hN:u.length<=100000):
  Ct Tryz.prog 147 #[sl ap aw ao] w.heap.size w [] (λv R'=> ∃(b:List Int) (A:Option Addr) (c:Nat),v= .tuple #[sl A u.length c,I 0]/\b.Perm (iota u.length)/\b.Pairwise (bX u)/\R'=[(ri 3 A u.length c b)]):=by
 obtain rfl:=al.lenI;refine fn2 Tryz.func147 Z Z Z ?_;have mj:=al.max;refine wq<|wg Z<|wn Z<|aD<|wq<|wm Z<|wy (aQ af Z)<|wy (Yl.f (dJ Z Z))<|aA<|aJ Z<|aL<|aD ?_;refine aN<|wm Z<|wy (aQ af Z)<|wa (dL aa zb3 Z Z) ?_;rintro _ _ ⟨an,rfl,rfl⟩;refine bK (v:=sl (GG an) u.length u.length) Z<|wn Z<|aD<|wq<|wm Z<|wy (aQ af Z)<|wm Z<|aA<|aH ?_;refine dR (λ(i:Int) (V:List Int)=>[(4,sl (GG an) u.length u.length),(13,sl ap u.length ao),(14,I ((u.length:Nat):Int)),(15,I i)]) (λi V=>[(ri 3 (GG an) u.length u.length V)]) (λi V=>(0<=i)/\(i<=u.length)/\(V.length=u.length)/\(∀j:Int,0<=j->j<i->rd V j=rd u j)) (λi V=>(u.length-i).toNat) ?_ ?_
 ·exact⟨0,List.replicate u.length (0:Int),⟨G,G,(by rw[cz]),(λj h1 h2=>G)⟩,SA,λ_ h=>h⟩
 intro i V ⟨ar,jj,lz,hV⟩;refine wq<|wL Z Z<|aA<|aD<|bF Z (λaq=> ?_) (λaq=> ?_)
 ·have sm:=am.rd i;refine aL<|aD<|aH<|wq<|wm Z<|wy (aI af sz5 Z Z (al.c _))<|wy (aW bg Z Z (al.c _))<|wg Z<|wn Z<|aN<|wm Z<|wm Z<|wm Z ?_;refine wy (iF bg ak Z)<|wy (aI aa sz3 Z Z (rdr 0 Z))<|bY (bJ 0 Z sz3 Z Z) ?_;rintro _ _ rfl;refine aA<|aN<|wA Z Z<|wm Z<|aA ?_;exact⟨i+1,upd V i (rd u i),⟨G,G,(by rw[bD];exact lz),(eX (f:=λj=>rd u j) ar G hV Z)⟩,G,SA,λ_ h=>h⟩
 ·have Rh:V=u:=bQ lz (λj h1 h2=>hV j h1 G);refine aY<|wq<|wm Z<|wa (aF bLr Z (Ct.fresh (λw hw=>aUm ((rdr 0 Z) w hw) ⟨G,λx hx=>by rw[Rh] at hx;have:=am x hx;omega⟩ G))) ?_;rintro _ _ ⟨_,rfl,b1,eh,es,rfl,cv,dq,rfl⟩;refine wX Z Z<|wX Z Z<|wg Z<|wn Z<|aT [0] 99 cC Z ?_;refine⟨_,_,Z,Z,?_⟩;subst Rh;exact⟨b1,_,_,Z,cv,dq,Z⟩
end Go.Proofs.YtdbebmmhdefgdaaGreat
namespace Go.Proofs.YtdbebmmhdefgdaaGreat
open Go Go.Eng Go.RowKit Go.Shelf Go.Proofs
variable {c j g:Nat} {xs:List Value} {zs:List Int} {A:Option Addr}
attribute [local go_sem] Oper.semAt_some
theorem iQ {W:World} {a:Addr} {n:Nat} (h:Rd W (some a) n c 1 xs) (hj:j<xs.length):W.cell? (a.add j)=some (xs[j]'hj):=by
 obtain⟨b,h1,h2⟩:=h.at_ j _ (av hj);obtain rfl:=jc h1;exact h2
theorem _root_.Go.Eng.Iter.congr {P:Program} {gf:Nat} {lb:Array Value} {qs:World->Prop} {N:Nat} {f f':Nat->List Value} (it:Iter P gf lb qs N f) (h: ∀k,k<N->f k=f' k):Iter P gf lb qs N f':=
 λl J W hR hD hY h0=>it l J W hR hD (λk W hk hJ=>by rw[h k hk];exact hY k W hk hJ) h0
theorem RG {k:IntKind} (h:j<zs.length):(ints k zs)[j]?.getD undef= .int k (rd zs (j:Int)):=by
 have:=Go.Eng.ints_at (k:=k) (l:=zs) (i:=(j:Int)) G G;rw[cu] at this;rw[this,nz]
set_option maxRecDepth 100000 in
set_option maxHeartbeats 2000000 in
theorem aYb (uc:xs.length<=1000000):Iter Tryz.prog 240 #[.pointer (some ⟨g,0,none⟩)] (λw=>Rd w (some ⟨g,0,none⟩) 1 1 1 [.slice A xs.length c]/\Rd w A xs.length c 1 xs) xs.length
  (λk=>[.int .i64 (((xs.length-1-k:Nat):Int)),xs[xs.length-1-k]?.getD undef]):=by
 intro l J W hR _ hY h0;rcases dz xs.length with hz|ee
 ·have hc:W.cell? ⟨g,0,none⟩=some (.slice A xs.length c):=iQ (hR _ _ h0).1 (j:=0) cD;rw[hz] at hc;refine Ay Tryz.func240 rfl trivial ?_ rfl;simp only[Tryz.ntmps240,qj,dh,jl,Nat.reduceAdd,Nat.reduceSub,wo,wu,yo,ui,je,jh]
  gi_wp2
  gi_loopw [3] (λi wr=>i= .int .i64 (-1)/\J 0 wr) (λ_ _=>0)
  case atStart=>exact⟨rfl,h0⟩
  case round=>
   obtain⟨rfl,sg⟩:=hrel
   gi_wp2
   go_end0
   exact⟨⟨_,rfl⟩,by rw[hz];exact sg⟩
 ·obtain ⟨a,rfl⟩: ∃a,A=some a:=by
   obtain⟨a,h1,_⟩:=(hR _ _ h0).2.at_ 0 _ (av ee);exact⟨a,h1⟩
  have hc:W.cell? ⟨g,0,none⟩=some (.slice (some a) xs.length c):=iQ (hR _ _ h0).1 (j:=0) cD;refine Ay Tryz.func240 rfl trivial ?_ rfl;simp only[Tryz.ntmps240,qj,dh,jl,Nat.reduceAdd,Nat.reduceSub,wo,wu,yo,ui,je,jh]
  gi_wp2
  gi_loopw [3] (λi wr=>(∃k j:Nat,k+j+1=xs.length/\i= .int .i64 (j:Int)/\J k wr)\/(i= .int .i64 (-1)/\J xs.length wr)) (λi _=>(intOf i+1).toNat)
  case atStart=>exact .inl ⟨0,xs.length-1,G,by rw[show((xs.length:Int)-1)=((xs.length-1:Nat):Int) by omega],h0⟩
  case round=>
   rcases hrel with⟨k,j,Pk,rfl,sg⟩|⟨rfl,sg⟩
   ·obtain ⟨fn,tmps,assign,body,hy,Nl⟩:=hY k wr G sg;rw[show xs.length-1-k=j by omega] at hy;have n7:j<xs.length:=G
    rw[av n7] at hy;simp only[nz] at hy;have aq:wr.cell? ⟨g,0,none⟩=some (.slice (some a) xs.length c):=iQ (hR _ _ sg).1 (j:=0) cD;have ce:=iQ (hR _ _ sg).2 n7
    gi_wp2
    refine⟨rfl,Nl.mono ?_⟩;rintro e W3 ⟨rfl,Hv⟩
    gi_wp2
    go_roundw
    case rel=>
     rcases dz j with rfl|hj
     ·exact .inr ⟨cD,by rw[<-Pk];exact Hv⟩
     ·exact .inl ⟨k+1,j-1,G,by rw[show((j:Int)-1)=((j-1:Nat):Int) by omega],Hv⟩
    case measure=>simp[intOf]
   ·gi_wp2
    go_end0
    exact⟨⟨_,rfl⟩,sg⟩
set_option maxRecDepth 100000 in
set_option maxHeartbeats 2000000 in
theorem aYc (uc:xs.length<=1000000):Iter Tryz.prog 241 #[.pointer (some ⟨g,0,none⟩)] (λw=>Rd w (some ⟨g,0,none⟩) 1 1 1 [.slice A xs.length c]/\Rd w A xs.length c 1 xs) xs.length
  (λk=>[.int .i64 (((xs.length-1-k:Nat):Int)),xs[xs.length-1-k]?.getD undef]):=by
 intro l J W hR _ hY h0;rcases dz xs.length with hz|ee
 ·have hc:W.cell? ⟨g,0,none⟩=some (.slice A xs.length c):=iQ (hR _ _ h0).1 (j:=0) cD;rw[hz] at hc;refine Ay Tryz.func241 rfl trivial ?_ rfl;simp only[Tryz.ntmps241,qj,dh,jl,Nat.reduceAdd,Nat.reduceSub,wo,wu,yo,ui,je,jh]
  gi_wp2
  gi_loopw [3] (λi wr=>i= .int .i64 (-1)/\J 0 wr) (λ_ _=>0)
  case atStart=>exact⟨rfl,h0⟩
  case round=>
   obtain⟨rfl,sg⟩:=hrel
   gi_wp2
   go_end0
   exact⟨⟨_,rfl⟩,by rw[hz];exact sg⟩
 ·obtain ⟨a,rfl⟩: ∃a,A=some a:=by
   obtain⟨a,h1,_⟩:=(hR _ _ h0).2.at_ 0 _ (av ee);exact⟨a,h1⟩
  have hc:W.cell? ⟨g,0,none⟩=some (.slice (some a) xs.length c):=iQ (hR _ _ h0).1 (j:=0) cD;refine Ay Tryz.func241 rfl trivial ?_ rfl;simp only[Tryz.ntmps241,qj,dh,jl,Nat.reduceAdd,Nat.reduceSub,wo,wu,yo,ui,je,jh]
  gi_wp2
  gi_loopw [3] (λi wr=>(∃k j:Nat,k+j+1=xs.length/\i= .int .i64 (j:Int)/\J k wr)\/(i= .int .i64 (-1)/\J xs.length wr)) (λi _=>(intOf i+1).toNat)
  case atStart=>exact .inl ⟨0,xs.length-1,G,by rw[show((xs.length:Int)-1)=((xs.length-1:Nat):Int) by omega],h0⟩
  case round=>
   rcases hrel with⟨k,j,Pk,rfl,sg⟩|⟨rfl,sg⟩
   ·obtain ⟨fn,tmps,assign,body,hy,Nl⟩:=hY k wr G sg;rw[show xs.length-1-k=j by omega] at hy;have n7:j<xs.length:=G
    rw[av n7] at hy;simp only[nz] at hy;have aq:wr.cell? ⟨g,0,none⟩=some (.slice (some a) xs.length c):=iQ (hR _ _ sg).1 (j:=0) cD;have ce:=iQ (hR _ _ sg).2 n7
    gi_wp2
    refine⟨rfl,Nl.mono ?_⟩;rintro e W3 ⟨rfl,Hv⟩
    gi_wp2
    go_roundw
    case rel=>
     rcases dz j with rfl|hj
     ·exact .inr ⟨cD,by rw[<-Pk];exact Hv⟩
     ·exact .inl ⟨k+1,j-1,G,by rw[show((j:Int)-1)=((j-1:Nat):Int) by omega],Hv⟩
    case measure=>simp[intOf]
   ·gi_wp2
    go_end0
    exact⟨⟨_,rfl⟩,sg⟩
theorem NP (uc:zs.length<=1000000):Iter Tryz.prog 241 #[.pointer (some ⟨g,0,none⟩)] (λw=>Rd w (some ⟨g,0,none⟩) 1 1 1 [.slice A zs.length c]/\Rd w A zs.length c 1 (ints .i64 zs)) zs.length
  (λk=>[.int .i64 (((zs.length-1-k:Nat):Int)), .int .i64 (rd zs ((zs.length-1-k:Nat):Int))]):=by
 have h:=aYc (g:=g) (A:=A) (c:=c) (xs:=ints .i64 zs) (by rw[cZ];exact uc);rw[cZ] at h;exact h.congr λk hk=>by rw[RG G]
set_option maxRecDepth 100000 in
set_option maxHeartbeats 2000000 in
theorem aQo:Iter Tryz.prog 346 #[.pointer (some ⟨g,0,none⟩)] (λw=>Rd w (some ⟨g,0,none⟩) 1 1 1 [.slice A xs.length c]/\Rd w A xs.length c 1 xs) xs.length
  (λk=>[xs[k]?.getD undef]):=by
 intro l J W hR _ hY h0;have uc:=(hR _ _ h0).2.max;rcases dz xs.length with hz|ee
 ·have hc:W.cell? ⟨g,0,none⟩=some (.slice A xs.length c):=iQ (hR _ _ h0).1 (j:=0) cD;rw[hz] at hc;refine Ay Tryz.func346 rfl trivial ?_ rfl;simp only[Tryz.ntmps346,qj,dh,jl,Nat.reduceAdd,Nat.reduceSub,wo,wu,yo,ui,je,jh]
  gi_wp2
  gi_loopw [7] (λi wr=>i= .int .i64 0/\J 0 wr) (λ_ _=>0)
  case atStart=>exact⟨rfl,h0⟩
  case round=>
   obtain⟨rfl,sg⟩:=hrel
   gi_wp2
   go_end0
   exact⟨⟨_,rfl⟩,by rw[hz];exact sg⟩
 ·obtain ⟨a,rfl⟩: ∃a,A=some a:=by
   obtain⟨a,h1,_⟩:=(hR _ _ h0).2.at_ 0 _ (av ee);exact⟨a,h1⟩
  have hc:W.cell? ⟨g,0,none⟩=some (.slice (some a) xs.length c):=iQ (hR _ _ h0).1 (j:=0) cD;refine Ay Tryz.func346 rfl trivial ?_ rfl;simp only[Tryz.ntmps346,qj,dh,jl,Nat.reduceAdd,Nat.reduceSub,wo,wu,yo,ui,je,jh]
  gi_wp2
  gi_loopw [7] (λi wr=> ∃k:Nat,k<=xs.length/\i= .int .i64 k/\J k wr) (λi _=>xs.length-(intOf i).toNat)
  case atStart=>exact⟨0,uf _,rfl,h0⟩
  case round=>
   obtain⟨k,hk,rfl,sg⟩:=hrel;by_cases bc:k<xs.length
   ·obtain ⟨fn,tmps,assign,body,hy,Nl⟩:=hY k wr bc sg;rw[av bc] at hy;simp only[nz] at hy;have aq:wr.cell? ⟨g,0,none⟩=some (.slice (some a) xs.length c):=iQ (hR _ _ sg).1 (j:=0) cD;have ce:=iQ (hR _ _ sg).2 bc
    gi_wp2
    refine⟨rfl,Nl.mono ?_⟩;rintro e W3 ⟨rfl,Hv⟩
    gi_wp2
    go_roundw
    case rel=>exact⟨k+1,G,cD,Hv⟩
    case measure=>simp[intOf];omega
   ·obtain rfl:k=xs.length:=G
    gi_wp2
    go_end0
    exact⟨⟨_,rfl⟩,sg⟩
theorem aDa:Iter Tryz.prog 346 #[.pointer (some ⟨g,0,none⟩)] (λw=>Rd w (some ⟨g,0,none⟩) 1 1 1 [.slice A zs.length c]/\Rd w A zs.length c 1 (ints .i64 zs)) zs.length
  (λk=>[.int .i64 (rd zs (k:Int))]):=by
 have h:=aQo (g:=g) (A:=A) (c:=c) (xs:=ints .i64 zs);rw[cZ] at h;exact h.congr λk hk=>by rw[RG hk]
end Go.Proofs.YtdbebmmhdefgdaaGreat
namespace Go.Proofs
open Go.Shelf
def Tryz.lays189_ren:Go.Shelf.Ren:=⟨λ|189=>345|125=>192|257=>362|128=>251|129=>252|294=>367|295=>368|296=>369|297=>370|298=>371|299=>372|216=>348|300=>373|301=>374|328=>376|329=>282|330=>283|331=>377|332=>378|215=>194|343=>379|n=>n,λ|28=>52|3=>3|46=>167|0=>0|51=>123|53=>112|4=>4|183=>289|182=>288|131=>97|5=>5|9=>9|218=>316|222=>320|228=>337|229=>338|n=>n,λ|n=>n⟩
theorem Tryz.lays189:Go.Proofs.Lays.n189 Tryz.prog Tryz.lays189_ren:= {
 mixed:=cA
 f125:=Tryz.func192.trans (bq some cA)
 f128:=Tryz.func251.trans (bq some cA)
 f129:=Tryz.func252.trans (bq some cA)
 f189:=Tryz.func345.trans (bq some cA)
 f215:=Ja.trans (bq some cA)
 f216:=Tryz.func348.trans (bq some cA)
 f257:=Tryz.func362.trans (bq some cA)
 f294:=Tryz.func367.trans (bq some cA)
 f295:=Tryz.func368.trans (bq some cA)
 f296:=Tryz.func369.trans (bq some cA)
 f297:=Tryz.func370.trans (bq some cA)
 f298:=Tryz.func371.trans (bq some cA)
 f299:=Tryz.func372.trans (bq some cA)
 f300:=Tryz.func373.trans (bq some cA)
 f301:=Tryz.func374.trans (bq some cA)
 f328:=Tryz.func376.trans (bq some cA)
 f329:=Tryz.func282.trans (bq some cA)
 f330:=Tryz.func283.trans (bq some cA)
 f331:=Tryz.func377.trans (bq some cA)
 f332:=Tryz.func378.trans (bq some cA)
 f343:=Tryz.func379.trans (bq some cA)
 t0:=Dy
 a0:=Jz
 z0:=Jb
 v0:=Ey
 t3:=Bw
 a3:=Gx
 z3:=Fs
 v3:=Co
 t4:=Dz
 a4:=Ka
 z4:=Jc
 v4:=Ez
 t5:=Ea
 a5:=Kb
 z5:=Jd
 v5:=Fa
 t9:=Eb
 a9:=Kc
 z9:=Je
 v9:=Fb
 t28:=Tryz.underlying52
 a28:=Tryz.isAgg52
 z28:=Tryz.sizeOf52
 v28:=Tryz.zeroValue52
 t46:=Ao
 a46:=Ee
 z46:=Dn
 v46:=Bf
 t51:=Cv
 a51:=Ht
 z51:=Gc
 v51:=Dq
 t53:=Cu
 a53:=Hr
 z53:=Gb
 v53:=Dp
 t131:=Gy
 a131:=Tryz.isAgg97
 z131:=Tryz.sizeOf97
 v131:=Ih
 t182:=Gf
 a182:=Tryz.isAgg288
 z182:=Tryz.sizeOf288
 v182:=Gz
 t183:=Gg
 a183:=Tryz.isAgg289
 z183:=Tryz.sizeOf289
 v183:=Ha
 t218:=Gh
 a218:=Tryz.isAgg316
 z218:=Tryz.sizeOf316
 v218:=Hd
 t222:=Gi
 a222:=Tryz.isAgg320
 z222:=Tryz.sizeOf320
 v222:=He
 t228:=Gj
 a228:=Tryz.isAgg337
 z228:=Tryz.sizeOf337
 v228:=Hf
 t229:=Gl
 a229:=Tryz.isAgg338
 z229:=Tryz.sizeOf338
 v229:=Hg}
open Go.Sort Go.RowKit in
theorem Tryz.slices_Sort_int (gi off cap:Nat) (zs:List Int) (w:World) (hH:Holds (Value.int .i64) w gi off zs.toArray) (hblk:gi<w.heap.size) (hsz:zs.length<4611686018427387904):
  Calls Tryz.prog 345 #[.slice (some ⟨gi,off,none⟩) zs.length cap] w λe w'=>
   e= .returned (.tuple #[])/\ ∃n os,w'=grow (putRow (Value.int .i64) (Sort.ahead w n) gi off (zs.mergeSort λx y=>decide (x<=y)).toArray) os:=Any.slices_Sort_int Tryz.lays189 gi off cap zs w hH hblk hsz
def Tryz.laysNm225_ren:Go.Shelf.Ren:=⟨λ|25=>325|31=>348|32=>349|37=>194|n=>n,λ|22=>52|3=>3|4=>4|40=>167|0=>0|n=>n,λ|n=>n⟩
theorem Tryz.laysNm225:Go.Proofs.Lays2.n25 Tryz.prog Tryz.laysNm225_ren:= {
 mixed:=cA
 f25:=Tryz.func325.trans (bq some cA)
 f31:=Tryz.func348.trans (bq some cA)
 f32:=Tryz.func349.trans (bq some cA)
 f37:=Ja.trans (bq some cA)
 t0:=Dy
 a0:=Jz
 z0:=Jb
 v0:=Ey
 t3:=Bw
 a3:=Gx
 z3:=Fs
 v3:=Co
 t4:=Dz
 a4:=Ka
 z4:=Jc
 v4:=Ez
 t22:=Tryz.underlying52
 a22:=Tryz.isAgg52
 z22:=Tryz.sizeOf52
 v22:=Tryz.zeroValue52
 t40:=Ao
 a40:=Ee
 z40:=Dn
 v40:=Bf}
open Go.RowKit Go.Lib in
theorem Tryz.slices_BinarySearch_int (b off n c:Nat) (zs:List Int) (x:Int) (w:World) (hz:n<=zs.length) (Lb:n<4611686018427387904) (hc: ∀j,j<zs.length->w.cell? ⟨b,off+j,none⟩=some (.int .i64 (zs.getD j 0))) (hs:(zs.take n).Pairwise (· <= ·)):
  Calls Tryz.prog 325 #[.slice (some ⟨b,off,none⟩) n c, .int .i64 x] w λe w'=>e= .returned (.tuple #[.int .i64 ((zs.take n).countP (· <x):Nat), .bool ((zs.take n).contains x)])/\ ∃q,w'=w.drewN q:=Any.slices_BinarySearch_int Tryz.laysNm225 b off n c zs x w hz Lb hc hs
open Go.RowKit Go.Sort in
theorem Tryz.slices_Sort_int_none (p:Option Addr) (cap:Nat) (w:World):
  Calls Tryz.prog 345 #[.slice p 0 cap] w λe w'=>e= .returned (.tuple #[])/\w'=w:=Any.slices_Sort_int_none Tryz.lays189 p cap w
open Go.RowKit Go.Lib in
theorem Tryz.slices_BinarySearch_int_empty (a:Option Addr) (c:Nat) (x:Int) (w:World):
  Calls Tryz.prog 325 #[.slice a 0 c, .int .i64 x] w λe w'=>e= .returned (.tuple #[.int .i64 0, .bool false])/\w'=w:=Any.slices_BinarySearch_int_empty Tryz.laysNm225 a c x w
end Go.Proofs
namespace Go.Eng
open Go Go.RowKit Go.Proofs Go.Sort
section
variable {P:Program} {B:Nat} {w0:World} {R:List Row}
def bIg (P:Program) (f:Nat):Prop:= ∀(gi off cap:Nat) (zs:List Int) (w:World) (_:Holds (Value.int .i64) w gi off zs.toArray) (_:gi<w.heap.size) (_:zs.length<4611686018427387904),
 Calls P f #[.slice (some ⟨gi,off,none⟩) zs.length cap] w λe w'=>e= .returned (.tuple #[])/\ ∃n os,w'=grow (putRow (Value.int .i64) (Sort.ahead w n) gi off (zs.mergeSort λx y=>decide (x<=y)).toArray) os
def bDg (P:Program) (f:Nat):Prop:= ∀(p:Option Addr) (cap:Nat) (w:World),Calls P f #[.slice p 0 cap] w λe w'=>e= .returned (.tuple #[])/\w'=w
def bIi (P:Program) (f:Nat):Prop:= ∀(b off n c:Nat) (zs:List Int) (x:Int) (w:World) (_:n<=zs.length) (_:n<4611686018427387904) (_: ∀j,j<zs.length->w.cell? ⟨b,off+j,none⟩=some (.int .i64 (zs.getD j 0))) (_:(zs.take n).Pairwise (· <= ·)),
 Calls P f #[.slice (some ⟨b,off,none⟩) n c, .int .i64 x] w λe w'=>e= .returned (.tuple #[.int .i64 ((zs.take n).countP (· <x):Nat), .bool ((zs.take n).contains x)])/\ ∃q,w'=w.drewN q
def bDi (P:Program) (f:Nat):Prop:= ∀(a:Option Addr) (c:Nat) (x:Int) (w:World),Calls P f #[.slice a 0 c, .int .i64 x] w λe w'=>e= .returned (.tuple #[.int .i64 0, .bool false])/\w'=w
def kV (l:List Int):List Int:=l.mergeSort λx y=>decide (x<=y)
theorem lQ (l:List Int):(kV l).Perm l:=List.mergeSort_perm _ _
theorem AB (l:List Int):(kV l).Pairwise (· <= ·):=by
 have:=List.pairwise_mergeSort (le:=λx y:Int=>decide (x<=y)) (λa b c h1 h2=>by simp at*;omega) (λa b=>cH) l;exact this.imp λh=>by simpa using h
theorem aLd {f:Nat} (hS:bIg P f) (Wt:bDg P f) {T m c:Nat} {A:Option Addr} {l:List Int} (i:Nat) (hi:R[i]? =some ⟨T,1,A,m,c,ints .i64 l,false⟩) (hsz:l.length<4611686018427387904):
  Ct P f #[.slice A m c] B w0 R (λv R'=>v= .tuple #[]/\R'=R.set i ⟨T,1,A,m,c,ints .i64 (kV l),false⟩):=by
 intro w hw;have gr:=Row.lies_w (hw.own _ (gm hi)) rfl;have ij:=Row.rd (hw.own _ (gm hi));obtain rfl:m=l.length:=ij.lenI;rcases gr.2 with⟨hv,hn⟩|⟨gi,cap,cur,hv,hb,hg,hnc,sn,kp,ht⟩
 ·simp only at hn;have hl:l=[]:=ed hn;subst hl;refine(Wt A c w).mono ?_;rintro e w' ⟨rfl,rfl⟩;refine⟨_,_,rfl,?_,rfl,rfl⟩;have e:kV []=[]:=by simp[kV]
  rw[e]
  have:R.set i ⟨T,1,A,([]:List Int).length,c,ints .i64 [],false⟩=R:=by
   apply ul;intro k;rw[xq];split
   ·rename_i h;subst h;split
    ·exact hi.symm
    ·rename_i h2;rw[mf G]
   ·rfl
  rw[this];exact hw
 ·simp only[kv,Ak] at hv;obtain⟨rfl,rfl⟩:=hv;simp only at ht kp hg hnc;have bc:gi<w.heap.size:=(fo.1 hg).1
  have hH:Holds (Value.int .i64) w gi 0 l.toArray:=by
   intro j hj;have wx:j<l.length:=by simpa using hj
   have e:(ints .i64 l)[j]? =some (.int .i64 (l.toArray[j]!)):=by
    rw[um l.toArray j hj];simp[ints,wx]
   refine⟨?_,?_⟩
   ·rw [ng];exact hw.cellAt i hi rfl e
   ·exact hw.openAt i (0+j) hi rfl rfl
  refine(hS gi 0 c l w hH bc hsz).mono ?_;rintro e w' ⟨rfl,n,os,rfl⟩;refine⟨_,_,rfl,?_,rfl,rfl⟩;have Su:=ownsRow_sorted_i (w:=w) (base:=B) (g:=gi) (cap:=c) (n:=n) (e:=T) (os:=os) (cur:=cur) (ss:=l) (ts:=kV l) (lQ l).length_eq hb hg hnc sn kp;have hgb:=grownBy_sorted_i (w:=w) (g:=gi) (n:=n) (os:=os) (kV l).toArray;refine hw.upd hi (row:=some gi) hgb ?_ (λk hk=> ?_) ?_ (λa' nc=> .inl ⟨a',nc,rfl⟩)
  ·show w.drawn<=w.drawn+n;omega
  ·obtain rfl:=jc hk;exact⟨_,rfl,rfl⟩
  ·exact Su
theorem aOa {f:Nat} (hF:bIi P f) (hF0:bDi P f) {T m c:Nat} {A:Option Addr} {l:List Int} {x:Int} (i:Nat) (hi:R[i]? =some ⟨T,1,A,m,c,ints .i64 l,false⟩) (hsz:l.length<4611686018427387904) (hs:l.Pairwise (· <= ·)):
  Ct P f #[.slice A m c, .int .i64 x] B w0 R (λv R'=>v= .tuple #[.int .i64 (l.countP (· <x):Nat), .bool (l.contains x)]/\R'=R):=by
 intro w hw;have gr:=Row.lies_w (hw.own _ (gm hi)) rfl;have ij:=Row.rd (hw.own _ (gm hi));obtain rfl:m=l.length:=ij.lenI;rcases gr.2 with⟨hv,hn⟩|⟨gi,cap,cur,hv,hb,hg,hnc,sn,kp,ht⟩
 ·simp only at hn;have hl:l=[]:=ed hn;subst hl;refine(hF0 A c x w).mono ?_;rintro e w' ⟨rfl,rfl⟩;exact⟨_,_,rfl,hw,rfl,rfl⟩
 ·simp only[kv,Ak] at hv;obtain⟨rfl,rfl⟩:=hv;have rg:l.take l.length=l:=uz
  have:=hF gi 0 l.length c l x w (di _) hsz (λj hj=>by
   rw[ng]
   exact hw.cellAt i hi rfl (by simp[ints,ai,hj])) (by rw[rg];exact hs)
  rw[rg] at this;refine this.mono ?_;rintro e w' ⟨rfl,q,rfl⟩;exact⟨_,_,rfl,hw.drawn _ (Bu _ _),rfl,rfl⟩
end
end Go.Eng
namespace Go.Proofs.YtdbebmmhdefgdaaGreat
open Go Go.Eng Go.Pure
open Tryz
set_option maxRecDepth 100000
variable {w:World} {kd:Option Addr} {mt ke:Nat} {l:List Int} {h:Int}
theorem bAu {l:List Int} {i:Int} (fk:Rd w kd mt ke 1 (ints .i64 l)) (hb:(0<=i/\i<=1000000)/\(0<=h/\h<=1000000)) (hl: ∀x∈l,0<=x/\x<=1000000):
  Ct Tryz.prog 326 #[sl kd mt ke,I i,I h] w.heap.size w [] (λv R'=>v=I (onF l i h)):=by
 obtain rfl:=fk.lenI;refine fn1 Tryz.func326 Z Z Z ?_;have Oy:=fk.max;refine wq<|wn Z<|aD<|wq<|wm Z<|wm Z<|wA Z Z<|wm Z<|wy (aQ aa Z)<|wy (gZ Z Z)<|aA<|bF Z (λaq=> ?_) (λaq=> ?_)
 ·refine wq<|wn Z<|bW ?_;refine⟨_,Z,?_⟩;exact bq (Value.int .i64) (by unfold onF;rw[df G])
 ·have hm:=hl _ (bN (L:=l) (k:=i+h) G G);refine aL<|wq<|wm Z<|wm Z<|wm Z<|wA Z Z<|wy (aI aa sz3 Z Z (fk.c _))<|wy (aW ak Z Z (fk.c _))<|wA Z Z<|wn Z<|bW ?_;refine⟨_,Z,?_⟩;exact bq (Value.int .i64) (by unfold onF;rw[bu G])
set_option maxHeartbeats 1200000 in
theorem aNm {s:List Int} {n b:Nat} (fk:Rd w kd mt ke 1 (ints .i64 l)) (hl:l=rkL s n) (hh:h=b) (hn:0<n) (hb:b<=n) (hN:s.length<=100000/\n<=100000):
  Ct Tryz.prog 298 #[sl kd mt ke,I h] w.heap.size w [] (λv R'=> ∃A c A' c',v= .tuple #[sl A s.length c,sl A' s.length c']/\R'=[(ri 3 A s.length c (rkL s (n+b))),(ri 3 A' s.length c' (dF s n b))]):=by
 obtain rfl:=fk.lenI;refine fn2 Tryz.func298 Z Z Z ?_;have Oy:=fk.max;have ub:l.length=s.length:=by rw[hl,AY]
 refine wq<|wg Z<|wn Z<|wq<|wm Z<|wy (aQ aa Z)<|wa (dL aa zb3 Z Z) ?_;rintro _ _ ⟨an,rfl,rfl⟩;refine bK (v:=sl (GG an) l.length l.length) Z<|wn Z<|wq<|wm Z<|wy (aQ aa Z)<|wa (dL aa zb3 Z Z) ?_;rintro _ _ ⟨cm,rfl,rfl⟩;refine bK (v:=sl (GG cm) l.length l.length) Z<|wn Z<|aD<|wq<|wm Z<|wy (aQ aa Z)<|wm Z<|aA<|aH ?_;refine gG (λ(i:Int) (O:List Int) (K:List Int)=>[(0,sl kd l.length ke),(1,I h),(6,sl (GG an) l.length l.length),(7,sl (GG cm) l.length l.length),(19,I ((l.length:Nat):Int)),(20,I i)]) (λi O K=>[(ri 3 (GG cm) l.length l.length K),(ri 3 (GG an) l.length l.length O)]) (λi O K=>(0<=i)/\(i<=s.length)/\(O.length=s.length)/\(∀j:Int,0<=j->j<i->rd O j=j)/\(K.length=s.length)/\(∀j:Int,0<=j->j<i->rd K j=rY s n (j.toNat+b))) (λi O K=>(s.length-i).toNat) ?_ ?_
 ·exact⟨0,List.replicate l.length (0:Int),List.replicate l.length (0:Int),⟨G,G,(by rw[cz,ub]),(λj h1 h2=>G),(by rw[cz,ub]),(λj h1 h2=>G)⟩,SA,λ_ h=>h⟩
 intro i O K ⟨ar,jj,Uk,hO,Pb,hK⟩;refine wq<|wL Z Z<|aA<|aD<|bF Z (λaq=> ?_) (λaq=> ?_)
 ·refine aL<|aD<|aH<|wq<|wm Z<|wn Z<|aN<|wm Z<|wm Z<|wm Z<|wm Z<|wm Z<|wm Z ?_;refine wm Z<|wm Z<|wa (aF bKc Z (Ct.quiet (λw hw=>bAu ((fk.c _) w hw) ⟨G,G⟩ (λx hx=>by rw[hl] at hx;have:=aRz x hx;omega)))) ?_;rintro _ _ ⟨rfl,rfl⟩;refine wy (aI aa sz3 Z Z (rdr 1 Z))<|bY (bJ 1 Z sz3 Z Z) ?_;rintro _ _ rfl;refine wy (aI aa sz3 Z Z (rdr 0 Z))<|bY (bJ 0 Z sz3 Z Z) ?_;rintro _ _ rfl;refine aA<|aN<|wA Z Z<|wm Z<|aA ?_;exact⟨i+1,upd O i i,upd K i (onF l i h),⟨G,G,(by rw[bD];exact Uk),(eX (f:=λj=>j) ar G hO Z),(by rw[bD];exact Pb),(eX (f:=λj=>(rY s n (j.toNat+b):Int)) ar G hK (by rw[hh,hl];exact bGp ar G))⟩,G,SA,λ_ h=>h⟩
 ·obtain rfl:O=iota s.length:=aIy Uk (λj h1 h2=>hO j h1 G);obtain rfl:K=onL s n b:=bGn Pb (λj h1 h2=>hK j h1 G);have Mp:(dC (iota s.length) (onL s n b) (((l.length:Nat):Int)+1).toNat).length=s.length:=by rw[show(((l.length:Nat):Int)+1).toNat=s.length+1 by omega,(uF s n b).length_eq,bI]
  refine aY<|wq<|wm Z<|wm Z<|wm Z<|wy (aQ aa Z)<|wA Z Z<|wa (aF ML Z (Ct.fresh (λw hw=>uB ((rdr 1 Z) w hw) ((rdr 0 Z) w hw) G (λx hx=>by have:=bGo x hx;omega) (λx hx=>by have:=bE.1 hx;rw[aIq];omega) (by rw[bI];omega)))) ?_;rintro _ _ ⟨_,rfl,ff,fh,rfl,rfl⟩;refine wm Z<|wX Z Z<|wX Z Z<|wn Z<|wq<|wm Z<|wm Z<|wm Z<|wy (aQ aa Z)<|wa (aF ML Z (Ct.fresh (λw hw=>uB ((rdr 0 Z) w hw) ((fk.c _) w hw) G (λx hx=>by rw[hl] at hx;have:=aRz x hx;omega) (λx hx=>by rw[show(((l.length:Nat):Int)+1).toNat=s.length+1 by omega] at hx;have:=bE.1 ((uF s n b).subset hx);omega) (by rw[Mp];omega)))) ?_;rintro _ _ ⟨_,rfl,du,dp,rfl,rfl⟩;refine wm Z<|wX Z Z<|wX Z Z<|wn Z<|wq<|wm Z<|wy (aQ aa Z)<|wa (dL aa zb3 Z Z) ?_;rintro _ _ ⟨go,rfl,rfl⟩;refine bK (v:=sl (GG go) l.length l.length) Z<|wn Z<|aD<|wq<|wm Z<|wy (aQ aa Z)<|wm Z<|aA<|aH ?_;refine gG (λ(p:Int) (D:List Int) (V:List Int)=>[(0,sl kd l.length ke),(6,sl du (((dC (iota s.length) (onL s n b) ((((l.length:Nat):Int)+1)).toNat)).length) dp),(7,sl (GG cm) l.length l.length),(9,sl (GG go) l.length l.length),(55,sl du (((dC (iota s.length) (onL s n b) ((((l.length:Nat):Int)+1)).toNat)).length) dp),(56,I ((((dC (iota s.length) (onL s n b) ((((l.length:Nat):Int)+1)).toNat)).length:Nat):Int)),(57,I p)]) (λp D V=>[(ri 3 (GG go) l.length l.length V),(ri 3 du (((dC (iota s.length) (onL s n b) ((((l.length:Nat):Int)+1)).toNat)).length) dp D),(ri 3 ff (((iota s.length)).length) fh (dC (iota s.length) (onL s n b) ((((l.length:Nat):Int)+1)).toNat)),(ri 3 (GG cm) l.length l.length (onL s n b)),(ri 3 (GG an) l.length l.length (iota s.length))]) (λp D V=>(0<=p)/\(p<=s.length)/\(D=dF s n b)/\(V.length=s.length)/\(∀q:Int,0<=q->q<p->rd V (rd D q)=rkS s (n+b) (rd D q).toNat)) (λp D V=>(s.length-p).toNat) ?_ ?_
  ·exact⟨0,dC (dC (iota s.length) (onL s n b) ((((l.length:Nat):Int)+1)).toNat) l (((l.length:Nat):Int)).toNat,List.replicate l.length (0:Int),⟨G,G,(by rw[hl,AY];unfold dF;rw[show((s.length:Int)+1).toNat=s.length+1 by omega,cu]),(by rw[cz,ub]),(λq h1 h2=>G)⟩,SA,λ_ h=>h⟩
  intro p D V ⟨On,qt,hD,lz,hV⟩;refine wq<|wL Z Z<|aA<|aD<|bF Z (λce=> ?_) (λce=> ?_)
  ·have hm:=gD (s:=s) (n:=n) (b:=b) On G;rw[<-hD] at hm;refine aL<|aD<|aH<|wq<|wm Z<|wy (aI aa sz3 Z Z (rdr 1 Z))<|wy (aW ak Z Z (rdr 1 Z))<|wg Z<|wn Z<|wq<|wm Z<|wm Z ?_;refine wm Z<|wy (aI aa sz3 Z Z (rdr 0 Z))<|bY (bJ 0 Z sz3 Z Z) ?_;rintro _ _ rfl;refine aA ?_;refine tL [(0,sl kd l.length ke),(6,sl du (((dC (iota s.length) (onL s n b) ((((l.length:Nat):Int)+1)).toNat)).length) dp),(7,sl (GG cm) l.length l.length),(9,sl (GG go) l.length l.length),(10,I p),(11,I (rd D p)),(55,sl du (((dC (iota s.length) (onL s n b) ((((l.length:Nat):Int)+1)).toNat)).length) dp),(56,I ((((dC (iota s.length) (onL s n b) ((((l.length:Nat):Int)+1)).toNat)).length:Nat):Int)),(57,I p),(97, .bool (decide ((0<p)/\(((rd l (rd D (p-1)))=(rd l (rd D p)))/\((rd (onL s n b) (rd D (p-1)))=(rd (onL s n b) (rd D p)))))))] [(ri 3 (GG go) l.length l.length (upd V (rd D p) p)),(ri 3 du (((dC (iota s.length) (onL s n b) ((((l.length:Nat):Int)+1)).toNat)).length) dp D),(ri 3 ff (((iota s.length)).length) fh (dC (iota s.length) (onL s n b) ((((l.length:Nat):Int)+1)).toNat)),(ri 3 (GG cm) l.length l.length (onL s n b)),(ri 3 (GG an) l.length l.length (iota s.length))] ?_ ?_
   ·refine bP mixed<|wD 0 Z (aM Z)<|wD 1 Z (dJ Z Z)<|wD 2 Z (aM Z)<|oF 68 Z (λfj=> ?_) (λfj=> ?_)
    ·refine wG 3 Z Z Z (aM Z)<|wG 4 Z Z Z (aM Z)<|wG 5 Z Z Z (aM Z)<|wG 6 Z Z Z (iK Z Z)<|wG 7 Z Z Z (aI aa sz3 Z Z (rdr 1 Z))<|wG 8 Z Z Z (aW ak Z Z (rdr 1 Z))<|wG 9 Z Z Z (aI aa sz3 Z Z (fk.c _) (by first|omega|(have na:=gD (s:=s) (n:=n) (b:=b) (p:=p-1) G G;rw[<-hD] at na;omega)) (by first|omega|(have na:=gD (s:=s) (n:=n) (b:=b) (p:=p-1) G G;rw[<-hD] at na;omega))) ?_;refine wG 10 Z Z Z (aW ak Z Z (fk.c _) (by first|omega|(have na:=gD (s:=s) (n:=n) (b:=b) (p:=p-1) G G;rw[<-hD] at na;omega)) (by first|omega|(have na:=gD (s:=s) (n:=n) (b:=b) (p:=p-1) G G;rw[<-hD] at na;omega))) ?_;refine wG 11 Z Z Z (aM Z)<|wG 12 Z Z Z (aM Z)<|wG 13 Z Z Z (aI aa sz3 Z Z (fk.c _))<|wG 14 Z Z Z (aW ak Z Z (fk.c _))<|wG 15 Z Z Z (aX Z Z)<|wD 16 Z (bB Z Z)<|wD 17 Z (aM Z)<|oF 83 Z (λkl=> ?_) (λkl=> ?_)
     ·refine wG 18 Z Z Z (aM Z)<|wG 19 Z Z Z (aM Z)<|wG 20 Z Z Z (aM Z)<|wG 21 Z Z Z (iK Z Z)<|wG 22 Z Z Z (aI aa sz3 Z Z (rdr 1 Z))<|wG 23 Z Z Z (aW ak Z Z (rdr 1 Z))<|wG 24 Z Z Z (aI aa sz3 Z Z (rdr 3 Z) (by first|omega|(have na:=gD (s:=s) (n:=n) (b:=b) (p:=p-1) G G;rw[<-hD] at na;omega)) (by first|omega|(have na:=gD (s:=s) (n:=n) (b:=b) (p:=p-1) G G;rw[<-hD] at na;omega))) ?_;refine wG 25 Z Z Z (aW ak Z Z (rdr 3 Z) (by first|omega|(have na:=gD (s:=s) (n:=n) (b:=b) (p:=p-1) G G;rw[<-hD] at na;omega)) (by first|omega|(have na:=gD (s:=s) (n:=n) (b:=b) (p:=p-1) G G;rw[<-hD] at na;omega))) ?_;refine wG 26 Z Z Z (aM Z)<|wG 27 Z Z Z (aM Z)<|wG 28 Z Z Z (aI aa sz3 Z Z (rdr 3 Z))<|wG 29 Z Z Z (aW ak Z Z (rdr 3 Z))<|wG 30 Z Z Z (aX Z Z)<|wD 31 Z (bB Z Z)<|wN ?_;exact⟨SA,λ_ h=>h⟩
     ·refine wO 18 Z Z Z<|wO 19 Z Z Z<|wO 20 Z Z Z<|wO 21 Z Z Z<|wO 22 Z Z Z<|wO 23 Z Z Z<|wO 24 Z Z Z<|wO 25 Z Z Z<|wO 26 Z Z Z<|wO 27 Z Z Z<|wO 28 Z Z Z<|wO 29 Z Z Z<|wO 30 Z Z Z<|wD 31 Z (aS Z Z)<|wN ?_;exact⟨SA,λ_ h=>h⟩
    ·refine wO 3 Z Z Z<|wO 4 Z Z Z<|wO 5 Z Z Z<|wO 6 Z Z Z<|wO 7 Z Z Z<|wO 8 Z Z Z<|wO 9 Z Z Z<|wO 10 Z Z Z<|wO 11 Z Z Z<|wO 12 Z Z Z<|wO 13 Z Z Z<|wO 14 Z Z Z<|wO 15 Z Z Z<|wD 16 Z (aS Z Z)<|wD 17 Z (aM Z) ?_;refine wO 18 Z Z Z<|wO 19 Z Z Z<|wO 20 Z Z Z<|wO 21 Z Z Z<|wO 22 Z Z Z<|wO 23 Z Z Z<|wO 24 Z Z Z<|wO 25 Z Z Z<|wO 26 Z Z Z<|wO 27 Z Z Z<|wO 28 Z Z Z<|wO 29 Z Z Z<|wO 30 Z Z Z<|wD 31 Z (aS Z Z)<|wN ?_;exact⟨SA,λ_ h=>h⟩
   refine bF Z (λmd=> ?_) (λmd=> ?_)
   ·refine aN<|wm Z<|wm Z<|wm Z<|wm Z<|wm Z<|wS Z Z<|wy (aI aa sz3 Z Z (rdr 1 Z))<|wy (aW ak Z Z (rdr 1 Z))<|wy (aI aa sz3 Z Z (rdr 0 Z) (by first|omega|(have na:=gD (s:=s) (n:=n) (b:=b) (p:=p-1) G G;rw[<-hD] at na;omega)) (by first|omega|(have na:=gD (s:=s) (n:=n) (b:=b) (p:=p-1) G G;rw[<-hD] at na;omega))) ?_;refine wy (aW ak Z Z (rdr 0 Z) (by first|omega|(have na:=gD (s:=s) (n:=n) (b:=b) (p:=p-1) G G;rw[<-hD] at na;omega)) (by first|omega|(have na:=gD (s:=s) (n:=n) (b:=b) (p:=p-1) G G;rw[<-hD] at na;omega))) ?_;refine wy (aI aa sz3 Z Z (rdr 0 Z))<|bY (bJ 0 Z sz3 Z Z) ?_;rintro _ _ rfl;refine aA<|aN<|wA Z Z<|wm Z<|aA ?_;exact⟨p+1,D,upd (upd V (rd D p) p) (rd D p) (rd (upd V (rd D p) p) (rd D (p-1))),⟨G,G,G,(by rw[bD,bD];exact lz),(by subst hD;exact aNn hn hb On G lz hV (by rw[<-hl,and_assoc];exact md))⟩,G,SA,λ_ h=>h⟩
   ·refine aL<|aN<|wA Z Z<|wm Z<|aA ?_;exact⟨p+1,D,upd V (rd D p) p,⟨G,G,G,(by rw[bD];exact lz),(by subst hD;exact aFc hn hb On G lz hV (by rw[<-hl,and_assoc];exact md))⟩,G,SA,λ_ h=>h⟩
  ·refine aY<|wq<|wm Z<|wm Z<|wg Z<|wn Z<|aT [0,1] 99 cC Z ?_;refine⟨_,_,Z,Z,?_⟩;have e2:V=rkL s (n+b):=aNo lz (λq h1 h2=>by have:=hV q h1 G;rw[hD] at this;exact this);subst e2;subst hD;rw[Mp,ub];exact⟨_,_,_,_,Z,Z⟩
variable {B gw cq Bs:Nat} {w0 w:World} {R:List Row} {cr:Option Addr} {s:List Int}
theorem PL:
  Ct Tryz.prog 315 #[sl cr gw cq] B w0 R (λv R'=> ∃g,v= .func (.func 346) #[] #[PG g]/\R'=(rc 52 1 g [sl cr gw cq])::R):=by
 refine fn1 Tryz.func315 Z Z Z ?_;refine wq<|wa (bR (sz:=1) Z Z) ?_;rintro _ _ ⟨g,rfl,rfl⟩;refine wn Z<|wq<|wy (lN Z Z)<|wn Z<|bW ?_;exact⟨_,Z,g,Z,Z⟩
theorem aCh:
  Ct Tryz.prog 186 #[sl cr gw cq] B w0 R (λv R'=> ∃g,v= .func (.func 241) #[] #[PG g]/\R'=(rc 52 1 g [sl cr gw cq])::R):=by
 refine fn1 Tryz.func186 Z Z Z ?_;refine wq<|wa (bR (sz:=1) Z Z) ?_;rintro _ _ ⟨g,rfl,rfl⟩;refine wn Z<|wq<|wy (lN Z Z)<|wn Z<|bW ?_;exact⟨_,Z,g,Z,Z⟩
theorem aRb {l:List Int} {k:Nat} (h:k<l.length):l.take k++[rd l (k:Int)]=l.take (k+1):=by
 rw[su,av h,rd,cu,ai,av h];rfl
theorem VR {Bs:Nat} (bb:Rd w cr gw cq 1 (ints .i64 s)) (io:Rd w (GG Bs) 1 1 1 [sl cr gw cq]) (hN:s.length<=1000000):
  Ct Tryz.prog 361 #[sl none 0 0, .func (.func 346) #[] #[PG Bs]] w.heap.size w [] (λv R'=> ∃A c,v=sl A (s).length c/\R'=[(ri 3 A ((s).length) c (s))]):=by
 refine fnV Tryz.func361 Z Z ?_;obtain rfl:=bb.lenI;refine gN ?_;refine aN<|wa (bR (sz:=1) Z Z) ?_;rintro _ _ ⟨an,rfl,rfl⟩;refine dB (R1:=[(ri 3 none 0 0 ([])),(rc 52 1 an [sl none 0 0])]) (Sub.refl _) (λ_ h=>h.nil 3 1)<|wn Z ?_;refine aHk ?_;refine gN ?_;refine aN<|wm Z<|aA ?_;refine IA ?_;refine WN Z bJy (aDa (A:=cr) (c:=cq) (zs:=s)) Z (λ_=>Z) Gd.refl (λ(kr:Nat) (A1:Option Addr) (n1:Nat) (c1:Nat) (acc:List Int)=>[(ri 3 A1 n1 c1 acc),(rc 52 1 an [sl A1 n1 c1])]) (λkr A1 n1 c1 acc=>(n1=acc.length)/\(acc=s.take kr)) ?_ ?_ ?_ ?_
 ·exact⟨none,0,0,[],⟨(Z),(xw.symm)⟩,λ_ h=>h⟩
 ·intro kr A1 n1 c1 acc w ⟨co,ba⟩ hw;exact⟨(io.c _) w hw,(bb.c _) w hw⟩
 ·intro lr kr A1 n1 c1 acc Zw Mo ⟨co,ba⟩ Rp;have yk:acc.length<=s.length:=by rw[ba,ax];omega
  refine aN<|wn Z ?_;intro Qn i8;refine aH<|aN<|wy (aK (rdr 1 Z) aa Z Z Z)<|wm Z<|wa (bL .i64 [rd s (kr:Int)] aa zs3 Z Z Z) ?_;rintro _ _ ⟨gg,rfl,rfl⟩;refine wa (aV 1 Z aa zb3 Z Z Z (rdr 0 Z)) ?_;rintro _ _ ⟨fb,kt,rfl,rfl⟩;refine bK (v:=sl fb (n1+1) kt) Z<|bY (bC 2 Z Z Z eF Z Z Z Z (au Z)) ?_;rintro _ _ rfl;refine aA ?_;exact⟨fb,(n1+1),kt,acc++([rd s (kr:Int)]),⟨(by rw[ah,co];try rfl),(by rw[ba];exact aRb Mo)⟩,λ_=>λ_ h=>h.sel [1,2] cC Z⟩
 intro Qo Zv A1 n1 c1 acc ⟨co,ba⟩ Mg zr;refine aHm ?_;refine aYx ?_;refine v_w ?_;refine wq<|wy (aK (rdr 1 Z) aa Z Z Z)<|wn Z<|aT [0] 99 cC Z ?_;refine bOg Z zr ⟨_,Z,?_⟩;rw[uz] at ba;subst co;subst ba;exact⟨_,_,Z,Z⟩
theorem aFz {Bs:Nat} (bb:Rd w cr gw cq 1 (ints .i64 s)) (io:Rd w (GG Bs) 1 1 1 [sl cr gw cq]) (hN:s.length<=1000000):
  Ct Tryz.prog 344 #[.func (.func 346) #[] #[PG Bs]] w.heap.size w [] (λv R'=> ∃A c,v=sl A (s).length c/\R'=[(ri 3 A ((s).length) c (s))]):=by
 refine fn1 Tryz.func344 Z Z Z ?_;refine wq<|wn Z<|wq<|wm Z<|wa (aF bJw Z (Ct.fresh (λw hw=>VR ((bb.c _) w hw) ((io.c _) w hw) G))) ?_;rintro _ _ ⟨_,rfl,bm,bl,rfl,rfl⟩;refine wn Z<|aT [0] 99 cC Z ?_;refine⟨_,Z,?_⟩;exact⟨_,_,Z,Z⟩
theorem QB {Bs:Nat} (bb:Rd w cr gw cq 1 (ints .i64 s)) (io:Rd w (GG Bs) 1 1 1 [sl cr gw cq]) (hN:s.length<=1000000):
  Ct Tryz.prog 314 #[.func (.func 346) #[] #[PG Bs]] w.heap.size w [] (λv R'=> ∃A c,v=sl A (kV s).length c/\R'=[(ri 3 A ((kV s).length) c (kV s))]):=by
 refine fn1 Tryz.func314 Z Z Z ?_;refine wq<|wn Z<|wq<|wm Z<|wa (aF bKa Z (Ct.fresh (λw hw=>aFz ((bb.c _) w hw) ((io.c _) w hw) G))) ?_;rintro _ _ ⟨_,rfl,bm,bl,rfl,rfl⟩;refine wn Z<|wq<|wm Z<|wa (aF bJz Z (aLd Tryz.slices_Sort_int Tryz.slices_Sort_int_none 0 Z G)) ?_;rintro _ _ ⟨rfl,rfl⟩;refine aA<|wq<|wm Z<|wn Z<|aT [0] 99 cC Z ?_;refine⟨_,Z,?_⟩;have e:s.length=(kV s).length:=(lQ s).length_eq.symm;rw[e];exact⟨_,_,Z,Z⟩
end Go.Proofs.YtdbebmmhdefgdaaGreat
