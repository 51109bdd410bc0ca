/- Own work. -/
import Derived.Lib.AppendZeros
import Derived.Maps.AppendAt
import Derived.Shelf.Abstract
import Derived.WalkKit
import Derived.OwnWalkIn
import Derived.TacticsInMore
import Derived.LoopNIn
import Derived.LoopIn
import Derived.Test.YtdbebmmhdefgdaaGreatProg
import Derived.Sort.QuietTacIn
import Derived.Test.YtdbebmmhdefgdaaGreatA5
set_option linter.unusedVariables false
set_option linter.unusedSimpArgs false
namespace Go.Pure
open Go Go.Eng
variable {x b l C:List Int} {m:Nat} {low size total o y i:Int}
def rA (l:List Int):Int:=l.foldl (fun a d=>a*256+d) 0
theorem BD (l:List Int) (d:Int):rA (l++[d])=rA l*256+d:=by unfold rA;rw[List.foldl_append];rfl
theorem aGt (h:m<x.length):rA (x.take (m+1))=rA (x.take m)*256+rd x (m:Int):=by
 have e:=dD (j:=(m:Int)) (show(0:Int)≤m by omega) (show(m:Int)<x.length by omega)
 rw[show((m:Int)+1).toNat=m+1 by omega,Int.toNat_natCast] at e
 rw[e,BD]
theorem TW: ∀(k:Nat) (N:Int),0≤N→N<256^k→rA (beL k N)=N
 |0,N,h0,h1=>by rw[Int.pow_zero] at h1;show(0:Int)=N;omega
 |k+1,N,h0,h1=>by
  rw[Int.pow_succ] at h1
  rw[beL,BD,TW k (N/256) (by omega) (Int.ediv_lt_of_lt_mul (by omega) h1)]
  omega
theorem aPw (N:Int) (m:Nat):N/256/256^m=N/256^(m+1):=by
 rw[Int.pow_succ,Int.mul_comm,Int.ediv_ediv_of_nonneg (by omega)]
theorem WQ (a:Nat): ∀(m:Nat) (N:Int),(beL (a+m) N).take a=beL a (N/256^m)
 |0,N=>by rw[Int.pow_zero,Int.ediv_one,Nat.add_zero];exact List.take_of_length_le (by rw[kP];exact Nat.le_refl _)
 |m+1,N=>by
  rw[show a+(m+1)=(a+m)+1 by omega,beL,List.take_append_of_le_length (by rw[kP];omega),WQ a m (N/256),aPw]
theorem yP: ∀(k:Nat) (l:List Int),l.length=k→aO l→0≤rA l∧rA l<256^k
 |0,l,h,_=>by rw[List.eq_nil_of_length_eq_zero h,Int.pow_zero];show(0:Int)≤0∧(0:Int)<1;omega
 | k+1,l,h,hb=>by
  have hl:(k:Int)<l.length:=by omega
  have e:l=l.take k++[rd l (k:Int)]:=by
   have e:=dD (j:=(k:Int)) (show(0:Int)≤k by omega) hl
   rw[show((k:Int)+1).toNat=k+1 by omega,Int.toNat_natCast,List.take_of_length_le (by omega)] at e
   exact e
  have ih:=yP k (l.take k) (by rw[List.length_take];omega) (hb.take _)
  have hd:=hb.rd (k:Int)
  rw[e,BD,Int.pow_succ]
  omega
structure InC (s f:CdS):Prop where
 k:s.k≤f.k
 lo:s.N*256^(f.k-s.k)≤f.N
 hi:f.N+f.R≤(s.N+s.R)*256^(f.k-s.k)
theorem InC.refl (s:CdS):InC s s:=⟨Nat.le_refl _,by rw[Nat.sub_self,Int.pow_zero,Int.mul_one];exact Int.le_refl _,by rw[Nat.sub_self,Int.pow_zero,Int.mul_one];exact Int.le_refl _⟩
theorem InC.trans {a b c:CdS} (h:InC a b) (g:InC b c):InC a c:=by
 have hk:=h.k
 have gk:=g.k
 have e:c.k-a.k=(b.k-a.k)+(c.k-b.k):=by omega
 have hp:(0:Int)≤256^(c.k-b.k):=Int.pow_nonneg (by omega)
 refine⟨by omega,?_,?_⟩
 ·rw [e,Int.pow_add,←Int.mul_assoc]
  exact Int.le_trans (Int.mul_le_mul_of_nonneg_right h.lo hp) g.lo
 ·rw [e,Int.pow_add,←Int.mul_assoc]
  exact Int.le_trans g.hi (Int.mul_le_mul_of_nonneg_right h.hi hp)
theorem aDc {s:CdS} (h:XF s) (hs:uS low size total):InC s (gQ s low size total):=by
 obtain⟨r0,r1,n0,nr⟩:=h
 obtain⟨f1,f2,f3,f4,f5⟩:=oV hs ⟨r0,r1⟩
 unfold gQ
 generalize hq:s.R/total*size=R1 at*
 generalize hl:s.R/total*low=x at*
 generalize shN R1=j at*
 have hp:(0:Int)≤256^j:=Int.pow_nonneg (by omega)
 refine⟨by dsimp only;omega,?_,?_⟩
 ·show s.N*256^(s.k+j-s.k)≤(s.N+x)*256^j
  rw[show s.k+j-s.k=j by omega]
  exact Int.mul_le_mul_of_nonneg_right (by omega) hp
 ·show (s.N+x)*256^j+R1*256^j≤(s.N+s.R)*256^(s.k+j-s.k)
  rw[show s.k+j-s.k=j by omega,←Int.add_mul]
  exact Int.mul_le_mul_of_nonneg_right (by omega) hp
theorem SC (o:Int) (s:PpS) (x:Int):(jY o s x).cd=sN s.cd (tO o s) x:=by unfold jY aFy;split<;>(try split)<;>rfl
theorem aDx {o:Int}: ∀(l:List Int) (s:PpS),aBq l→KZ s→InC s.cd (l.foldl (jY o) s).cd
 |[],s,_,_=>InC.refl _
 |x::l,s,hl,h=>by
  have hx:=hl x (by simp)
  have h1:=FE (o:=o) h hx.1 hx.2
  have h2:=aDx (o:=o) l (jY o s x) (fun y hy=>hl y (List.mem_cons_of_mem _ hy)) h1.1
  rw[List.foldl_cons]
  refine InC.trans ?_ h2
  rw[SC]
  exact aDc h.2.2 (lU (EE (o:=o) h) hx.1 hx.2)
theorem aSk {s f:CdS} (h:XF s) (hs:uS low size total) (hf:InC (gQ s low size total) f) (hr:0<f.R):
  s.R/total*low≤f.N/256^(f.k-s.k)-s.N∧f.N/256^(f.k-s.k)-s.N<s.R/total*(low+size):=by
 obtain⟨hk,hlo,hhi⟩:=hf
 unfold gQ at hk hlo hhi
 dsimp only at hk hlo hhi
 rw[Int.mul_add]
 generalize s.R/total*size=R1 at*
 generalize s.R/total*low=x at*
 generalize shN R1=j at*
 have e:f.k-s.k=j+(f.k-(s.k+j)):=by omega
 have hp:(0:Int)<256^(f.k-s.k):=Int.pow_pos (by omega)
 rw[Int.mul_assoc,←Int.pow_add,←e] at hlo
 rw[←Int.add_mul,Int.mul_assoc,←Int.pow_add,←e] at hhi
 have h1:=(Int.le_ediv_iff_mul_le (a:=s.N+x) (b:=f.N) hp).2 hlo
 have h2:=Int.ediv_lt_of_lt_mul (a:=f.N) (b:=s.N+x+R1) hp (by omega)
 omega
theorem aPh (o:Int) (l m:List Int):encP o (l++m)=m.foldl (jY o) (encP o l):=by unfold encP;rw[List.foldl_append]
theorem aMv (h:aO b) {k:Nat} (hk:k≤(encP o (bK b)).cd.k):rA ((dK b o).take (k+4))=(encP o (bK b)).cd.N/256^((encP o (bK b)).cd.k-k):=by
 have hc:=(zH (o:=o) (qN h)).1.2.2
 unfold dK
 generalize (encP o (bK b)).cd=f at*
 obtain⟨r0,r1,n0,nr⟩:=hc
 rw[show f.k+4=(k+4)+(f.k-k) by omega,WQ]
 refine TW _ _ (Int.ediv_nonneg n0 (Int.pow_nonneg (by omega))) ?_
 refine Int.ediv_lt_of_lt_mul (Int.pow_pos (by omega)) ?_
 rw[←Int.pow_add,show k+4+(f.k-k)=f.k+4 by omega]
 omega
def cuC (x:List Int) (s:CdS):Int:=rA (x.take (s.k+4))-s.N
theorem aQh {C q:Int} (hq:0<q) (h1:q*low≤C) (h2:C<q*(low+size)):low≤C/q∧C/q<low+size:=
 ⟨(Int.le_ediv_iff_mul_le hq).2 (by rw[Int.mul_comm];exact h1),Int.ediv_lt_of_lt_mul hq (by rw[Int.mul_comm];exact h2)⟩
structure rM (x:List Int) (cd:CdS) (C:List Int) (y:Int):Prop where
 lo:cd.R/aU C*aU (C.take y.toNat)≤cuC x cd
 hi:cuC x cd<cd.R/aU C*(aU (C.take y.toNat)+rd C y)
 c0:0≤cuC x cd
 c1:cuC x cd<4294967296
 v0:aU (C.take y.toNat)≤cuC x cd/(cd.R/aU C)
 v1:cuC x cd/(cd.R/aU C)<aU (C.take y.toNat)+rd C y
 len:(sN cd C y).k+4≤x.length
theorem aQi {r:List Int} (hb:aO b) (hl:bK b=l++y::r):rM (dK b o) (encP o l).cd (tO o (encP o l)) y:=by
 have hsy:=qN hb
 have hy:=hsy y (by rw[hl];simp)
 have hsl:aBq l:=fun z hz=>hsy z (by rw[hl];exact List.mem_append_left _ hz)
 have hsr:aBq r:=fun z hz=>hsy z (by rw[hl];exact List.mem_append_right _ (List.mem_cons_of_mem _ hz))
 have hok:=(zH (o:=o) hsl).1
 have hsp:=lU (EE (o:=o) hok) hy.1 hy.2
 have h1:=FE (o:=o) hok hy.1 hy.2
 have hin:=aDx (o:=o) r _ hsr h1.1
 have hf:(encP o (bK b)).cd=(r.foldl (jY o) (jY o (encP o l) y)).cd:=by rw[hl,aPh];rfl
 have hfo:=(zH (o:=o) hsy).1.2.2
 rw[←hf,SC] at hin
 have hc:=hok.2.2
 have hs:=aSk hc hsp hin (by have:=hfo.1;omega)
 have hk:(encP o l).cd.k≤(encP o (bK b)).cd.k:=((aDc hc hsp).trans hin).k
 have hnum:=aMv (o:=o) hb hk
 have hcu:cuC (dK b o) (encP o l).cd=(encP o (bK b)).cd.N/256^((encP o (bK b)).cd.k-(encP o l).cd.k)-(encP o l).cd.N:=by unfold cuC;rw[hnum]
 rw[←hcu] at hs
 have hfa:=oV hsp ⟨hc.1,hc.2.1⟩
 have hc0:0≤cuC (dK b o) (encP o l).cd:=by omega
 have hq:0<(encP o l).cd.R/aU (tO o (encP o l)):=by omega
 have hd:=aQh hq hs.1 hs.2
 have hs2:=hs.2
 rw[Int.mul_add] at hs2
 exact⟨hs.1,hs.2,hc0,by have:=hc.2.1;omega,hd.1,hd.2,by unfold dK;rw[kP];have:=hin.k;omega⟩
theorem LV {C:List Int} (h: ∀c∈C,1≤c) {i:Int} (i0:0≤i): ∀k:Nat,i+k≤C.length→aU (C.take i.toNat)≤aU (C.take (i+k).toNat)
 |0,_=>by rw[show i+((0:Nat):Int)=i by omega];exact Int.le_refl _
 |k+1,hk=>by
  have ih:=LV h i0 k (by omega)
  have e:=qO (l:=C) (i:=i+k) (by omega) (by omega)
  have:=h _ (bH (L:=C) (k:=i+k) (by omega) (by omega))
  rw[show i+((k+1:Nat):Int)=i+k+1 by omega]
  omega
theorem aSj {C:List Int} (h: ∀c∈C,1≤c) {v:Int} (i0:0≤i) (hi:i≤y) (hy:y<C.length) (g1:aU (C.take y.toNat)≤v) (hv:v<aU (C.take i.toNat)+rd C i):i=y:=by
 have e1:=qO (l:=C) i0 (by omega)
 rcases Int.lt_or_eq_of_le hi with c|c
 ·have:=LV h (i:=i+1) (by omega) (y-i-1).toNat (by omega)
  rw[show i+1+((y-i-1).toNat:Int)=y by omega] at this
  omega
 ·exact c
theorem aSf (hb:aO b) (i0:0≤i) (hi:i<(bK b).length):rd (bK b) i=257↔i=(bK b).length-1:=by
 have hlen:((bK b).length:Int)=(bD 0 (bB aR b)).length+1:=by unfold bK;rw[List.length_append,List.length_singleton];omega
 constructor
 ·intro h
  rcases Int.lt_or_le i (bD 0 (bB aR b)).length with c|c
  ·exfalso
   unfold bK at h
   rw[jI i0 c] at h
   have:=DZ (bB aR b) 0 (jK hb) _ (bH i0 c)
   omega
  ·omega
 ·intro h
  unfold bK
  rw[fZ (by omega),show i-(bD 0 (bB aR b)).length=0 by omega]
  rfl
theorem AQ (b:List Int):(bK b).take ((bK b).length-1)=bD 0 (bB aR b):=by
 unfold bK
 rw[List.length_append,List.length_singleton,Nat.add_sub_cancel,List.take_left]
theorem XW (i0:0≤i) (hi:i<(bK b).length):bK b=(bK b).take i.toNat++rd (bK b) i::(bK b).drop (i+1).toNat:=by
 conv=>lhs;rw[←List.take_append_drop i.toNat (bK b),fM i0 hi]
theorem aUa {s:PpS} (hb:aO b) (hx:x=dK b o) (hS:s=encP o ((bK b).take i.toNat)) (i0:0≤i) (hi:i<(bK b).length):rM x s.cd (tO o s) (rd (bK b) i):=by
 subst hx
 subst hS
 exact aQi hb (XW i0 hi)
theorem rM.w0 {s:PpS} (h:rM x s.cd (tO o s) y) (hk:s.cls*o=0):rM x s.cd s.c0 y:=by
 unfold tO at h
 rwa[if_pos hk] at h
theorem rM.w1 {s:PpS} (h:rM x s.cd (tO o s) y) (hk:s.cls*o=1):rM x s.cd s.c1 y:=by
 unfold tO at h
 rwa[if_neg (by omega),if_pos hk] at h
theorem rM.w2 {s:PpS} (h:rM x s.cd (tO o s) y) (hk:s.cls*o=2):rM x s.cd s.c2 y:=by
 unfold tO at h
 rwa[if_neg (by omega),if_neg (by omega)] at h
theorem rM.tot {cd:CdS} (h:rM x cd C y) (hok:lJ C) (h0:0≤y) (hy:y<258):cuC x cd/(cd.R/aU C)<aU C∧1≤aU C∧aU C≤65536:=by
 have h1:=h.v1
 have h2:=qP (i:=y) hok.2.1 h0 (by rw[hok.1];omega)
 have h3:=hok.2.2
 omega
theorem bAs {most p:Int} {acc q:List Int} (h:bkL most (l.drop i.toNat) acc p=some q) (i0:0≤i) (hi:i<l.length):(0≤rd l i∧rd l i<257)∧
    ((2≤rd l i∧(acc.length:Int)+1≤most∧bkL most (l.drop (i+1).toNat) (acc++[rd l i-1]) 1=some q)∨
     (rd l i<2∧p≤most∧(rd l i+1)*p≤most-acc.length∧bkL most (l.drop (i+1).toNat) (acc++List.replicate ((rd l i+1)*p).toNat 0) (p*2)=some q)):=by
  rw[fM i0 hi,bkL] at h
  split at h
  · cases h
  · split at h
    · split at h
      · cases h
      · exact⟨by omega, .inl ⟨by omega,by omega,h⟩⟩
    · split at h
      · cases h
      · exact⟨by omega, .inr ⟨by omega,by omega,by omega,h⟩⟩
theorem VV {c M:Int} (hm:m<x.length) (h:c=rA (x.take m)-M):c*256+rd x (m:Int)=rA (x.take (m+1))-M*256:=by
 rw[aGt hm,h]
 omega
end Go.Pure
namespace Go.Eng
open Go Go.RowKit Go.Pure
section
variable {P:Program} {n:Nd} {B:Nat} {w0:World} {L:Env} {R:List Row} {ty:TypeId}
theorem wrap32 {x:Int} (h:0≤x∧x<4294967296):IntKind.u32.wrap x=x:=by
 simp[IntKind.wrap,IntKind.bits,IntKind.signed];omega
theorem vV {p:Int} (h:0≤p∧p<4294967296):(BitVec.ofInt 32 p).toNat=p.toNat:=by
 rw[BitVec.toNat_ofInt]
 have e:((2^32:Nat):Int)=4294967296:=rfl
 rw[e,Int.emod_eq_of_lt h.1 h.2]
theorem xI {x:Operand} {s d:TypeId} {j:IntKind} {p:Int} {td:TypeDesc} (hs':P.underlying s=some td) (hd:P.underlying d=some (.int .u32)) (hx:ev L x=some (.int j p)) (h:0≤p∧p<4294967296):Yl P n B w0 (.convert s d x) ty L R (.int .u32 p):=by
 have:=oO (P:=P) (n:=n) (B:=B) (w0:=w0) (R:=R) (ty:=ty) hs' hd hx
 rwa[wrap32 h] at this
theorem aGb (x m:Int) (h:0≤x*m∧x*m<4294967296) (j:IntKind) (k:Nat) (hk:k≤32) (hm:(2:Int)^k=m) (w:World):(Op.shift .shl .u32 x j (k:Int)).run P w= .ok (.int .u32 (x*m)) w:=by
 have hn: ¬((k:Int)<0):=by omega
 have hb:min (k:Int).toNat (IntKind.bits .u32)=k:=by
  have:IntKind.bits .u32=32:=rfl
  omega
 unfold Op.shift
 simp only[hn,hb,if_false,hm,wrap32 h]
 rfl
theorem DU {x y:Operand} {t u:TypeId} {a m:Int} {j:IntKind} {k:Nat} (hx:ev L x=some (.int .u32 a)) (hy:ev L y=some (.int j (k:Int))) (hm:(2:Int)^k=m) (h:0≤a*m∧a*m<4294967296) (hk:Nat.ble k 32=true):Yl P n B w0 (.binOp .shl t x y u) ty L R (.int .u32 (a*m)):=by
 intro a' w o ho _ hs _
 simp[execOp,ho,hs.ev hx,hs.ev hy,binOp,eqGuard,aGb a m h j k (Nat.le_of_ble_eq_true hk) hm]
theorem aLi (p q:Int) (k:Nat) (m:Int) (hm:(2:Int)^k=m) (h:0≤p∧p*m+q<4294967296) (hq:0≤q∧q<m) (w:World):(Op.intBits .or .u32 q (p*m)).run P w= .ok (.int .u32 (q+p*m)) w:=by
 show Result.ok (Value.int .u32 (IntKind.u32.wrap ((BitVec.ofInt 32 q|||BitVec.ofInt 32 (p*m)).toNat:Int))) w=_
 have hpm:0≤p*m:=Int.mul_nonneg h.1 (by omega)
 rw[BitVec.or_comm,BitVec.toNat_or,vV (by omega),vV (by omega)]
 have e1:(p*m).toNat=2^k*p.toNat:=by
  have:p*m=((2^k*p.toNat:Nat):Int):=by
   rw[Int.natCast_mul,Int.toNat_of_nonneg h.1,Int.natCast_pow,←hm,Int.mul_comm]
   rfl
  rw[this,Int.toNat_natCast]
 have e2:q.toNat<2^k:=by
  have:((2^k:Nat):Int)=m:=by rw[←hm,Int.natCast_pow];rfl
  omega
 rw[e1,←Nat.two_pow_add_eq_or_of_lt e2,←e1]
 rw[show(((p*m).toNat+q.toNat:Nat):Int)=q+p*m by omega,wrap32 (by omega)]
theorem OL {x y:Operand} {t u:TypeId} {p q m:Int} (k:Nat) (hx:ev L x=some (.int .u32 q)) (hy:ev L y=some (.int .u32 (p*m))) (hm:(2:Int)^k=m) (h:0≤p∧p*m+q<4294967296) (hq:0≤q∧q<m):Yl P n B w0 (.binOp .or t x y u) ty L R (.int .u32 (q+p*m)):=by
 intro a w o ho _ hs _
 simp[execOp,ho,binOp,eqGuard,hs.ev hx,hs.ev hy,aLi p q k m hm h hq]
theorem tT {w:World} (base:Nat) (t tn ty e:TypeId) (kn:IntKind) (i:TypeInfo) (z:Value) (bytes:Nat) (ht:P.underlying t=some (.slice e)) (htn:P.underlying tn=some (.int kn)) (hi:P.info? e=some i) (hz:i.zero=some z)
  (hsize:i.size=1) (hby:i.bytes=bytes) (hzc:z.cells= #[z]) (hz1:z.oneCell'=true) (v:Value) (n:Nat) (xs:List Value) (hown:w.ownsRow base e 1 v n xs) (m:Nat) (h0:0<m) (h63:n+m≤maxLen) (hbytes:(n+m)*bytes≤140737488355328) (hbase:base≤w.heap.size):
  ∃v' w',(Builtin.append_ #[t,tn] ty #[v, .int .i64 (m:Int)]).run P w= .ok v' w'∧w'.ownsRow base e 1 v' (n+m) (xs++List.replicate m z)∧w.grownBy w' v.ownBlock∧(v'.ownBlock=v.ownBlock∨v'.ownBlock=some w.heap.size):=by
 subst hby
 have hsmall:n+m≤9223372036854775807:=by simp only[maxLen] at h63;omega
 have hl:(List.replicate m z).length=m:=List.length_replicate
 have hlen:(xs++List.replicate m z).length=(n+m)*1:=by rw[List.length_append,hown.1,hl];omega
 have hzl: ∀q,(Builtin.zeroCells z.cells q).toList=List.replicate q z:=fun q=>by
  rw[hzc]
  refine List.ext_getElem (by simp[Builtin.zeroCells]) fun i h1 h2=> ?_
  simp[Builtin.zeroCells,Nat.mod_one]
 have hzz:Builtin.zeroCells z.cells m=(List.replicate m z).toArray:=by rw[←hzl m]
 have hm0:m≠0:=by omega
 have hw:IntKind.i64.wrap (m:Int)=m:=by rw[IntKind.wrap_i64];omega
 have hneg: ¬((m:Int)<0):=by omega
 have hmb:m*i.bytes≤(n+m)*i.bytes:=Nat.mul_le_mul_right _ (by omega)
 have h48i: ¬(281474976710656<(m:Int)*(i.bytes:Int)):=by
  rw[←Int.natCast_mul]
  omega
 have grown: ∀(old:Nat),old<n+m→ ∀(row:Option Nat),
   (w.drew.alloc (.cells (xs.toArray++Builtin.zeroCells z.cells m++Builtin.zeroCells z.cells (grownCap w (n+m) old e-(n+m))) e)).ownsRow base e 1 (.slice (some ⟨w.heap.size,0,none⟩) (n+m) (grownCap w (n+m) old e)) (n+m) (xs++List.replicate m z)∧
   w.grownBy (w.drew.alloc (.cells (xs.toArray++Builtin.zeroCells z.cells m++Builtin.zeroCells z.cells (grownCap w (n+m) old e-(n+m))) e)) row:=by
  intro old ho row
  have hge:=grownCap_ge w (n+m) old e
  have hcm:grownCap w (n+m) old e≤maxLen:=grownCap_le_maxLen w (n+m) old e h63
  have hx1:=hown.1
  refine⟨⟨hlen, .inr ⟨w.heap.size,_,_,rfl,hbase,heap_alloc_new w.drew _,hge,hcm,?_,?_⟩⟩,⟨rfl,rfl,rfl,by simp,fun k hk _=>by first|exact heap_alloc_old w.drew _ k hk|exact heap_alloc_old w.drew _ hk⟩⟩
  ·rw [←Array.length_toList,Array.toList_append,Array.toList_append,List.length_append,List.length_append,hzl,hzl,List.length_replicate,List.length_replicate]
   show xs.length+m+_=_
   omega
  ·rw [Array.toList_append,Array.toList_append,hzl,←hlen]
   exact List.take_left
 rcases hown.2 with⟨rfl,rfl⟩|⟨g,cap,cur,rfl,hbg,hg,hnc,hcm,hcs,htake⟩
 ·have hx:xs=[]:=List.eq_nil_of_length_eq_zero (by simpa using hown.1)
  subst hx
  have hr:=Lib.run_append_nil_zeros (P:=P) w t tn ty e i z .i64 kn ht htn hi hz m h0 (by omega) (by omega) (by omega)
  have hgr:=grown 0 (by omega) (Value.ownBlock (.slice none 0 0))
  simp only[Nat.zero_add,List.nil_append,Array.empty_append] at hgr ⊢
  exact⟨_,_,hr,hgr.1,hgr.2,Or.inr rfl⟩
 ·by_cases hroom:n+m≤cap
  ·have hfit:n*1+(List.replicate m z).length≤cur.size:=by rw[hl,hcs];omega
   have hst:=run_storeCells_at P g (n*1) e (List.replicate m z) 0 cur w hg (by simpa using hfit) (fun u hu=>by rw[List.eq_of_mem_replicate hu];exact hz1)
   simp only[Nat.add_zero] at hst
   have hr:(Builtin.append_ #[t,tn] ty #[.slice (some ⟨g,0,none⟩) n cap, .int .i64 (m:Int)]).run P w= .ok (.slice (some ⟨g,0,none⟩) (n+m) cap) (w.setRow g (cur.toList.take (n*1)++List.replicate m z++cur.toList.drop (n*1+(List.replicate m z).length)).toArray):=by
    simp only[Nat.mul_one] at hst
    simp[Builtin.append_,run_underlying ht,run_underlying htn,sizeOf,typeInfo,zeroValue,hi,hz,asInt,asIntOf,hw,hm0,hneg,h48i,hsize,hroom,hzz,Addr.add_lit,hst]
   refine⟨_,_,hr,⟨hlen, .inr ⟨g,cap,_,rfl,hbg,setRow_heap w g cur _ e _ hg,hroom,hcm,?_,?_⟩⟩,⟨rfl,rfl,rfl,by simp,fun k _ hk=>setRow_other w g k _ (fun e=>hk (by simp[Value.ownBlock,e]))⟩,Or.inl rfl⟩
   ·simp only[List.size_toArray,List.length_append,List.length_take,List.length_drop,Array.length_toList]
    omega
   ·rw [htake,←hlen]
    exact List.take_left
  ·have holds: ∀j u,xs[j]? =some u→w.cell? ((⟨g,0,none⟩:Addr).add j)=some u:=hown.cells (g:=g) rfl
   have hfo:=run_firstCells_some (P:=P) w.drew 1 n ⟨g,0,none⟩ n cap xs hown.1 (by simpa using holds)
   have hn: ¬(n+m≤cap):=hroom
   have h63': ¬(9223372036854775807<((n:Int)+(m:Int))):=by omega
   have hfits:=growslice_fits (old:=cap) (by omega) hbytes
   have h48': ¬(281474976710656<Builtin.nextslicecap (n+m) cap*i.bytes):=by omega
   have hr:(Builtin.append_ #[t,tn] ty #[.slice (some ⟨g,0,none⟩) n cap, .int .i64 (m:Int)]).run P w= .ok (.slice (some ⟨w.heap.size,0,none⟩) (n+m) (grownCap w (n+m) cap e)) (w.drew.alloc (.cells (xs.toArray++Builtin.zeroCells z.cells m++Builtin.zeroCells z.cells (grownCap w (n+m) cap e-(n+m))) e)):=by
    simp[Builtin.append_,run_underlying ht,run_underlying htn,sizeOf,typeInfo,zeroValue,hi,hz,asInt,asIntOf,hw,hm0,hneg,h48i,hsize,hn,h63',h48',Question.forced,hfo,newRow,grownCap]
   have hgr:=grown cap (by omega) (Value.ownBlock (.slice (some ⟨g,0,none⟩) n cap))
   exact⟨_,_,hr,hgr.1,hgr.2,Or.inr rfl⟩
theorem aRp {s x:Operand} {t tn e:TypeId} {bytes m:Nat} {kn k:IntKind} {A:Option Addr} {c q:Nat} {l:List Int} (i:Nat) (hi:R[i]? =some ⟨e,1,A,q,c,ints k l,false⟩) (ht:P.underlying t=some (.slice e)) (htn:P.underlying tn=some (.int kn)) (hinfo:(P.info? e).map (fun i=>(i.zero,i.size,i.bytes))=some (some (.int k 0),1,bytes))
  (hs:ev L s=some (.slice A q c)) (hx:ev L x=some (.int .i64 (m:Int))) (h0:0<m) (h63:q+m≤1000000) (hbytes:(q+m)*bytes≤140737488355328):
  Ac P n B w0 (.call {callee:= .builtin .append,args:= #[s,x],argTypes:= #[t,tn]}) ty L R (fun v R'=> ∃A' c',v= .slice A' (q+m) c'∧R'=R.set i ⟨e,1,A',q+m,c',ints k (l++List.replicate m 0),false⟩):=by
 intro a w o K Q ho _ hs' hp hk
 obtain⟨i0,hi0,hzz⟩:=Option.map_eq_some_iff.1 hinfo
 simp only[Prod.mk.injEq] at hzz
 obtain⟨hz0,hz1,hz2⟩:=hzz
 have hr:=hp.own _ (List.mem_of_getElem? hi)
 have hown:=Row.lies_w hr rfl
 obtain⟨v',w',h2,h3,h4,h5⟩:=tT (P:=P) B t tn o.type e kn i0 (.int k 0) bytes ht htn hi0 hz0 hz1 hz2 rfl rfl _ q (ints k l) hown m h0 (by unfold maxLen;omega) hbytes hp.base
 have hform: ∃A' c',v'= .slice A' (q+m) c':=by
  rcases h3.2 with⟨rfl,hn⟩|⟨g,cap,cur,rfl,_⟩
  ·exact⟨none,0,by rw[hn]⟩
  ·exact⟨_,cap,rfl⟩
 obtain⟨A',c',rfl⟩:=hform
 have hrep:ints k l++List.replicate m (.int k 0)=ints k (l++List.replicate m 0):=by simp[ints]
 rw[hrep] at h3
 unfold Oper.wp execOp
 simp only[ho,resolve,invoke,builtin,Sem.run_bind,Sem.run_pure,Result.andThen_ok,List.map_toArray,List.map_cons,List.map_nil,hs'.ev hs,hs'.ev hx,h2,Oper.upon]
 refine hk _ w' _ ?_ ⟨A',c',rfl,rfl⟩
 refine hp.upd hi h4 (FP _ _ _ _ h2) (fun k hk=> ?_) ?_ (fun a' ha'=> ?_)
 ·cases hA:A with
  |none=>rw[hA] at hk;simp[Value.ownBlock] at hk
  |some a1=>rw[hA] at hk;simp only[Value.ownBlock,Option.some.injEq] at hk;exact⟨a1,rfl,hk⟩
 ·exact h3
 ·have ha2:A'=some a':=ha'
  subst ha2
  rcases h5 with h5|h5
  ·cases hA:A with
   |none=>rw[hA] at h5;simp[Value.ownBlock] at h5
   |some a1=>rw[hA] at h5;simp only[Value.ownBlock,Option.some.injEq] at h5;exact .inl ⟨a1,rfl,h5.symm⟩
  ·simp only[Value.ownBlock,Option.some.injEq] at h5
   exact .inr (by omega)
end
theorem aUz {x:Int} (h:0≤x∧x<4294967296):0+x/1%256*1+x/256%256*256+x/65536%256*65536+x/16777216%256*16777216=x:=by omega
end Go.Eng
namespace Go.Proofs.YtdbebmmhdefgdaaGreat
open Go Go.Eng Go.Pure
open Tryz
set_option maxRecDepth 100000
variable {B g n c:Nat} {w0:World} {R:List Row} {A:Option Addr} {x:List Int} {us cc r total:Int}
theorem rZ {C:List Int} {y v0:Int} (hn:n=C.length) (hok:lJ C) (hy:0≤y∧y<258) (hv:aU (C.take y.toNat)≤v0∧v0<aU (C.take y.toNat)+rd C y):
  Ct Tryz.prog 301 #[.pointer (GG g),I v0] B w0 ((rc 256 2 g [.slice A n c,I (aU C)])::(ri 3 A n c C)::R) (fun v R'=>v= .tuple #[I y, .bool true]∧R'=(rc 256 2 g [.slice A n c,I (aU C)])::(ri 3 A n c C)::R):=by
 subst hn
 have hcl:=hok.1
 have hpy:=hok.le.part hy.1 hy.2
 have hps:=qP (i:=y) hok.2.1 hy.1 (by omega)
 refine fn2 Tryz.func301 Z Z Z ?_
 refine wq<|wg Z<|wn Z<|aG<|wq<|wm Z<|wy (Yl.f (eP Z Z))<|wm Z<|aC Z Z<|wm Z<|aC Z Z<|wm Z ?_
 refine aC Z Z<|wa (aF IY Z ((iC))) ?_
 rintro _ _ ⟨rfl,rfl⟩
 refine aC Z Z<|wy (Yl.f (jG Z Z))<|wy (aS Z Z)<|aA<|aL Z<|aK<|aG<|aI ?_
 refine dR (fun(i:Int) (x:Int)=>[(0, .pointer (GG g)),(1,I x),(4,I i)]) (fun i x=>((rc 256 2 g [.slice A C.length c,I (aU C)])::(ri 3 A C.length c C)::R)) (fun i x=>(0≤i)∧(i≤y)∧(x=v0-aU (C.take i.toNat))) (fun i x=>(y-i).toNat) ?_ ?_
 ·exact⟨0,v0,⟨by omega,by omega,(by rw[show aU (C.take (0:Int).toNat)=0 from rfl];omega)⟩,(G3 Z Z Z),fun _ h=>h⟩
 intro i x ⟨hi0,hi1,hx⟩
 have hp:=hok.le.part hi0 (by omega)
 refine aG<|wq<|wm Z<|wm Z<|wy (aD Z)<|wy (aB (off:=0) (m:=0) underlying256 Z gX Z Z Z)<|wy (aJ (rdr 0 Z) underlying52 Z Z Z)<|wm Z<|wy (aH underlying52 sz3 Z Z (rdr 1 Z))<|wy (aX underlying3 Z Z (rdr 1 Z))<|wy (jG Z Z)<|aA<|bM Z (fun hc1=> ?_) (fun hc1=> ?_)
 ·have hne:i≠y:=by rintro rfl;omega
  refine aK<|aI<|wq<|wm Z<|wm Z<|wy (aD Z)<|wy (aB (off:=0) (m:=0) underlying256 Z gX Z Z Z)<|wy (aJ (rdr 0 Z) underlying52 Z Z Z)<|wm Z<|wy (aH underlying52 sz3 Z Z (rdr 1 Z))<|wy (aX underlying3 Z Z (rdr 1 Z))<|wS Z Z<|wn Z ?_
  refine aM<|wm Z<|wA Z Z<|wn Z ?_
  exact⟨i+1,x-(rd C i),⟨by omega,by omega,(by rw[qO hi0 (by omega)];omega)⟩,by omega,(G3 Z Z Z),fun _ h=>h⟩
 ·refine aZ<|wq<|wm Z<|wg Z<|wn Z<|bR (R1:=((rc 256 2 g [.slice A C.length c,I (aU C)])::(ri 3 A C.length c C)::R)) (fun _ h=>h) ?_
  refine⟨_,_,Z,Z,?_⟩
  obtain rfl:i=y:=aSj hok.2.1 hi0 hi1 (by omega) hv.1 (by omega)
  exact⟨Z,Z⟩
theorem pE {M:Int} {m:Nat} (hn:n=x.length) (bh_x:aO x) (hN:x.length≤1000000) (hu:us=(m:Int)) (hc:cc=rA (x.take m)-M) (hb:0≤cc∧cc<4294967296) (hm:m<x.length):
  Ct Tryz.prog 327 #[.pointer (GG g)] B w0 ((rc 360 4 g [.slice A n c,I us, .int .u64 cc, .int .u64 r])::(ru 5 A n c x)::R) (fun v R'=>v= .bool true∧R'=(rc 360 4 g [.slice A n c,I ((m+1:Nat):Int), .int .u64 (rA (x.take (m+1))-M*256), .int .u64 r])::(ru 5 A n c x)::R):=by
 subst hn
 subst hu
 have hbx:=bh_x.rd (m:Int)
 refine fn1 Tryz.func327 Z Z Z ?_
 refine wq<|wn Z<|aG<|aG<|bT mixed<|wD 0 Z (aN Z)<|wD 1 Z (aD Z)<|wD 2 Z (aB (off:=1) (m:=1) underlying360 Z sz3 Z Z Z)<|wD 3 Z (aJ (rdr 0 Z) underlying3 Z Z Z)<|wD 4 Z (aN Z)<|wD 5 Z (aD Z)<|wD 6 Z (aB (off:=0) (m:=0) underlying360 Z dO Z Z Z)<|wD 7 Z (aJ (rdr 0 Z) underlying22 Z Z Z) ?_
 refine wD 8 Z (aQ underlying22 Z)<|wD 9 Z (Yl.f (jG Z Z))<|wN<|aL Z<|aK<|aG<|bT mixed<|wD 0 Z (aN Z)<|wD 1 Z (aN Z)<|wD 2 Z (aD Z)<|wD 3 Z (aB (off:=2) (m:=2) underlying360 Z dP Z Z Z)<|wD 4 Z (aJ (rdr 0 Z) underlying112 Z Z Z)<|wD 5 Z (vX (k:=8) (m:=256) Z Z Z (by omega) Z)<|wD 6 Z (aN Z)<|wD 7 Z (aD Z) ?_
 refine wD 8 Z (aB (off:=0) (m:=0) underlying360 Z dO Z Z Z)<|wD 9 Z (aJ (rdr 0 Z) underlying22 Z Z Z)<|wD 10 Z (aN Z)<|wD 11 Z (aD Z)<|wD 12 Z (aB (off:=1) (m:=1) underlying360 Z sz3 Z Z Z)<|wD 13 Z (aJ (rdr 0 Z) underlying3 Z Z Z)<|wD 14 Z (aH underlying22 sz5 Z Z (rdr 1 Z))<|wD 15 Z (aX underlying5 Z Z (rdr 1 Z))<|wD 16 Z (iU underlying5 underlying112 Z)<|wD 17 Z (bBn (p:=cc) (m:=256) 8 Z Z Z (by omega) (by omega))<|wD 18 Z (aD Z)<|wD 19 Z (aB (off:=2) (m:=2) underlying360 Z dP Z Z Z)<|pR 20 Z (by kernel_rfl) (aY 0 Z Z Z dP Z Z Z Z (Nat.le_of_ble_eq_true Z)) ?_
 rintro _ _ rfl
 refine⟨.inl (by kernel_rfl),?_⟩
 refine wN<|wq<|wm Z<|wy (aD Z)<|wy (aB (off:=1) (m:=1) underlying360 Z sz3 Z Z Z)<|wy (aJ (rdr 0 Z) underlying3 Z Z Z)<|wA Z Z<|wy (aD Z)<|wy (aB (off:=1) (m:=1) underlying360 Z sz3 Z Z Z)<|bY (aY 0 Z Z Z sz3 Z Z Z Z (Nat.le_of_ble_eq_true Z)) ?_
 rintro _ _ rfl
 refine aA<|wq<|wn Z<|bR (R1:=((rc 360 4 g [.slice A x.length c,I (((m:Nat):Int)+1), .int .u64 (cc*256+rd x ((m:Nat):Int)), .int .u64 r])::(ru 5 A x.length c x)::R)) (fun _ h=>h) ?_
 refine⟨_,Z,?_⟩
 rw[VV hm hc]
 exact⟨Z,Z⟩
theorem HZ {w:World} {A_u:Option Addr} {n_u c_u:Nat} {u:List Int} (h_u:Rd w A_u n_u c_u 1 (ints .u8 u)) (bh_u:aO u) (hN:u.length≤1000000) (h4:4≤u.length):
  Ct Tryz.prog 299 #[.slice A_u n_u c_u] w.heap.size w [] (fun v R'=> ∃g A c,v= .tuple #[.pointer (GG g), .bool true]∧R'=[(rc 360 4 g [.slice A u.length c,I ((cd0.k+4:Nat):Int), .int .u64 (cuC u cd0), .int .u64 cd0.R]),(ru 5 A u.length c u)]):=by
 obtain rfl:=h_u.lenI
 refine fn2 Tryz.func299 Z Z Z ?_
 have m_u:=h_u.max
 have hq0:=yP 0 (u.take 0) (by rw[List.length_take];omega) (bh_u.take _)
 have hq1:=yP 1 (u.take 1) (by rw[List.length_take];omega) (bh_u.take _)
 have hq2:=yP 2 (u.take 2) (by rw[List.length_take];omega) (bh_u.take _)
 have hq3:=yP 3 (u.take 3) (by rw[List.length_take];omega) (bh_u.take _)
 refine wq<|wg Z<|wn Z<|aG<|wq<|wm Z<|wy (aQ underlying22 Z)<|wy (Yl.f (eP Z Z))<|aA<|aL Z<|aK<|aG ?_
 refine aM<|wm Z<|wa (aF VD Z (Ct.fresh (fun w hw=>lG ((h_u.c _) w hw) hN))) ?_
 rintro _ _ ⟨_,rfl,A_1,c_2,rfl,rfl⟩
 refine wy (dY (v:= .agg #[.slice A_1 u.length c_2,I 0, .int .u64 0, .int .u64 4294967295]) Z (fun w=>by kernel_rfl))<|wa (bX (sz:=4) rfl rfl) ?_
 rintro _ _ ⟨g_3,rfl,rfl⟩
 refine wn Z<|aG<|wq<|wm Z<|aA<|aI<|qM 5<|dZ<|wq<|wy (Yl.t (eP Z Z) (by decide))<|aA<|aG ?_
 refine bO Z<|aK<|aG<|aI<|aM<|wm Z<|wa (aF VE Z ((pE (m:=0) (M:=0) Z bh_u hN Z Z (by first|exact⟨by decide,by decide⟩|(simp only[Nat.zero_add,Nat.reduceAdd,Int.zero_mul,Int.sub_zero];omega)) (by omega)))) ?_
 rintro _ _ ⟨rfl,rfl⟩
 refine aA<|aM<|wy (Yl.is (dF Z Z) Z)<|wm Z<|aA<|dZ<|wq<|wy (Yl.t (eP Z Z) (by decide))<|aA<|aG<|bO Z<|aK<|aG<|aI ?_
 refine aM<|wm Z<|wa (aF VE Z ((pE (m:=0+1) (M:=(0*256)) Z bh_u hN Z Z (by first|exact⟨by decide,by decide⟩|(simp only[Nat.zero_add,Nat.reduceAdd,Int.zero_mul,Int.sub_zero];omega)) (by omega)))) ?_
 rintro _ _ ⟨rfl,rfl⟩
 refine aA<|aM<|wy (Yl.is (dF Z Z) Z)<|wm Z<|aA<|dZ<|wq<|wy (Yl.t (eP Z Z) (by decide))<|aA<|aG<|bO Z<|aK<|aG<|aI ?_
 refine aM<|wm Z<|wa (aF VE Z ((pE (m:=0+1+1) (M:=(0*256*256)) Z bh_u hN Z Z (by first|exact⟨by decide,by decide⟩|(simp only[Nat.zero_add,Nat.reduceAdd,Int.zero_mul,Int.sub_zero];omega)) (by omega)))) ?_
 rintro _ _ ⟨rfl,rfl⟩
 refine aA<|aM<|wy (Yl.is (dF Z Z) Z)<|wm Z<|aA<|dZ<|wq<|wy (Yl.t (eP Z Z) (by decide))<|aA<|aG<|bO Z<|aK<|aG<|aI ?_
 refine aM<|wm Z<|wa (aF VE Z ((pE (m:=0+1+1+1) (M:=(0*256*256*256)) Z bh_u hN Z Z (by first|exact⟨by decide,by decide⟩|(simp only[Nat.zero_add,Nat.reduceAdd,Int.zero_mul,Int.sub_zero];omega)) (by omega)))) ?_
 rintro _ _ ⟨rfl,rfl⟩
 refine aA<|aM<|wy (Yl.is (dF Z Z) Z)<|wm Z<|aA<|dZ<|wq<|wy (Yl.f (eP Z Z) (by decide))<|aA<|aG<|aL Z<|aZ<|wq ?_
 refine wm Z<|wg Z<|wn Z<|bR (R1:=[(rc 360 4 g_3 [.slice A_1 u.length c_2,I ((0+1+1+1+1:Nat):Int), .int .u64 (rA (u.take (0+1+1+1+1))-(0*256*256*256)*256), .int .u64 4294967295]),(ru 5 A_1 u.length c_2 u)]) (fun _ h=>h) ?_
 refine⟨_,_,Z,Z,?_⟩
 exact⟨_,_,_,Z,Z⟩
theorem BJ (hn:n=x.length) (ht:1≤total∧total≤65536) (hr:16777216≤r∧r<4294967296) (hc:0≤cc∧cc<4294967296) (hv:cc/(r/total)<total):
  Ct Tryz.prog 300 #[.pointer (GG g),I total] B w0 ((rc 360 4 g [.slice A n c,I us, .int .u64 cc, .int .u64 r])::(ru 5 A n c x)::R) (fun v R'=>v= .tuple #[I (cc/(r/total)), .bool true]∧R'=(rc 360 4 g [.slice A n c,I us, .int .u64 cc, .int .u64 r])::(ru 5 A n c x)::R):=by
 subst hn
 have hq:256≤r/total:=(Int.le_ediv_iff_mul_le (by omega)).2 (by omega)
 have hv0:0≤cc/(r/total):=Int.ediv_nonneg hc.1 (by omega)
 refine fn2 Tryz.func300 Z Z Z ?_
 refine wq<|wg Z<|wn Z<|aG<|wq<|wm Z<|wy (cZ underlying332 Z Z)<|wm Z<|aC Z Z<|wm Z<|aC Z Z<|wy (Yl.f (eP Z Z)) ?_
 refine wy (aS Z Z)<|wm Z<|aC Z Z<|wm Z<|aC Z Z<|wy (Yl.f (dV Z Z))<|wy (aS Z Z)<|aA<|aL Z<|aK<|wq<|wm Z<|wy (aD Z)<|wy (aB (off:=3) (m:=3) underlying360 Z dP Z Z Z) ?_
 refine wy (aJ (rdr 0 Z) underlying112 Z Z Z)<|wm Z<|wy (iU underlying3 underlying112 Z)<|wy (EN Z Z (by omega) (by omega))<|wn Z<|aG<|wq<|wm Z<|wy (Yl.f (bC Z Z))<|wm Z<|aC Z Z<|wm Z<|aC Z Z ?_
 refine wy (aD Z)<|aC Z Z<|wy (aB (off:=2) (m:=2) underlying360 Z dP Z Z Z)<|aC Z Z<|wy (aJ (rdr 0 Z) underlying112 Z Z Z)<|aC Z Z<|wm Z<|aC Z Z<|wy (EN Z Z (by omega) (by omega))<|aC Z Z<|wm Z<|aC Z Z<|wy (iU underlying3 underlying112 Z)<|aC Z Z<|wy (Yl.f (jG Z Z)) ?_
 refine wy (aS Z Z)<|aA<|aL Z<|aK<|wq<|wm Z<|wy (aD Z)<|wy (aB (off:=2) (m:=2) underlying360 Z dP Z Z Z)<|wy (aJ (rdr 0 Z) underlying112 Z Z Z)<|wm Z<|wy (EN Z Z (by omega) (by omega))<|wy (iV underlying112 underlying3 Z)<|wg Z<|wg Z ?_
 refine aA<|bR (R1:=((rc 360 4 g [.slice A x.length c,I us, .int .u64 cc, .int .u64 r])::(ru 5 A x.length c x)::R)) (fun _ h=>h) ?_
 refine⟨_,_,Z,Z,?_⟩
 exact⟨Z,Z⟩
set_option maxHeartbeats 1000000 in
theorem AC {s:CdS} {low size:Int} (hn:n=x.length) (bh_x:aO x) (hN:x.length≤1000000) (hs:16777216≤s.R∧s.R<4294967296) (hsp:uS low size total) (hlo:s.R/total*low≤cuC x s) (hhi:cuC x s<s.R/total*(low+size)) (hlen:(gQ s low size total).k+4≤x.length):
  Ct Tryz.prog 302 #[.pointer (GG g),I low,I size,I total] B w0 ((rc 360 4 g [.slice A n c,I ((s.k+4:Nat):Int), .int .u64 (cuC x s), .int .u64 s.R])::(ru 5 A n c x)::R) (fun v R'=>v= .bool true∧R'=(rc 360 4 g [.slice A n c,I (((gQ s low size total).k+4:Nat):Int), .int .u64 (cuC x (gQ s low size total)), .int .u64 ((gQ s low size total).R)])::(ru 5 A n c x)::R):=by
 subst hn
 have hsp':=hsp
 obtain⟨s1,s2,s3,s4⟩:=hsp'
 obtain⟨f1,f2,f3,f4,f5⟩:=oV hsp hs
 have hms:=Int.mul_add (s.R/total) low size
 have hln:s.k+shN (s.R/total*size)+4≤x.length:=hlen
 refine fn1 Tryz.func302 Z Z Z ?_
 refine wq<|wn Z<|aG<|wq<|wm Z<|wy (cZ underlying332 Z Z)<|wm Z<|aC Z Z<|wm Z<|aC Z Z<|wm Z<|aC Z Z ?_
 refine wm Z<|aC Z Z<|wa (aF aXl Z (Ct.quiet (fun w hw=>CX hsp))) ?_
 rintro _ _ ⟨rfl,rfl⟩
 refine aC Z Z<|wy (dI Z)<|wy (aS Z Z)<|aA<|aL Z<|aK<|wq<|wm Z<|wy (aD Z)<|wy (aB (off:=3) (m:=3) underlying360 Z dP Z Z Z)<|wy (aJ (rdr 0 Z) underlying112 Z Z Z)<|wm Z<|wy (iU underlying3 underlying112 Z)<|wy (EN Z Z (by omega) (by omega)) ?_
 refine wn Z<|aG<|wq<|wm Z<|wy (aD Z)<|wy (aB (off:=2) (m:=2) underlying360 Z dP Z Z Z)<|wy (aJ (rdr 0 Z) underlying112 Z Z Z)<|wm Z<|wm Z<|wy (iU underlying3 underlying112 Z)<|wy (vY Z Z (by omega))<|wy (Yl.f (eP Z Z))<|wm Z ?_
 refine aC Z Z<|wm Z<|aC Z Z<|wy (aD Z)<|aC Z Z<|wy (aB (off:=2) (m:=2) underlying360 Z dP Z Z Z)<|aC Z Z<|wy (aJ (rdr 0 Z) underlying112 Z Z Z)<|aC Z Z<|wm Z<|aC Z Z<|wm Z<|aC Z Z<|wm Z<|aC Z Z ?_
 refine wA Z Z<|aC Z Z<|wy (iU underlying3 underlying112 Z)<|aC Z Z<|wy (vY Z Z (by omega))<|aC Z Z<|wy (Yl.f (jG Z Z))<|wy (aS Z Z)<|aA<|aL Z<|aK<|wq<|wm Z<|wy (aD Z) ?_
 refine wy (aB (off:=2) (m:=2) underlying360 Z dP Z Z Z)<|wy (aJ (rdr 0 Z) underlying112 Z Z Z)<|wm Z<|wm Z<|wy (iU underlying3 underlying112 Z)<|wy (vY Z Z (by omega))<|wy (aYf Z Z (by omega))<|wy (aD Z)<|wy (aB (off:=2) (m:=2) underlying360 Z dP Z Z Z)<|bY (aY 0 Z Z Z dP Z Z Z Z (Nat.le_of_ble_eq_true Z)) ?_
 rintro _ _ rfl
 refine aA<|aG<|wq<|wm Z<|wm Z<|wm Z<|wy (iU underlying3 underlying112 Z)<|wy (vY Z Z (by omega))<|wy (aD Z)<|wy (aB (off:=3) (m:=3) underlying360 Z dP Z Z Z)<|bY (aY 0 Z Z Z dP Z Z Z Z (Nat.le_of_ble_eq_true Z)) ?_
 rintro _ _ rfl
 refine aA<|aI ?_
 refine DX (fun(j:Nat) (cc:Int) (r:Int) (M:Int)=>[(0, .pointer (GG g))]) (fun j cc r M=>((rc 360 4 g [.slice A x.length c,I ((s.k+j+4:Nat):Int), .int .u64 cc, .int .u64 r])::(ru 5 A x.length c x)::R)) (fun j cc r M=>(M=(s.N+s.R/total*low)*256^j)∧(r=(s.R/total*size)*256^j)∧(j≤shN (s.R/total*size))∧(cc=rA (x.take (s.k+j+4))-M)∧(0≤cc∧cc<r)) (fun j cc r M=>(4-j)) ?_ ?_
 ·exact⟨0,(cuC x s-s.R/total*low),(s.R/total)*size,(s.N+s.R/total*low),⟨(by rw[Int.pow_zero,Int.mul_one]),(by rw[Int.pow_zero,Int.mul_one]),(Nat.zero_le _),(by show cuC x s-s.R/total*low=rA (x.take (s.k+4))-_;unfold cuC;omega),by omega⟩,(G1 Z),fun _ h=>h⟩
 intro j cc r M ⟨hM,hr,hj,hc,hb⟩
 have hsl:=FJ (s.R/total*size)
 have hrp:1≤r:=by rw[hr];exact GJ (by omega)
 refine aG<|wq<|wm Z<|wy (aD Z)<|wy (aB (off:=3) (m:=3) underlying360 Z dP Z Z Z)<|wy (aJ (rdr 0 Z) underlying112 Z Z Z)<|wL Z Z<|aA<|bM Z (fun hc1=> ?_) (fun hc1=> ?_)
 ·have hj2:j+1≤shN (s.R/total*size):=FI (by omega) hj (by rw[←hr];assumption)
  have hrd:=VV (x:=x) (m:=s.k+j+4) (by omega) hc
  have hbx:=bh_x.rd ((s.k+j+4:Nat):Int)
  have hb2:0≤rA (x.take (s.k+j+4+1))-M*256∧rA (x.take (s.k+j+4+1))-M*256<r*256:=by omega
  refine aK<|aG<|aI<|wq<|wm Z<|wa (aF VE Z ((pE (m:=(s.k+j+4)) (M:=M) Z bh_x hN Z hc (by omega) (by omega)))) ?_
  rintro _ _ ⟨rfl,rfl⟩
  refine wy (dI Z)<|aA<|aL Z<|aK<|aM<|wm Z<|wy (aD Z)<|wy (aB (off:=3) (m:=3) underlying360 Z dP Z Z Z)<|wy (aJ (rdr 0 Z) underlying112 Z Z Z)<|wy (vX (k:=8) (m:=256) Z Z Z (by omega) Z)<|wy (aD Z)<|wy (aB (off:=3) (m:=3) underlying360 Z dP Z Z Z)<|bY (aY 0 Z Z Z dP Z Z Z Z (Nat.le_of_ble_eq_true Z)) ?_
  rintro _ _ rfl
  refine aA ?_
  exact⟨(j+1),(rA (x.take (s.k+j+4+1))-M*256),r*256,(M*256),⟨(by rw[hM,Int.mul_assoc,←Int.pow_succ]),(by rw[hr,Int.mul_assoc,←Int.pow_succ]),(hj2),(Z),(hb2)⟩,by omega,(G1 Z),fun _ h=>h⟩
 ·refine aZ<|wq<|wn Z<|bR (R1:=((rc 360 4 g [.slice A x.length c,I ((s.k+j+4:Nat):Int), .int .u64 cc, .int .u64 r])::(ru 5 A x.length c x)::R)) (fun _ h=>h) ?_
  refine⟨_,Z,?_⟩
  obtain rfl:j=shN (s.R/total*size):=OW (by omega) hj (by rw[←hr];omega)
  rw[hc,hr,hM]
  exact⟨Z,Z⟩
variable {w:World} {A_x:Option Addr} {n_x c_x:Nat} {x b:List Int} {o most:Int}
set_option maxHeartbeats 4000000 in
theorem OU (h_x:Rd w A_x n_x c_x 1 (ints .u8 x)) (hx:x=dK b o) (bh_b:aO b) (ho:o=0∨o=1) (hN:b.length≤100000) (hm:(b.length:Int)≤most):
  Ct Tryz.prog 272 #[.slice A_x n_x c_x,I o,I most] w.heap.size w [] (fun v R'=> ∃A c,v= .tuple #[.slice A (bD 0 (bB aR b)).length c, .bool true]∧R'=[(ri 3 A ((bD 0 (bB aR b)).length) c (bD 0 (bB aR b)))]):=by
 obtain rfl:=h_x.lenI
 refine fn2 Tryz.func272 Z Z Z ?_
 have m_x:=h_x.max
 have hsy:=qN bh_b
 have hxl:x.length≤2*b.length+6:=by rw[hx];exact oF bh_b
 have hx4:4≤x.length:=by rw[hx];unfold dK;rw[kP];omega
 have hs1:(bK b).length=(bD 0 (bB aR b)).length+1:=by unfold bK;rw[List.length_append];rfl
 have htl:=oU (bB aR b) 0
 rw[gG] at htl
 refine wq<|wg Z<|wn Z<|wq<|wm Z<|wa (aF bCv Z (Ct.fresh (fun w hw=>HZ ((h_x.c _) w hw) (by rw[hx];exact gB _ _) (by omega) hx4))) ?_
 rintro _ _ ⟨_,rfl,g_1,A_2,c_3,rfl,rfl⟩
 refine wm Z<|wX Z Z<|wX Z Z<|wg Z<|wn Z<|wq<|wm Z<|wa (aF aXs Z (Ct.fresh (fun w hw=>MX))) ?_
 rintro _ _ ⟨_,rfl,g_4,g_5,g_6,g_7,A_8,A_9,A_10,c_11,c_12,c_13,rfl,rfl⟩
 refine wn Z<|wq<|dH (R1:=[(ri 3 none 0 0 ([])),(rc 250 5 g_4 [.pointer (GG g_5), .pointer (GG g_6), .pointer (GG g_7),I 0,I o]),(rc 256 2 g_5 [.slice A_8 258 c_11,I 258]),(ri 3 A_8 258 c_11 wT),(rc 256 2 g_6 [.slice A_9 258 c_12,I 258]),(ri 3 A_9 258 c_12 wT),(rc 256 2 g_7 [.slice A_10 258 c_13,I 258]),(ri 3 A_10 258 c_13 wT),(rc 360 4 g_1 [.slice A_2 x.length c_3,I ((cd0.k+4:Nat):Int), .int .u64 (cuC x cd0), .int .u64 cd0.R]),(ru 5 A_2 x.length c_3 x)]) (Sub.refl _) (fun _ h=>h.nil 3 1)<|wn Z<|aG<|aI ?_
 refine nU (fun(i:Int) (A1:Option Addr) (n1:Nat) (c1:Nat) (acc:List Int) (Sx:PpS)=>[(2,I most),(8, .pointer (GG g_1)),(9, .bool true),(10, .pointer (GG g_4)),(11, .slice A1 n1 c1)]) (fun i A1 n1 c1 acc Sx=>[(ri 3 A1 n1 c1 acc),(rc 250 5 g_4 [.pointer (GG g_5), .pointer (GG g_6), .pointer (GG g_7),I Sx.cls,I o]),(rc 256 2 g_5 [.slice A_8 258 c_11,I (aU Sx.c0)]),(ri 3 A_8 258 c_11 Sx.c0),(rc 256 2 g_6 [.slice A_9 258 c_12,I (aU Sx.c1)]),(ri 3 A_9 258 c_12 Sx.c1),(rc 256 2 g_7 [.slice A_10 258 c_13,I (aU Sx.c2)]),(ri 3 A_10 258 c_13 Sx.c2),(rc 360 4 g_1 [.slice A_2 x.length c_3,I ((Sx.cd.k+4:Nat):Int), .int .u64 (cuC x Sx.cd), .int .u64 Sx.cd.R]),(ru 5 A_2 x.length c_3 x)]) (fun i A1 n1 c1 acc Sx=>(0≤i)∧(i<(bK b).length)∧((n1:Int)=i)∧(acc=(bK b).take i.toNat)∧(Sx=encP o ((bK b).take i.toNat))) (fun i A1 n1 c1 acc Sx=>((bK b).length-i).toNat) ?_ ?_
 ·exact⟨0,none,0,0,[],pp0,⟨by omega,by omega,(Z),(Z),(Z)⟩,(G5 Z Z Z Z Z),fun _ h=>h⟩
 intro i A1 n1 c1 acc Sx ⟨hi0,hi1,hn1,hacc,hS⟩
 have hin:=aEf hsy hS
 have hnx:=aUa bh_b hx hS hi0 hi1
 have hy:=hsy _ (bH (L:=bK b) (k:=i) hi0 (by omega))
 have hcd:=hin.1.2.2
 have hcd2:16777216≤Sx.cd.R∧Sx.cd.R<4294967296:=⟨hcd.1,hcd.2.1⟩
 have hea:=aSf bh_b hi0 hi1
 refine aG<|wq<|wm Z<|wm Z<|aC Z Z<|wm Z<|aC Z Z<|wy (aQ underlying52 Z)<|aC Z Z<|wm Z<|aC Z Z<|wy (Yl.t (vZ Z Z) (by omega))<|wy (bA Z Z)<|aA ?_
 refine bO Z<|aK<|aI<|wq ?_
 rcases WH hin.1 ho with hk|hk|hk
 ·refine wm Z<|wa (aF mH Z (Ct.at 1 Z (mW hk))) ?_
  rintro _ _ ⟨rfl,rfl⟩
  refine wa (aF IY Z (Ct.sub (R1:=[(rc 256 2 g_5 [.slice A_8 258 c_11,I (aU Sx.c0)]),(ri 3 A_8 258 c_11 Sx.c0),(ri 3 A1 n1 c1 acc),(rc 250 5 g_4 [.pointer (GG g_5), .pointer (GG g_6), .pointer (GG g_7),I Sx.cls,I o]),(rc 256 2 g_6 [.slice A_9 258 c_12,I (aU Sx.c1)]),(ri 3 A_9 258 c_12 Sx.c1),(rc 256 2 g_7 [.slice A_10 258 c_13,I (aU Sx.c2)]),(ri 3 A_10 258 c_13 Sx.c2),(rc 360 4 g_1 [.slice A_2 x.length c_3,I ((Sx.cd.k+4:Nat):Int), .int .u64 (cuC x Sx.cd), .int .u64 Sx.cd.R]),(ru 5 A_2 x.length c_3 x)]) (fun _ h=>h.sel [2,3,0,1,4,5,6,7,8,9] (by decide) Z) (iC))) ?_
  rintro _ _ ⟨rfl,rfl⟩
  refine wn Z<|wq<|wm Z<|wm Z<|wa (aF aPk Z (Ct.sub (R1:=[(rc 360 4 g_1 [.slice A_2 x.length c_3,I ((Sx.cd.k+4:Nat):Int), .int .u64 (cuC x Sx.cd), .int .u64 Sx.cd.R]),(ru 5 A_2 x.length c_3 x),(rc 256 2 g_5 [.slice A_8 258 c_11,I (aU Sx.c0)]),(ri 3 A_8 258 c_11 Sx.c0),(ri 3 A1 n1 c1 acc),(rc 250 5 g_4 [.pointer (GG g_5), .pointer (GG g_6), .pointer (GG g_7),I Sx.cls,I o]),(rc 256 2 g_6 [.slice A_9 258 c_12,I (aU Sx.c1)]),(ri 3 A_9 258 c_12 Sx.c1),(rc 256 2 g_7 [.slice A_10 258 c_13,I (aU Sx.c2)]),(ri 3 A_10 258 c_13 Sx.c2)]) (fun _ h=>h.sel [8,9,0,1,2,3,4,5,6,7] (by decide) Z) (BJ Z ((hnx.w0 hk).tot hin.1.1.1 hy.1 hy.2).2 hcd2 ⟨(hnx.w0 hk).c0,(hnx.w0 hk).c1⟩ ((hnx.w0 hk).tot hin.1.1.1 hy.1 hy.2).1))) ?_
  rintro _ _ ⟨rfl,rfl⟩
  refine wm Z<|wX Z Z<|wX Z Z<|wg Z<|wn Z<|wq<|wm Z<|wa (aF mH Z (Ct.at 5 Z (mW hk))) ?_
  rintro _ _ ⟨rfl,rfl⟩
  refine wm Z<|wa (aF aPj Z (Ct.sub (R1:=[(rc 256 2 g_5 [.slice A_8 258 c_11,I (aU Sx.c0)]),(ri 3 A_8 258 c_11 Sx.c0),(rc 360 4 g_1 [.slice A_2 x.length c_3,I ((Sx.cd.k+4:Nat):Int), .int .u64 (cuC x Sx.cd), .int .u64 Sx.cd.R]),(ru 5 A_2 x.length c_3 x),(ri 3 A1 n1 c1 acc),(rc 250 5 g_4 [.pointer (GG g_5), .pointer (GG g_6), .pointer (GG g_7),I Sx.cls,I o]),(rc 256 2 g_6 [.slice A_9 258 c_12,I (aU Sx.c1)]),(ri 3 A_9 258 c_12 Sx.c1),(rc 256 2 g_7 [.slice A_10 258 c_13,I (aU Sx.c2)]),(ri 3 A_10 258 c_13 Sx.c2)]) (fun _ h=>h.sel [2,3,0,1,4,5,6,7,8,9] (by decide) Z) (rZ (by rw[hin.1.1.1.1]) hin.1.1.1 hy ⟨(hnx.w0 hk).v0,(hnx.w0 hk).v1⟩))) ?_
  rintro _ _ ⟨rfl,rfl⟩
  refine wm Z<|wX Z Z<|wX Z Z<|wg Z<|wn Z<|wq<|wm Z<|wa (aF mH Z (Ct.at 5 Z (mW hk))) ?_
  rintro _ _ ⟨rfl,rfl⟩
  refine wm Z<|wa (aF NQ Z (Ct.sub (R1:=[(rc 256 2 g_5 [.slice A_8 258 c_11,I (aU Sx.c0)]),(ri 3 A_8 258 c_11 Sx.c0),(rc 360 4 g_1 [.slice A_2 x.length c_3,I ((Sx.cd.k+4:Nat):Int), .int .u64 (cuC x Sx.cd), .int .u64 Sx.cd.R]),(ru 5 A_2 x.length c_3 x),(ri 3 A1 n1 c1 acc),(rc 250 5 g_4 [.pointer (GG g_5), .pointer (GG g_6), .pointer (GG g_7),I Sx.cls,I o]),(rc 256 2 g_6 [.slice A_9 258 c_12,I (aU Sx.c1)]),(ri 3 A_9 258 c_12 Sx.c1),(rc 256 2 g_7 [.slice A_10 258 c_13,I (aU Sx.c2)]),(ri 3 A_10 258 c_13 Sx.c2)]) (fun _ h=>h) (jS (by rw[hin.1.1.1.1]) (by rw[hin.1.1.1.1];exact hy) hin.1.1.1))) ?_
  rintro _ _ ⟨rfl,rfl⟩
  refine wm Z<|wX Z Z<|wX Z Z<|wX Z Z<|wg Z<|wg Z<|wn Z<|wq<|wm Z<|wm Z<|aC Z Z<|wm Z<|wy (bA Z Z) ?_
  refine wm Z<|aC Z Z<|wm Z<|aC Z Z<|wm Z<|aC Z Z<|wm Z<|aC Z Z<|wm Z<|aC Z Z<|wa (aF aPi Z (Ct.sub (R1:=[(rc 360 4 g_1 [.slice A_2 x.length c_3,I ((Sx.cd.k+4:Nat):Int), .int .u64 (cuC x Sx.cd), .int .u64 Sx.cd.R]),(ru 5 A_2 x.length c_3 x),(rc 256 2 g_5 [.slice A_8 258 c_11,I (aU Sx.c0)]),(ri 3 A_8 258 c_11 Sx.c0),(ri 3 A1 n1 c1 acc),(rc 250 5 g_4 [.pointer (GG g_5), .pointer (GG g_6), .pointer (GG g_7),I Sx.cls,I o]),(rc 256 2 g_6 [.slice A_9 258 c_12,I (aU Sx.c1)]),(ri 3 A_9 258 c_12 Sx.c1),(rc 256 2 g_7 [.slice A_10 258 c_13,I (aU Sx.c2)]),(ri 3 A_10 258 c_13 Sx.c2)]) (fun _ h=>h.sel [2,3,0,1,4,5,6,7,8,9] (by decide) Z) (AC Z (by rw[hx];exact gB _ _) (by omega) hcd2 (lU hin.1.1.1 hy.1 hy.2) (hnx.w0 hk).lo (hnx.w0 hk).hi (hnx.w0 hk).len))) ?_
  rintro _ _ ⟨rfl,rfl⟩
  refine wy (bA Z Z)<|wn Z<|aG<|wq<|wm Z<|wm Z<|aC Z Z<|wm Z<|aC Z Z<|wy (bC Z Z)<|wy (bA Z Z)<|aA<|bM Z (fun hc1=> ?_) (fun hc1=> ?_)
  ·refine wq<|wm Z<|wg Z<|wn Z<|bR (R1:=[(ri 3 A1 n1 c1 acc)]) (fun _ h=>h.sel [4] (by decide) Z) ?_
   refine⟨_,_,Z,Z,?_⟩
   have hie:=hea.1 (by assumption)
   have ha2:acc=bD 0 (bB aR b):=by rw[hacc,show i.toNat=(bK b).length-1 by omega];exact AQ b
   have hn2:n1=(bD 0 (bB aR b)).length:=by omega
   rw[ha2,hn2]
   exact⟨_,_,Z,Z⟩
  ·refine aK<|wq<|wm Z<|wm Z<|wa (bS .i64 [rd (bK b) i] underlying52 zs3 Z Z Z) ?_
   rintro _ _ ⟨g_15,rfl,rfl⟩
   refine wa (bE 5 Z underlying52 zb3 Z Z Z (rdr 0 Z)) ?_
   rintro _ _ ⟨A_16,c_17,rfl,rfl⟩
   refine bN (v:= .slice A_16 (n1+1) c_17) Z<|wn Z<|aM<|wm Z<|wm Z<|wa (aF NP Z (Ct.sub (R1:=[(rc 250 5 g_4 [.pointer (GG g_5), .pointer (GG g_6), .pointer (GG g_7),I Sx.cls,I o]),(rc 256 2 g_5 [.slice A_8 258 c_11,I (aU Sx.c0)]),(ri 3 A_8 258 c_11 Sx.c0),(ri 3 (GG g_15) 1 1 ([rd (bK b) i])),(rc 360 4 g_1 [.slice A_2 x.length c_3,I (((gQ Sx.cd (aU (Sx.c0.take (rd (bK b) i).toNat)) (rd Sx.c0 (rd (bK b) i)) (aU Sx.c0)).k+4:Nat):Int), .int .u64 (cuC x (gQ Sx.cd (aU (Sx.c0.take (rd (bK b) i).toNat)) (rd Sx.c0 (rd (bK b) i)) (aU Sx.c0))), .int .u64 ((gQ Sx.cd (aU (Sx.c0.take (rd (bK b) i).toNat)) (rd Sx.c0 (rd (bK b) i)) (aU Sx.c0)).R)]),(ru 5 A_2 x.length c_3 x),(ri 3 A_16 (n1+1) c_17 (acc++([rd (bK b) i]))),(rc 256 2 g_6 [.slice A_9 258 c_12,I (aU Sx.c1)]),(ri 3 A_9 258 c_12 Sx.c1),(rc 256 2 g_7 [.slice A_10 258 c_13,I (aU Sx.c2)]),(ri 3 A_10 258 c_13 Sx.c2)]) (fun _ h=>h.sel [6,3,4,0,1,2,5,7,8,9,10] (by decide) Z) (FN hk (by rw[hin.1.1.1.1];exact hy) hin.1.1.1))) ?_
   rintro _ _ ⟨rfl,rfl⟩
   refine aA ?_
   exact⟨(i+1),A_16,n1+1,c_17,acc++([rd (bK b) i]),(⟨lK Sx.c0 (rd (bK b) i),Sx.c1,Sx.c2,lF (rd (bK b) i),sN Sx.cd Sx.c0 (rd (bK b) i)⟩:PpS),⟨by omega,by omega,by omega,(by rw[dD hi0 (by omega),←hacc]),(qR hS hi0 (by omega) (aCi hk))⟩,by omega,(G5 Z Z Z Z Z),fun _ h=>h.sel [6,0,1,2,7,8,9,10,4,5] (by decide) Z⟩
 ·refine wm Z<|wa (aF mH Z (Ct.at 1 Z (mV hk))) ?_
  rintro _ _ ⟨rfl,rfl⟩
  refine wa (aF IY Z (Ct.sub (R1:=[(rc 256 2 g_6 [.slice A_9 258 c_12,I (aU Sx.c1)]),(ri 3 A_9 258 c_12 Sx.c1),(ri 3 A1 n1 c1 acc),(rc 250 5 g_4 [.pointer (GG g_5), .pointer (GG g_6), .pointer (GG g_7),I Sx.cls,I o]),(rc 256 2 g_5 [.slice A_8 258 c_11,I (aU Sx.c0)]),(ri 3 A_8 258 c_11 Sx.c0),(rc 256 2 g_7 [.slice A_10 258 c_13,I (aU Sx.c2)]),(ri 3 A_10 258 c_13 Sx.c2),(rc 360 4 g_1 [.slice A_2 x.length c_3,I ((Sx.cd.k+4:Nat):Int), .int .u64 (cuC x Sx.cd), .int .u64 Sx.cd.R]),(ru 5 A_2 x.length c_3 x)]) (fun _ h=>h.sel [4,5,0,1,2,3,6,7,8,9] (by decide) Z) (iC))) ?_
  rintro _ _ ⟨rfl,rfl⟩
  refine wn Z<|wq<|wm Z<|wm Z<|wa (aF aPk Z (Ct.sub (R1:=[(rc 360 4 g_1 [.slice A_2 x.length c_3,I ((Sx.cd.k+4:Nat):Int), .int .u64 (cuC x Sx.cd), .int .u64 Sx.cd.R]),(ru 5 A_2 x.length c_3 x),(rc 256 2 g_6 [.slice A_9 258 c_12,I (aU Sx.c1)]),(ri 3 A_9 258 c_12 Sx.c1),(ri 3 A1 n1 c1 acc),(rc 250 5 g_4 [.pointer (GG g_5), .pointer (GG g_6), .pointer (GG g_7),I Sx.cls,I o]),(rc 256 2 g_5 [.slice A_8 258 c_11,I (aU Sx.c0)]),(ri 3 A_8 258 c_11 Sx.c0),(rc 256 2 g_7 [.slice A_10 258 c_13,I (aU Sx.c2)]),(ri 3 A_10 258 c_13 Sx.c2)]) (fun _ h=>h.sel [8,9,0,1,2,3,4,5,6,7] (by decide) Z) (BJ Z ((hnx.w1 hk).tot hin.1.1.2.1 hy.1 hy.2).2 hcd2 ⟨(hnx.w1 hk).c0,(hnx.w1 hk).c1⟩ ((hnx.w1 hk).tot hin.1.1.2.1 hy.1 hy.2).1))) ?_
  rintro _ _ ⟨rfl,rfl⟩
  refine wm Z<|wX Z Z<|wX Z Z<|wg Z<|wn Z<|wq<|wm Z<|wa (aF mH Z (Ct.at 5 Z (mV hk))) ?_
  rintro _ _ ⟨rfl,rfl⟩
  refine wm Z<|wa (aF aPj Z (Ct.sub (R1:=[(rc 256 2 g_6 [.slice A_9 258 c_12,I (aU Sx.c1)]),(ri 3 A_9 258 c_12 Sx.c1),(rc 360 4 g_1 [.slice A_2 x.length c_3,I ((Sx.cd.k+4:Nat):Int), .int .u64 (cuC x Sx.cd), .int .u64 Sx.cd.R]),(ru 5 A_2 x.length c_3 x),(ri 3 A1 n1 c1 acc),(rc 250 5 g_4 [.pointer (GG g_5), .pointer (GG g_6), .pointer (GG g_7),I Sx.cls,I o]),(rc 256 2 g_5 [.slice A_8 258 c_11,I (aU Sx.c0)]),(ri 3 A_8 258 c_11 Sx.c0),(rc 256 2 g_7 [.slice A_10 258 c_13,I (aU Sx.c2)]),(ri 3 A_10 258 c_13 Sx.c2)]) (fun _ h=>h.sel [2,3,0,1,4,5,6,7,8,9] (by decide) Z) (rZ (by rw[hin.1.1.2.1.1]) hin.1.1.2.1 hy ⟨(hnx.w1 hk).v0,(hnx.w1 hk).v1⟩))) ?_
  rintro _ _ ⟨rfl,rfl⟩
  refine wm Z<|wX Z Z<|wX Z Z<|wg Z<|wn Z<|wq<|wm Z<|wa (aF mH Z (Ct.at 5 Z (mV hk))) ?_
  rintro _ _ ⟨rfl,rfl⟩
  refine wm Z<|wa (aF NQ Z (Ct.sub (R1:=[(rc 256 2 g_6 [.slice A_9 258 c_12,I (aU Sx.c1)]),(ri 3 A_9 258 c_12 Sx.c1),(rc 360 4 g_1 [.slice A_2 x.length c_3,I ((Sx.cd.k+4:Nat):Int), .int .u64 (cuC x Sx.cd), .int .u64 Sx.cd.R]),(ru 5 A_2 x.length c_3 x),(ri 3 A1 n1 c1 acc),(rc 250 5 g_4 [.pointer (GG g_5), .pointer (GG g_6), .pointer (GG g_7),I Sx.cls,I o]),(rc 256 2 g_5 [.slice A_8 258 c_11,I (aU Sx.c0)]),(ri 3 A_8 258 c_11 Sx.c0),(rc 256 2 g_7 [.slice A_10 258 c_13,I (aU Sx.c2)]),(ri 3 A_10 258 c_13 Sx.c2)]) (fun _ h=>h) (jS (by rw[hin.1.1.2.1.1]) (by rw[hin.1.1.2.1.1];exact hy) hin.1.1.2.1))) ?_
  rintro _ _ ⟨rfl,rfl⟩
  refine wm Z<|wX Z Z<|wX Z Z<|wX Z Z<|wg Z<|wg Z<|wn Z<|wq<|wm Z<|wm Z<|aC Z Z<|wm Z<|wy (bA Z Z) ?_
  refine wm Z<|aC Z Z<|wm Z<|aC Z Z<|wm Z<|aC Z Z<|wm Z<|aC Z Z<|wm Z<|aC Z Z<|wa (aF aPi Z (Ct.sub (R1:=[(rc 360 4 g_1 [.slice A_2 x.length c_3,I ((Sx.cd.k+4:Nat):Int), .int .u64 (cuC x Sx.cd), .int .u64 Sx.cd.R]),(ru 5 A_2 x.length c_3 x),(rc 256 2 g_6 [.slice A_9 258 c_12,I (aU Sx.c1)]),(ri 3 A_9 258 c_12 Sx.c1),(ri 3 A1 n1 c1 acc),(rc 250 5 g_4 [.pointer (GG g_5), .pointer (GG g_6), .pointer (GG g_7),I Sx.cls,I o]),(rc 256 2 g_5 [.slice A_8 258 c_11,I (aU Sx.c0)]),(ri 3 A_8 258 c_11 Sx.c0),(rc 256 2 g_7 [.slice A_10 258 c_13,I (aU Sx.c2)]),(ri 3 A_10 258 c_13 Sx.c2)]) (fun _ h=>h.sel [2,3,0,1,4,5,6,7,8,9] (by decide) Z) (AC Z (by rw[hx];exact gB _ _) (by omega) hcd2 (lU hin.1.1.2.1 hy.1 hy.2) (hnx.w1 hk).lo (hnx.w1 hk).hi (hnx.w1 hk).len))) ?_
  rintro _ _ ⟨rfl,rfl⟩
  refine wy (bA Z Z)<|wn Z<|aG<|wq<|wm Z<|wm Z<|aC Z Z<|wm Z<|aC Z Z<|wy (bC Z Z)<|wy (bA Z Z)<|aA<|bM Z (fun hc2=> ?_) (fun hc2=> ?_)
  ·refine wq<|wm Z<|wg Z<|wn Z<|bR (R1:=[(ri 3 A1 n1 c1 acc)]) (fun _ h=>h.sel [4] (by decide) Z) ?_
   refine⟨_,_,Z,Z,?_⟩
   have hie:=hea.1 (by assumption)
   have ha2:acc=bD 0 (bB aR b):=by rw[hacc,show i.toNat=(bK b).length-1 by omega];exact AQ b
   have hn2:n1=(bD 0 (bB aR b)).length:=by omega
   rw[ha2,hn2]
   exact⟨_,_,Z,Z⟩
  ·refine aK<|wq<|wm Z<|wm Z<|wa (bS .i64 [rd (bK b) i] underlying52 zs3 Z Z Z) ?_
   rintro _ _ ⟨g_19,rfl,rfl⟩
   refine wa (bE 5 Z underlying52 zb3 Z Z Z (rdr 0 Z)) ?_
   rintro _ _ ⟨A_20,c_21,rfl,rfl⟩
   refine bN (v:= .slice A_20 (n1+1) c_21) Z<|wn Z<|aM<|wm Z<|wm Z<|wa (aF NP Z (Ct.sub (R1:=[(rc 250 5 g_4 [.pointer (GG g_5), .pointer (GG g_6), .pointer (GG g_7),I Sx.cls,I o]),(rc 256 2 g_6 [.slice A_9 258 c_12,I (aU Sx.c1)]),(ri 3 A_9 258 c_12 Sx.c1),(ri 3 (GG g_19) 1 1 ([rd (bK b) i])),(rc 360 4 g_1 [.slice A_2 x.length c_3,I (((gQ Sx.cd (aU (Sx.c1.take (rd (bK b) i).toNat)) (rd Sx.c1 (rd (bK b) i)) (aU Sx.c1)).k+4:Nat):Int), .int .u64 (cuC x (gQ Sx.cd (aU (Sx.c1.take (rd (bK b) i).toNat)) (rd Sx.c1 (rd (bK b) i)) (aU Sx.c1))), .int .u64 ((gQ Sx.cd (aU (Sx.c1.take (rd (bK b) i).toNat)) (rd Sx.c1 (rd (bK b) i)) (aU Sx.c1)).R)]),(ru 5 A_2 x.length c_3 x),(ri 3 A_20 (n1+1) c_21 (acc++([rd (bK b) i]))),(rc 256 2 g_5 [.slice A_8 258 c_11,I (aU Sx.c0)]),(ri 3 A_8 258 c_11 Sx.c0),(rc 256 2 g_7 [.slice A_10 258 c_13,I (aU Sx.c2)]),(ri 3 A_10 258 c_13 Sx.c2)]) (fun _ h=>h.sel [6,3,4,0,1,2,5,7,8,9,10] (by decide) Z) (FM hk (by rw[hin.1.1.2.1.1];exact hy) hin.1.1.2.1))) ?_
   rintro _ _ ⟨rfl,rfl⟩
   refine aA ?_
   exact⟨(i+1),A_20,n1+1,c_21,acc++([rd (bK b) i]),(⟨Sx.c0,lK Sx.c1 (rd (bK b) i),Sx.c2,lF (rd (bK b) i),sN Sx.cd Sx.c1 (rd (bK b) i)⟩:PpS),⟨by omega,by omega,by omega,(by rw[dD hi0 (by omega),←hacc]),(qR hS hi0 (by omega) (aCh hk))⟩,by omega,(G5 Z Z Z Z Z),fun _ h=>h.sel [6,0,7,8,1,2,9,10,4,5] (by decide) Z⟩
 ·refine wm Z<|wa (aF mH Z (Ct.at 1 Z (mU hk))) ?_
  rintro _ _ ⟨rfl,rfl⟩
  refine wa (aF IY Z (Ct.sub (R1:=[(rc 256 2 g_7 [.slice A_10 258 c_13,I (aU Sx.c2)]),(ri 3 A_10 258 c_13 Sx.c2),(ri 3 A1 n1 c1 acc),(rc 250 5 g_4 [.pointer (GG g_5), .pointer (GG g_6), .pointer (GG g_7),I Sx.cls,I o]),(rc 256 2 g_5 [.slice A_8 258 c_11,I (aU Sx.c0)]),(ri 3 A_8 258 c_11 Sx.c0),(rc 256 2 g_6 [.slice A_9 258 c_12,I (aU Sx.c1)]),(ri 3 A_9 258 c_12 Sx.c1),(rc 360 4 g_1 [.slice A_2 x.length c_3,I ((Sx.cd.k+4:Nat):Int), .int .u64 (cuC x Sx.cd), .int .u64 Sx.cd.R]),(ru 5 A_2 x.length c_3 x)]) (fun _ h=>h.sel [6,7,0,1,2,3,4,5,8,9] (by decide) Z) (iC))) ?_
  rintro _ _ ⟨rfl,rfl⟩
  refine wn Z<|wq<|wm Z<|wm Z<|wa (aF aPk Z (Ct.sub (R1:=[(rc 360 4 g_1 [.slice A_2 x.length c_3,I ((Sx.cd.k+4:Nat):Int), .int .u64 (cuC x Sx.cd), .int .u64 Sx.cd.R]),(ru 5 A_2 x.length c_3 x),(rc 256 2 g_7 [.slice A_10 258 c_13,I (aU Sx.c2)]),(ri 3 A_10 258 c_13 Sx.c2),(ri 3 A1 n1 c1 acc),(rc 250 5 g_4 [.pointer (GG g_5), .pointer (GG g_6), .pointer (GG g_7),I Sx.cls,I o]),(rc 256 2 g_5 [.slice A_8 258 c_11,I (aU Sx.c0)]),(ri 3 A_8 258 c_11 Sx.c0),(rc 256 2 g_6 [.slice A_9 258 c_12,I (aU Sx.c1)]),(ri 3 A_9 258 c_12 Sx.c1)]) (fun _ h=>h.sel [8,9,0,1,2,3,4,5,6,7] (by decide) Z) (BJ Z ((hnx.w2 hk).tot hin.1.1.2.2 hy.1 hy.2).2 hcd2 ⟨(hnx.w2 hk).c0,(hnx.w2 hk).c1⟩ ((hnx.w2 hk).tot hin.1.1.2.2 hy.1 hy.2).1))) ?_
  rintro _ _ ⟨rfl,rfl⟩
  refine wm Z<|wX Z Z<|wX Z Z<|wg Z<|wn Z<|wq<|wm Z<|wa (aF mH Z (Ct.at 5 Z (mU hk))) ?_
  rintro _ _ ⟨rfl,rfl⟩
  refine wm Z<|wa (aF aPj Z (Ct.sub (R1:=[(rc 256 2 g_7 [.slice A_10 258 c_13,I (aU Sx.c2)]),(ri 3 A_10 258 c_13 Sx.c2),(rc 360 4 g_1 [.slice A_2 x.length c_3,I ((Sx.cd.k+4:Nat):Int), .int .u64 (cuC x Sx.cd), .int .u64 Sx.cd.R]),(ru 5 A_2 x.length c_3 x),(ri 3 A1 n1 c1 acc),(rc 250 5 g_4 [.pointer (GG g_5), .pointer (GG g_6), .pointer (GG g_7),I Sx.cls,I o]),(rc 256 2 g_5 [.slice A_8 258 c_11,I (aU Sx.c0)]),(ri 3 A_8 258 c_11 Sx.c0),(rc 256 2 g_6 [.slice A_9 258 c_12,I (aU Sx.c1)]),(ri 3 A_9 258 c_12 Sx.c1)]) (fun _ h=>h.sel [2,3,0,1,4,5,6,7,8,9] (by decide) Z) (rZ (by rw[hin.1.1.2.2.1]) hin.1.1.2.2 hy ⟨(hnx.w2 hk).v0,(hnx.w2 hk).v1⟩))) ?_
  rintro _ _ ⟨rfl,rfl⟩
  refine wm Z<|wX Z Z<|wX Z Z<|wg Z<|wn Z<|wq<|wm Z<|wa (aF mH Z (Ct.at 5 Z (mU hk))) ?_
  rintro _ _ ⟨rfl,rfl⟩
  refine wm Z<|wa (aF NQ Z (Ct.sub (R1:=[(rc 256 2 g_7 [.slice A_10 258 c_13,I (aU Sx.c2)]),(ri 3 A_10 258 c_13 Sx.c2),(rc 360 4 g_1 [.slice A_2 x.length c_3,I ((Sx.cd.k+4:Nat):Int), .int .u64 (cuC x Sx.cd), .int .u64 Sx.cd.R]),(ru 5 A_2 x.length c_3 x),(ri 3 A1 n1 c1 acc),(rc 250 5 g_4 [.pointer (GG g_5), .pointer (GG g_6), .pointer (GG g_7),I Sx.cls,I o]),(rc 256 2 g_5 [.slice A_8 258 c_11,I (aU Sx.c0)]),(ri 3 A_8 258 c_11 Sx.c0),(rc 256 2 g_6 [.slice A_9 258 c_12,I (aU Sx.c1)]),(ri 3 A_9 258 c_12 Sx.c1)]) (fun _ h=>h) (jS (by rw[hin.1.1.2.2.1]) (by rw[hin.1.1.2.2.1];exact hy) hin.1.1.2.2))) ?_
  rintro _ _ ⟨rfl,rfl⟩
  refine wm Z<|wX Z Z<|wX Z Z<|wX Z Z<|wg Z<|wg Z<|wn Z<|wq<|wm Z<|wm Z<|aC Z Z<|wm Z<|wy (bA Z Z) ?_
  refine wm Z<|aC Z Z<|wm Z<|aC Z Z<|wm Z<|aC Z Z<|wm Z<|aC Z Z<|wm Z<|aC Z Z<|wa (aF aPi Z (Ct.sub (R1:=[(rc 360 4 g_1 [.slice A_2 x.length c_3,I ((Sx.cd.k+4:Nat):Int), .int .u64 (cuC x Sx.cd), .int .u64 Sx.cd.R]),(ru 5 A_2 x.length c_3 x),(rc 256 2 g_7 [.slice A_10 258 c_13,I (aU Sx.c2)]),(ri 3 A_10 258 c_13 Sx.c2),(ri 3 A1 n1 c1 acc),(rc 250 5 g_4 [.pointer (GG g_5), .pointer (GG g_6), .pointer (GG g_7),I Sx.cls,I o]),(rc 256 2 g_5 [.slice A_8 258 c_11,I (aU Sx.c0)]),(ri 3 A_8 258 c_11 Sx.c0),(rc 256 2 g_6 [.slice A_9 258 c_12,I (aU Sx.c1)]),(ri 3 A_9 258 c_12 Sx.c1)]) (fun _ h=>h.sel [2,3,0,1,4,5,6,7,8,9] (by decide) Z) (AC Z (by rw[hx];exact gB _ _) (by omega) hcd2 (lU hin.1.1.2.2 hy.1 hy.2) (hnx.w2 hk).lo (hnx.w2 hk).hi (hnx.w2 hk).len))) ?_
  rintro _ _ ⟨rfl,rfl⟩
  refine wy (bA Z Z)<|wn Z<|aG<|wq<|wm Z<|wm Z<|aC Z Z<|wm Z<|aC Z Z<|wy (bC Z Z)<|wy (bA Z Z)<|aA<|bM Z (fun hc3=> ?_) (fun hc3=> ?_)
  ·refine wq<|wm Z<|wg Z<|wn Z<|bR (R1:=[(ri 3 A1 n1 c1 acc)]) (fun _ h=>h.sel [4] (by decide) Z) ?_
   refine⟨_,_,Z,Z,?_⟩
   have hie:=hea.1 (by assumption)
   have ha2:acc=bD 0 (bB aR b):=by rw[hacc,show i.toNat=(bK b).length-1 by omega];exact AQ b
   have hn2:n1=(bD 0 (bB aR b)).length:=by omega
   rw[ha2,hn2]
   exact⟨_,_,Z,Z⟩
  ·refine aK<|wq<|wm Z<|wm Z<|wa (bS .i64 [rd (bK b) i] underlying52 zs3 Z Z Z) ?_
   rintro _ _ ⟨g_23,rfl,rfl⟩
   refine wa (bE 5 Z underlying52 zb3 Z Z Z (rdr 0 Z)) ?_
   rintro _ _ ⟨A_24,c_25,rfl,rfl⟩
   refine bN (v:= .slice A_24 (n1+1) c_25) Z<|wn Z<|aM<|wm Z<|wm Z<|wa (aF NP Z (Ct.sub (R1:=[(rc 250 5 g_4 [.pointer (GG g_5), .pointer (GG g_6), .pointer (GG g_7),I Sx.cls,I o]),(rc 256 2 g_7 [.slice A_10 258 c_13,I (aU Sx.c2)]),(ri 3 A_10 258 c_13 Sx.c2),(ri 3 (GG g_23) 1 1 ([rd (bK b) i])),(rc 360 4 g_1 [.slice A_2 x.length c_3,I (((gQ Sx.cd (aU (Sx.c2.take (rd (bK b) i).toNat)) (rd Sx.c2 (rd (bK b) i)) (aU Sx.c2)).k+4:Nat):Int), .int .u64 (cuC x (gQ Sx.cd (aU (Sx.c2.take (rd (bK b) i).toNat)) (rd Sx.c2 (rd (bK b) i)) (aU Sx.c2))), .int .u64 ((gQ Sx.cd (aU (Sx.c2.take (rd (bK b) i).toNat)) (rd Sx.c2 (rd (bK b) i)) (aU Sx.c2)).R)]),(ru 5 A_2 x.length c_3 x),(ri 3 A_24 (n1+1) c_25 (acc++([rd (bK b) i]))),(rc 256 2 g_5 [.slice A_8 258 c_11,I (aU Sx.c0)]),(ri 3 A_8 258 c_11 Sx.c0),(rc 256 2 g_6 [.slice A_9 258 c_12,I (aU Sx.c1)]),(ri 3 A_9 258 c_12 Sx.c1)]) (fun _ h=>h.sel [6,3,4,0,1,2,5,7,8,9,10] (by decide) Z) (FK hk (by rw[hin.1.1.2.2.1];exact hy) hin.1.1.2.2))) ?_
   rintro _ _ ⟨rfl,rfl⟩
   refine aA ?_
   exact⟨(i+1),A_24,n1+1,c_25,acc++([rd (bK b) i]),(⟨Sx.c0,Sx.c1,lK Sx.c2 (rd (bK b) i),lF (rd (bK b) i),sN Sx.cd Sx.c2 (rd (bK b) i)⟩:PpS),⟨by omega,by omega,by omega,(by rw[dD hi0 (by omega),←hacc]),(qR hS hi0 (by omega) (aCg hk))⟩,by omega,(G5 Z Z Z Z Z),fun _ h=>h.sel [6,0,7,8,9,10,1,2,4,5] (by decide) Z⟩
theorem KM {A_l:Option Addr} {n_l c_l:Nat} {l:List Int} {q:List Int} (h_l:Rd w A_l n_l c_l 1 (ints .i64 l)) (hb:bkL most l [] 1=some q) (hm:0≤most∧most≤100000) (hN:l.length≤1000000):
  Ct Tryz.prog 273 #[.slice A_l n_l c_l,I most] w.heap.size w [] (fun v R'=> ∃A c,v= .tuple #[.slice A q.length c, .bool true]∧R'=[(ru 5 A q.length c q)]):=by
 obtain rfl:=h_l.lenI
 refine fn2 Tryz.func273 Z Z Z ?_
 have m_l:=h_l.max
 refine wq<|wg Z<|wn Z<|aG<|wq<|wm Z<|wy (Yl.f (eP Z Z))<|aA<|aL Z<|aK<|wq ?_
 refine wa (bS .u8 [] underlying22 zs5 Z Z Z) ?_
 rintro _ _ ⟨g_2,rfl,rfl⟩
 refine wn Z<|wq<|wn Z<|aG<|wq<|wm Z<|wy (aQ underlying52 Z)<|wm Z<|aA<|aI ?_
 refine nU (fun(i:Int) (A1:Option Addr) (n1:Nat) (c1:Nat) (acc:List Int) (p:Int)=>[(1,I most),(6, .slice A1 n1 c1),(7,I p),(14, .slice A_l l.length c_l),(15,I ((l.length:Nat):Int)),(16,I i)]) (fun i A1 n1 c1 acc p=>[(ru 5 A1 n1 c1 acc)]) (fun i A1 n1 c1 acc p=>(0≤i)∧(i≤l.length)∧(n1=acc.length)∧(1≤p∧p≤200000)∧((acc.length:Int)≤most)∧(bkL most (l.drop i.toNat) acc p=some q)) (fun i A1 n1 c1 acc p=>(l.length-i).toNat) ?_ ?_
 ·exact⟨0,GG g_2,0,0,[],1,⟨by omega,by omega,(Z),by omega,(by show(0:Int)≤most;omega),(hb)⟩,(G6 Z Z Z Z Z Z),fun _ h=>h⟩
 intro i A1 n1 c1 acc p ⟨hi0,hi1,hn1,hp,hal,hbk⟩
 refine wq<|wL Z Z<|aA<|aG<|bM Z (fun hc1=> ?_) (fun hc1=> ?_)
 ·have hbi:=bAs hbk hi0 (by omega)
  refine aK<|aG<|aI<|wq<|wy (aH underlying52 sz3 Z Z (h_l.c _))<|wy (aX underlying3 Z Z (h_l.c _))<|wn Z<|aG<|aI<|wq<|wm Z<|wy (Yl.f (eP Z Z)) ?_
  refine wm Z<|aC Z Z<|wm Z<|aC Z Z<|wy (Yl.f (jG Z Z))<|wy (aS Z Z)<|wn Z<|aL Z<|wq<|wm Z<|wy (jG Z Z)<|wn Z ?_
  refine bM Z (fun hc2=> ?_) (fun hc2=> ?_)
  ·obtain ⟨_,h3,h4⟩:=hbi.2.resolve_right (fun h=>by omega)
   refine wq<|wm Z<|wm Z<|wS Z Z<|wy (iG underlying3 underlying5 Z)<|wa (bS .u8 [((rd l i)-1)%256] underlying22 zs5 Z Z Z) ?_
   rintro _ _ ⟨g_5,rfl,rfl⟩
   refine wa (bE 1 Z underlying22 zb5 Z Z Z (rdr 0 Z)) ?_
   rintro _ _ ⟨A_6,c_7,rfl,rfl⟩
   refine bN (v:= .slice A_6 (n1+1) c_7) Z<|wn Z<|aM<|wn Z<|wq<|wm Z<|wy (aQ underlying22 Z)<|wm Z<|wy (Yl.f (dV Z Z))<|aA<|aL Z<|aK ?_
   refine aM<|wA Z Z<|wm Z<|aA ?_
   exact⟨i+1,A_6,n1+1,c_7,acc++([((rd l i)-1)%256]),1,⟨by omega,by omega,(by rw[List.length_append,hn1];simp),by omega,(by rw[List.length_append,List.length_singleton];omega),(by rw[Int.emod_eq_of_lt (by omega) (by omega)];exact h4)⟩,by omega,(G6 Z Z Z Z Z Z),fun _ h=>h.sel [1] (by decide) Z⟩
  ·obtain ⟨_,h3,hz,h5⟩:=hbi.2.resolve_left (fun h=>by omega)
   have hxp:(rd l i+1)*p=p∨(rd l i+1)*p=2*p:=by
    rcases(by omega:rd l i=0∨rd l i=1) with e|e<;>rw[e]<;>omega
   obtain⟨zn,hzn⟩: ∃zn:Nat,(rd l i+1)*p=(zn:Int):=⟨((rd l i+1)*p).toNat,by omega⟩
   refine wq<|wm Z<|wA Z Z<|wm Z<|wy (Yl.is (iA Z Z) (by rw[hzn])) ?_
   refine wn Z<|aG<|wq<|wm Z<|wm Z<|wy (Yl.f (dV Z Z))<|wm Z<|aC Z Z<|wm Z<|aC Z Z<|wm Z<|aC Z Z<|wm Z ?_
   refine aC Z Z<|wy (aQ underlying22 Z)<|aC Z Z<|wS Z Z<|aC Z Z<|wy (Yl.f (dV Z Z))<|wy (aS Z Z)<|aA<|aL Z<|aK<|wq<|wm Z<|wm Z<|wa (aRp (m:=zn) 0 Z underlying22 underlying3 zb5 Z Z (by omega) (by omega) (by omega)) ?_
   rintro _ _ ⟨A_8,c_9,rfl,rfl⟩
   refine wn Z<|aM<|wm Z<|wy (iA Z Z)<|wn Z<|wq<|wm Z<|wy (aQ underlying22 Z)<|wm Z<|wy (Yl.f (dV Z Z))<|aA<|aL Z ?_
   refine aK<|aM<|wA Z Z<|wm Z<|aA ?_
   exact⟨i+1,A_8,n1+zn,c_9,acc++List.replicate zn 0,p*2,⟨by omega,by omega,(by rw[List.length_append,hn1];simp),by omega,(by rw[List.length_append,List.length_replicate];omega),(by rw[show zn=((rd l i+1)*p).toNat by omega];exact h5)⟩,by omega,(G6 Z Z Z Z Z Z),fun _ h=>h⟩
 ·refine aZ<|wq<|wm Z<|wg Z<|wn Z<|aT [0] 99 (by decide) Z ?_
  refine⟨_,_,Z,Z,?_⟩
  have hdr:l.drop i.toNat=[]:=List.drop_eq_nil_of_le (by omega)
  rw[hdr] at hbk
  have hq:acc=q:=Option.some.inj hbk
  subst hq
  subst hn1
  exact⟨_,_,Z,Z⟩
set_option maxHeartbeats 1000000 in
theorem RB (h_x:Rd w A_x n_x c_x 1 (ints .u8 x)) (hx:x=dK b o) (bh_b:aO b) (ho:o=0∨o=1) (hN:b.length≤100000) (hm:(b.length:Int)≤most):
  Ct Tryz.prog 229 #[.slice A_x n_x c_x,I o,I most] w.heap.size w [] (fun v R'=> ∃A c,v= .tuple #[.slice A b.length c, .bool true]∧R'=[(ru 5 A b.length c b)]):=by
 obtain rfl:=h_x.lenI
 refine fn2 Tryz.func229 Z Z Z ?_
 have m_x:=h_x.max
 have hsy:=qN bh_b
 have hxl:x.length≤2*b.length+6:=by rw[hx];exact oF bh_b
 have hx4:4≤x.length:=by rw[hx];unfold dK;rw[kP];omega
 have hs1:(bK b).length=(bD 0 (bB aR b)).length+1:=by unfold bK;rw[List.length_append];rfl
 have htl:=oU (bB aR b) 0
 rw[gG] at htl
 have hmv:=gG b aR
 refine wq<|wg Z<|wn Z<|aG<|wq<|wm Z<|wa (aF aXt Z (Ct.quiet (fun w hw=>yY ho))) ?_
 rintro _ _ ⟨rfl,rfl⟩
 refine wy (dI Z)<|wm Z<|aC Z Z<|wm Z<|aC Z Z<|wy (Yl.f (eP Z Z))<|wy (aS Z Z)<|aA<|aL Z<|aK<|wq<|wm Z<|wy (vQ Z Z)<|wg Z ?_
 refine aA<|wq<|wm Z<|wm Z<|wm Z<|wa (aF bDg Z (Ct.fresh (fun w hw=>OU ((h_x.c _) w hw) hx bh_b ho hN (by omega)))) ?_
 rintro _ _ ⟨_,rfl,A_1,c_2,rfl,rfl⟩
 refine wm Z<|wX Z Z<|wX Z Z<|wg Z<|wn Z<|aG<|wq<|wm Z<|wy (dI Z)<|aA<|aL Z<|aK<|aG ?_
 refine aM<|wm Z<|wm Z<|wa (aF bDf Z (Ct.fresh (fun w hw=>KM ((rdr 0 Z) w hw) (bAr (jK bh_b) (by omega)) (by omega) (by omega)))) ?_
 rintro _ _ ⟨_,rfl,A_4,c_5,rfl,rfl⟩
 refine wm Z<|wX Z Z<|wX Z Z<|wg Z<|wn Z<|aG<|wq<|wm Z<|wy (dI Z)<|aA<|aL Z<|aK<|aG ?_
 refine aM<|wm Z<|wa (aF aXx Z (Ct.fresh (fun w hw=>OA ((rdr 0 Z) w hw) (jK bh_b) (by omega)))) ?_
 rintro _ _ ⟨_,rfl,A_7,c_8,rfl,rfl⟩
 refine wn Z<|aG<|wq<|wm Z<|wm Z<|wa (aF aVf Z (Ct.fresh (fun w hw=>vI ((rdr 0 Z) w hw) (by rw[mJ bh_b];exact bh_b) ho (by rw[mJ bh_b];exact hN)))) ?_
 rintro _ _ ⟨_,rfl,A_10,c_11,rfl,rfl⟩
 refine wm Z<|wX Z Z<|wX Z Z<|wg Z<|wn Z<|wq<|wm Z<|wm Z<|wa (aF bDe Z (Ct.quiet (fun w hw=>aIb ((rdr 0 Z) w hw) ((h_x.c _) w hw) (gB _ _) (by rw[hx];exact gB _ _)))) ?_
 rintro _ _ ⟨rfl,rfl⟩
 refine kK 50 Z (by rw[mJ bh_b,hx]) ?_
 refine wy (dI Z)<|aA<|aL Z<|aK<|wq<|wm Z<|wg Z<|wn Z<|bR (R1:=[(ru 5 A_7 (((bB aR b)).length) c_8 (jW aR (bB aR b)))]) (fun _ h=>h.sel [1] (by decide) Z) ?_
 refine⟨_,_,Z,Z,?_⟩
 rw[hmv,mJ bh_b]
 exact⟨_,_,Z,Z⟩
variable {B g gc n_u c_u nt ct:Nat} {w0:World} {X R0 R:List Row} {A_u At:Option Addr} {u t:List Int} {p0 p1 p2 p3 ms tt ls x n:Int}
theorem yO (V:Int) (t:List Int) (h_u:RdC B w0 R0 A_u n_u c_u 1 (ints .u8 u)) (hn_u:n_u=u.length) (hN:u.length≤1000000) (bh_u:aO u) (hV:0≤V∧V≤9223372036854775807) (hu:u=bP V++t):
  Ct Tryz.prog 90 #[.pointer (GG g)] B w0 ((rc 87 10 g [.pointer (GG gc),I p0,I p1,I p2,I p3,I ms,I tt,I ls, .slice At nt ct, .slice none 0 0])::(rc 146 1 gc [.slice A_u n_u c_u])::(X++R0)) (fun v R'=> ∃(A9:Option Addr) (c9:Nat),RdC B w0 R0 A9 (t).length c9 1 (ints .u8 (t))∧v= .tuple #[I V, .bool true]∧R'=(rc 87 10 g [.pointer (GG gc),I p0,I p1,I p2,I p3,I ms,I tt,I ls, .slice At nt ct, .slice none 0 0])::(rc 146 1 gc [.slice A9 ((t).length) c9])::(X++R0)):=
 (yN (R:=X++R0) (m:=(bP V).length) (RdC.right h_u X) hn_u hN bh_u (by rw[hu];exact sQ.of ⟨hV.1,by omega⟩ t) hV.2).mono fun v R' hv=>by
  obtain⟨rfl,rfl⟩:=hv
  have e:=RdC.fromI (l:=(bP V).length) h_u (by rw[hn_u,hu,List.length_append];omega)
  have hl:n_u-(bP V).length=t.length:=by rw[hn_u,hu,List.length_append];omega
  have hd:u.drop (bP V).length=t:=by rw[hu];exact List.drop_left
  rw[hl,hd] at e
  rw[hl]
  exact⟨_,_,e,Z,Z⟩
theorem aCf {k:Int} (a t:List Int) (h_u:RdC B w0 R0 A_u n_u c_u 1 (ints .u8 u)) (hn_u:n_u=u.length) (hN:u.length≤1000000) (hk:k=(a.length:Int)) (hu:u=a++t):
  Ct Tryz.prog 156 #[.pointer (GG gc),I k] B w0 ((rc 146 1 gc [.slice A_u n_u c_u])::(X++R0)) (fun v R'=> ∃(A1:Option Addr) (c1:Nat),∃(A9:Option Addr) (c9:Nat),RdC B w0 R0 A9 (t).length c9 1 (ints .u8 (t))∧v= .tuple #[.slice A1 a.length c1, .bool true]∧R'=(ru 5 A1 a.length c1 a)::(rc 146 1 gc [.slice A9 ((t).length) c9])::(X++R0)):=
 (wH (R:=X++R0) (k:=k) (RdC.right h_u X) hn_u hN (by rw[hu,List.length_append];omega)).mono fun v R' hv=>by
  obtain⟨A1,c1,rfl,rfl⟩:=hv
  have hkn:k.toNat=a.length:=by omega
  have e:=RdC.fromI (l:=a.length) h_u (by rw[hn_u,hu,List.length_append];omega)
  have hl:n_u-a.length=t.length:=by rw[hn_u,hu,List.length_append];omega
  have hd:u.drop a.length=t:=by rw[hu];exact List.drop_left
  have ht:u.take a.length=a:=by rw[hu];exact List.take_left
  rw[hl,hd] at e
  rw[hkn,hl,ht]
  exact⟨_,_,_,_,e,Z,Z⟩
theorem aOw (h_u:RdC B w0 R0 A_u n_u c_u 1 (ints .u8 u)) (hn_u:n_u=u.length) (hN:u.length≤1000000) (hx:0≤x∧x<4294967296) (hu:u=iF x++t):
  Ct Tryz.prog 228 #[.pointer (GG gc)] B w0 ((rc 146 1 gc [.slice A_u n_u c_u])::(X++R0)) (fun v R'=> ∃(A9:Option Addr) (c9:Nat),RdC B w0 R0 A9 (t).length c9 1 (ints .u8 (t))∧v= .tuple #[.int .u32 x, .bool true]∧R'=(rc 146 1 gc [.slice A9 ((t).length) c9])::(X++R0)):=by
 subst hn_u
 have hb0:=(iR x).rd 0
 have hb1:=(iR x).rd 1
 have hb2:=(iR x).rd 2
 have hb3:=(iR x).rd 3
 refine fn2 Tryz.func228 Z Z Z ?_
 refine wq<|wg Z<|wn Z<|wq<|wm Z<|wa (aF aEi Z ((aCf (X:=([]++X)) (R0:=R0) (iF x) (t) h_u Z hN Z hu))) ?_
 rintro _ _ ⟨A_4,c_5,A_1,c_2,hr_3,rfl,rfl⟩
 refine iW (R1:=((ru 5 A_4 4 c_5 (iF x))::(rc 146 1 gc [.slice A_1 ((t).length) c_2])::(X++R0))) Z<|bN (v:= .tuple #[.slice A_4 4 c_5, .bool true]) Z<|wm Z<|wX Z Z<|wX Z Z<|wg Z<|wn Z<|aG<|wq<|wm Z<|wy (dI Z)<|aA<|aL Z ?_
 refine aK<|wq<|wn Z<|aG<|wq<|wm Z<|wy (aQ underlying22 Z)<|wm Z<|aA<|aI<|qM 5<|dZ ?_
 refine wq<|wy (Yl.t (eP Z Z) (by decide))<|aA<|aG<|bO Z<|aK<|aG<|aI<|wq<|wm Z<|wy (aH underlying22 sz5 Z Z (rdr 0 Z))<|wy (aX underlying5 Z Z (rdr 0 Z))<|wg Z ?_
 refine wn Z<|aM<|wm Z<|wm Z<|wy (xI underlying5 underlying123 Z (by omega))<|wm Z<|wy (Yl.is (iA Z Z) (Z:_=Value.int .i64 0))<|wy (DU (k:=0) (m:=1) Z Z Z (by omega) Z)<|wy (OL (p:=(rd (iF x) 0)) (m:=1) 0 Z Z Z (by omega) (by omega))<|wn Z<|aM<|wy (Yl.is (dF Z Z) (Z:_=Value.int .i64 1))<|wm Z ?_
 refine aA<|dZ<|wq<|wy (Yl.t (eP Z Z) (by decide))<|aA<|aG<|bO Z<|aK<|aG<|aI<|wq<|wm Z<|wy (aH underlying22 sz5 Z Z (rdr 0 Z)) ?_
 refine wy (aX underlying5 Z Z (rdr 0 Z))<|wg Z<|wn Z<|aM<|wm Z<|wm Z<|wy (xI underlying5 underlying123 Z (by omega))<|wm Z<|wy (Yl.is (iA Z Z) (Z:_=Value.int .i64 8))<|wy (DU (k:=8) (m:=256) Z Z Z (by omega) Z)<|wy (OL (p:=(rd (iF x) 1)) (m:=256) 8 Z Z Z (by omega) (by omega))<|wn Z<|aM ?_
 refine wy (Yl.is (dF Z Z) (Z:_=Value.int .i64 2))<|wm Z<|aA<|dZ<|wq<|wy (Yl.t (eP Z Z) (by decide))<|aA<|aG<|bO Z<|aK<|aG<|aI<|wq ?_
 refine wm Z<|wy (aH underlying22 sz5 Z Z (rdr 0 Z))<|wy (aX underlying5 Z Z (rdr 0 Z))<|wg Z<|wn Z<|aM<|wm Z<|wm Z<|wy (xI underlying5 underlying123 Z (by omega))<|wm Z<|wy (Yl.is (iA Z Z) (Z:_=Value.int .i64 16))<|wy (DU (k:=16) (m:=65536) Z Z Z (by omega) Z)<|wy (OL (p:=(rd (iF x) 2)) (m:=65536) 16 Z Z Z (by omega) (by omega))<|wg Z ?_
 refine aA<|aM<|wy (Yl.is (dF Z Z) (Z:_=Value.int .i64 3))<|wm Z<|aA<|dZ<|wq<|wy (Yl.t (eP Z Z) (by decide))<|aA<|aG<|bO Z<|aK<|aG<|aI ?_
 refine wq<|wm Z<|wy (aH underlying22 sz5 Z Z (rdr 0 Z))<|wy (aX underlying5 Z Z (rdr 0 Z))<|wg Z<|wn Z<|aM<|wm Z<|wm Z<|wy (xI underlying5 underlying123 Z (by omega))<|wm Z<|wy (Yl.is (iA Z Z) (Z:_=Value.int .i64 24))<|wy (DU (k:=24) (m:=16777216) Z Z Z (by omega) Z) ?_
 refine wy (OL (p:=(rd (iF x) 3)) (m:=16777216) 24 Z Z Z (by omega) (by omega))<|wn Z<|aM<|wy (Yl.is (dF Z Z) (Z:_=Value.int .i64 4))<|wm Z<|aA<|dZ<|wq<|wy (Yl.f (eP Z Z) (by decide))<|aA<|aG<|aL Z<|aZ ?_
 refine wq<|wm Z<|wg Z<|wn Z ?_
 have he:0+(rd (iF x) 0)*1+(rd (iF x) 1)*256+(rd (iF x) 2)*65536+(rd (iF x) 3)*16777216=x:=aUz hx
 refine aT [1] 2 (by decide) Z ?_
 refine⟨_,_,Z,Z,?_⟩
 rw[he]
 exact⟨_,_,hr_3,Z,Z⟩
theorem ZI (hn:n≤p3) (hb:(-1000000≤ms∧ms≤1000000)∧(0≤tt∧tt≤1000000)):
  Ct Tryz.prog 158 #[.pointer (GG g),I n] B w0 ((rc 87 10 g [.pointer (GG gc),I 0,I p1,I p2,I p3,I ms,I tt,I ls, .slice At nt ct, .slice none 0 0])::R) (fun v R'=>v= .bool (decide (n≤ms-tt))∧R'=(rc 87 10 g [.pointer (GG gc),I 0,I p1,I p2,I p3,I ms,I tt,I ls, .slice At nt ct, .slice none 0 0])::R):=by
 refine fn1 Tryz.func158 Z Z Z ?_
 refine wq<|wn Z<|aG<|wq<|wm Z<|wy (aD Z)<|wy (aB (off:=1) (m:=1) underlying87 Z gI Z Z Z)<|wy (aB (off:=0) (m:=1) underlying27 Z sz3 Z Z Z)<|wy (aJ (rdr 0 Z) underlying3 Z Z Z)<|wy (Yl.f (bC Z Z) (by decide))<|wm Z<|aP Z Z Z Z ?_
 refine aP Z Z Z Z<|aP Z Z Z Z<|aP Z Z Z Z<|aP Z Z Z Z<|wy (aS Z Z)<|wm Z<|aC Z Z<|wm Z<|aC Z Z<|wy (aD Z)<|aC Z Z<|wy (aB (off:=1) (m:=1) underlying87 Z gI Z Z Z)<|aC Z Z<|wy (aB (off:=0) (m:=1) underlying27 Z sz3 Z Z Z)<|aC Z Z ?_
 refine wy (aJ (rdr 0 Z) underlying3 Z Z Z)<|aC Z Z<|wy (Yl.t (jA Z Z) (by decide))<|aC Z Z<|wm Z<|aC Z Z<|wm Z<|aC Z Z<|wm Z<|aC Z Z<|wy (aD Z)<|aC Z Z<|wy (aB (off:=1) (m:=1) underlying87 Z gI Z Z Z)<|aC Z Z<|wy (aB (off:=3) (m:=4) underlying27 Z sz3 Z Z Z) ?_
 refine aC Z Z<|wy (aJ (rdr 0 Z) underlying3 Z Z Z)<|aC Z Z<|wy (Yl.f (dV Z Z))<|aC Z Z<|wy (bA Z Z)<|wy (aS Z Z)<|aA<|aL Z<|aK<|aG<|bT mixed<|wD 0 Z (aN Z)<|wD 1 Z (aN Z)<|wD 2 Z (aD Z) ?_
 refine wD 3 Z (aB (off:=5) (m:=5) underlying87 Z sz3 Z Z Z)<|wD 4 Z (aJ (rdr 0 Z) underlying3 Z Z Z)<|wD 5 Z (aN Z)<|wD 6 Z (aD Z)<|wD 7 Z (aB (off:=6) (m:=6) underlying87 Z sz3 Z Z Z)<|wD 8 Z (aJ (rdr 0 Z) underlying3 Z Z Z)<|wD 9 Z (jF Z Z)<|wD 10 Z (vZ Z Z)<|wD 11 Z (bQ Z)<|wN<|bR (R1:=((rc 87 10 g [.pointer (GG gc),I 0,I p1,I p2,I p3,I ms,I tt,I ls, .slice At nt ct, .slice none 0 0])::R)) (fun _ h=>h) ?_
 refine⟨_,Z,?_⟩
 exact⟨Z,Z⟩
theorem ZH (hn:n≤p3) (hb:(-1000000≤ms∧ms≤1000000)∧(0≤tt∧tt≤1000000)):
  Ct Tryz.prog 158 #[.pointer (GG g),I n] B w0 ((rc 87 10 g [.pointer (GG gc),I 1,I p1,I p2,I p3,I ms,I tt,I ls, .slice At nt ct, .slice none 0 0])::R) (fun v R'=>v= .bool (decide (n≤ms-tt))∧R'=(rc 87 10 g [.pointer (GG gc),I 1,I p1,I p2,I p3,I ms,I tt,I ls, .slice At nt ct, .slice none 0 0])::R):=by
 refine fn1 Tryz.func158 Z Z Z ?_
 refine wq<|wn Z<|aG<|wq<|wm Z<|wy (aD Z)<|wy (aB (off:=1) (m:=1) underlying87 Z gI Z Z Z)<|wy (aB (off:=0) (m:=1) underlying27 Z sz3 Z Z Z)<|wy (aJ (rdr 0 Z) underlying3 Z Z Z)<|wy (Yl.f (bC Z Z) (by decide))<|wm Z<|aP Z Z Z Z ?_
 refine aP Z Z Z Z<|aP Z Z Z Z<|aP Z Z Z Z<|aP Z Z Z Z<|wy (aS Z Z)<|wm Z<|aC Z Z<|wm Z<|aC Z Z<|wy (aD Z)<|aC Z Z<|wy (aB (off:=1) (m:=1) underlying87 Z gI Z Z Z)<|aC Z Z<|wy (aB (off:=0) (m:=1) underlying27 Z sz3 Z Z Z)<|aC Z Z ?_
 refine wy (aJ (rdr 0 Z) underlying3 Z Z Z)<|aC Z Z<|wy (Yl.t (jA Z Z) (by decide))<|aC Z Z<|wm Z<|aC Z Z<|wm Z<|aC Z Z<|wm Z<|aC Z Z<|wy (aD Z)<|aC Z Z<|wy (aB (off:=1) (m:=1) underlying87 Z gI Z Z Z)<|aC Z Z<|wy (aB (off:=3) (m:=4) underlying27 Z sz3 Z Z Z) ?_
 refine aC Z Z<|wy (aJ (rdr 0 Z) underlying3 Z Z Z)<|aC Z Z<|wy (Yl.f (dV Z Z))<|aC Z Z<|wy (bA Z Z)<|wy (aS Z Z)<|aA<|aL Z<|aK<|aG<|bT mixed<|wD 0 Z (aN Z)<|wD 1 Z (aN Z)<|wD 2 Z (aD Z) ?_
 refine wD 3 Z (aB (off:=5) (m:=5) underlying87 Z sz3 Z Z Z)<|wD 4 Z (aJ (rdr 0 Z) underlying3 Z Z Z)<|wD 5 Z (aN Z)<|wD 6 Z (aD Z)<|wD 7 Z (aB (off:=6) (m:=6) underlying87 Z sz3 Z Z Z)<|wD 8 Z (aJ (rdr 0 Z) underlying3 Z Z Z)<|wD 9 Z (jF Z Z)<|wD 10 Z (vZ Z Z)<|wD 11 Z (bQ Z)<|wN<|bR (R1:=((rc 87 10 g [.pointer (GG gc),I 1,I p1,I p2,I p3,I ms,I tt,I ls, .slice At nt ct, .slice none 0 0])::R)) (fun _ h=>h) ?_
 refine⟨_,Z,?_⟩
 exact⟨Z,Z⟩
theorem ZG (hn:n≤p3) (hb:(-1000000≤ms∧ms≤1000000)∧(0≤tt∧tt≤1000000)):
  Ct Tryz.prog 158 #[.pointer (GG g),I n] B w0 ((rc 87 10 g [.pointer (GG gc),I 2,I p1,I p2,I p3,I ms,I tt,I ls, .slice At nt ct, .slice none 0 0])::R) (fun v R'=>v= .bool (decide (n≤ms-tt))∧R'=(rc 87 10 g [.pointer (GG gc),I 2,I p1,I p2,I p3,I ms,I tt,I ls, .slice At nt ct, .slice none 0 0])::R):=by
 refine fn1 Tryz.func158 Z Z Z ?_
 refine wq<|wn Z<|aG<|wq<|wm Z<|wy (aD Z)<|wy (aB (off:=1) (m:=1) underlying87 Z gI Z Z Z)<|wy (aB (off:=0) (m:=1) underlying27 Z sz3 Z Z Z)<|wy (aJ (rdr 0 Z) underlying3 Z Z Z)<|wy (Yl.f (bC Z Z) (by decide))<|wm Z<|aP Z Z Z Z ?_
 refine aP Z Z Z Z<|aP Z Z Z Z<|aP Z Z Z Z<|aP Z Z Z Z<|wy (aS Z Z)<|wm Z<|aC Z Z<|wm Z<|aC Z Z<|wy (aD Z)<|aC Z Z<|wy (aB (off:=1) (m:=1) underlying87 Z gI Z Z Z)<|aC Z Z<|wy (aB (off:=0) (m:=1) underlying27 Z sz3 Z Z Z)<|aC Z Z ?_
 refine wy (aJ (rdr 0 Z) underlying3 Z Z Z)<|aC Z Z<|wy (Yl.t (jA Z Z) (by decide))<|aC Z Z<|wm Z<|aC Z Z<|wm Z<|aC Z Z<|wm Z<|aC Z Z<|wy (aD Z)<|aC Z Z<|wy (aB (off:=1) (m:=1) underlying87 Z gI Z Z Z)<|aC Z Z<|wy (aB (off:=3) (m:=4) underlying27 Z sz3 Z Z Z) ?_
 refine aC Z Z<|wy (aJ (rdr 0 Z) underlying3 Z Z Z)<|aC Z Z<|wy (Yl.f (dV Z Z))<|aC Z Z<|wy (bA Z Z)<|wy (aS Z Z)<|aA<|aL Z<|aK<|aG<|bT mixed<|wD 0 Z (aN Z)<|wD 1 Z (aN Z)<|wD 2 Z (aD Z) ?_
 refine wD 3 Z (aB (off:=5) (m:=5) underlying87 Z sz3 Z Z Z)<|wD 4 Z (aJ (rdr 0 Z) underlying3 Z Z Z)<|wD 5 Z (aN Z)<|wD 6 Z (aD Z)<|wD 7 Z (aB (off:=6) (m:=6) underlying87 Z sz3 Z Z Z)<|wD 8 Z (aJ (rdr 0 Z) underlying3 Z Z Z)<|wD 9 Z (jF Z Z)<|wD 10 Z (vZ Z Z)<|wD 11 Z (bQ Z)<|wN<|bR (R1:=((rc 87 10 g [.pointer (GG gc),I 2,I p1,I p2,I p3,I ms,I tt,I ls, .slice At nt ct, .slice none 0 0])::R)) (fun _ h=>h) ?_
 refine⟨_,Z,?_⟩
 exact⟨Z,Z⟩
theorem aHa:
  Ct Tryz.prog 159 #[.pointer (GG g),I n] B w0 ((rc 87 10 g [.pointer (GG gc),I 0,I p1,I p2,I p3,I ms,I tt,I ls, .slice At nt ct, .slice none 0 0])::R) (fun v R'=>v= .tuple #[.slice none 0 0, .bool true]∧R'=(rc 87 10 g [.pointer (GG gc),I 0,I p1,I p2,I p3,I ms,I tt,I ls, .slice At nt ct, .slice none 0 0])::R):=by
 refine fn2 Tryz.func159 Z Z Z ?_
 refine wq<|wg Z<|wn Z<|aG<|wq<|wm Z<|wy (aD Z)<|wy (aB (off:=1) (m:=1) underlying87 Z gI Z Z Z)<|wy (aB (off:=0) (m:=1) underlying27 Z sz3 Z Z Z)<|wy (aJ (rdr 0 Z) underlying3 Z Z Z)<|aA<|aI ?_
 refine wq<|wy (Yl.f (bC Z Z) (by decide))<|wn Z<|aL Z<|wq<|wy (Yl.f (bC Z Z) (by decide))<|wn Z<|aL Z<|aK<|wq ?_
 refine wg Z<|wn Z<|bR (R1:=((rc 87 10 g [.pointer (GG gc),I 0,I p1,I p2,I p3,I ms,I tt,I ls, .slice At nt ct, .slice none 0 0])::R)) (fun _ h=>h) ?_
 refine⟨_,_,Z,Z,?_⟩
 exact⟨Z,Z⟩
theorem aGy:
  Ct Tryz.prog 159 #[.pointer (GG g),I n] B w0 ((rc 87 10 g [.pointer (GG gc),I 2,I p1,I p2,I p3,I ms,I tt,I ls, .slice At nt ct, .slice none 0 0])::R) (fun v R'=>v= .tuple #[.slice none 0 0, .bool true]∧R'=(rc 87 10 g [.pointer (GG gc),I 2,I p1,I p2,I p3,I ms,I tt,I ls, .slice At nt ct, .slice none 0 0])::R):=by
 refine fn2 Tryz.func159 Z Z Z ?_
 refine wq<|wg Z<|wn Z<|aG<|wq<|wm Z<|wy (aD Z)<|wy (aB (off:=1) (m:=1) underlying87 Z gI Z Z Z)<|wy (aB (off:=0) (m:=1) underlying27 Z sz3 Z Z Z)<|wy (aJ (rdr 0 Z) underlying3 Z Z Z)<|aA<|aI ?_
 refine wq<|wy (Yl.f (bC Z Z) (by decide))<|wn Z<|aL Z<|wq<|wy (Yl.f (bC Z Z) (by decide))<|wn Z<|aL Z<|aK<|wq ?_
 refine wg Z<|wn Z<|bR (R1:=((rc 87 10 g [.pointer (GG gc),I 2,I p1,I p2,I p3,I ms,I tt,I ls, .slice At nt ct, .slice none 0 0])::R)) (fun _ h=>h) ?_
 refine⟨_,_,Z,Z,?_⟩
 exact⟨Z,Z⟩
theorem aGz {at_:Int} (h_u:RdC B w0 R0 A_u n_u c_u 1 (ints .u8 u)) (hn_u:n_u=u.length) (hN:u.length≤1000000) (bh_u:aO u) (hat:0≤at_∧at_≤n∧n≤1000000) (hu:u=bP at_++t):
  Ct Tryz.prog 159 #[.pointer (GG g),I n] B w0 ((rc 87 10 g [.pointer (GG gc),I 1,I p1,I p2,I p3,I ms,I tt,I ls, .slice At nt ct, .slice none 0 0])::(rc 146 1 gc [.slice A_u n_u c_u])::(X++R0)) (fun v R'=> ∃(A8:Option Addr),∃(A9:Option Addr) (c9:Nat),RdC B w0 R0 A9 (t).length c9 1 (ints .u8 (t))∧v= .tuple #[.slice A8 1 1, .bool true]∧R'=(ri 3 A8 1 1 ([at_]))::(rc 87 10 g [.pointer (GG gc),I 1,I p1,I p2,I p3,I ms,I tt,I ls, .slice At nt ct, .slice none 0 0])::(rc 146 1 gc [.slice A9 ((t).length) c9])::(X++R0)):=by
 subst hn_u
 refine fn2 Tryz.func159 Z Z Z ?_
 refine wq<|wg Z<|wn Z<|aG<|wq<|wm Z<|wy (aD Z)<|wy (aB (off:=1) (m:=1) underlying87 Z gI Z Z Z)<|wy (aB (off:=0) (m:=1) underlying27 Z sz3 Z Z Z)<|wy (aJ (rdr 0 Z) underlying3 Z Z Z)<|aA<|aI ?_
 refine wq<|wy (Yl.t (bC Z Z) (by decide))<|wn Z<|bO Z<|wq<|wm Z<|wa (aF aIi Z ((yO (X:=([]++X)) (R0:=R0) (at_) (t) h_u Z (by omega) (by assumption) (by omega) hu))) ?_
 rintro _ _ ⟨A_1,c_2,hr_3,rfl,rfl⟩
 refine wm Z<|wX Z Z<|wX Z Z<|wg Z<|wn Z<|wq<|wm Z<|wa (bS .i64 [at_] underlying52 zs3 Z Z Z) ?_
 rintro _ _ ⟨g_5,rfl,rfl⟩
 refine wm Z<|wm Z<|aC Z Z<|wm Z<|aC Z Z<|wm Z<|aC Z Z<|wy (Yl.t (vZ Z Z) (by omega))<|wy (bA Z Z)<|wg Z<|wn Z<|bR (R1:=((ri 3 (GG g_5) 1 1 ([at_]))::(rc 87 10 g [.pointer (GG gc),I 1,I p1,I p2,I p3,I ms,I tt,I ls, .slice At nt ct, .slice none 0 0])::(rc 146 1 gc [.slice A_1 ((t).length) c_2])::(X++R0))) (fun _ h=>h) ?_
 refine⟨_,_,Z,Z,?_⟩
 exact⟨_,_,_,hr_3,Z,Z⟩
set_option maxHeartbeats 1000000 in
theorem BB {l:List Int} (h_u:RdC B w0 R0 A_u n_u c_u 1 (ints .u8 u)) (hn_u:n_u=u.length) (hN:u.length≤1000000) (bh_u:aO u) (hx:0≤x∧x<4294967296) (hp2:p2=0∨p2=1) (bh_l:aO l) (hl:(l.length:Int)=n∧l.length≤100000) (hu:u=bP ((dK l p2).length:Int)++(iF x++(dK l p2++t))):
  Ct Tryz.prog 160 #[.pointer (GG g),I n] B w0 ((rc 87 10 g [.pointer (GG gc),I p0,I p1,I p2,I p3,I ms,I tt,I ls, .slice At nt ct, .slice none 0 0])::(rc 146 1 gc [.slice A_u n_u c_u])::(X++R0)) (fun v R'=> ∃(A8:Option Addr) (c8:Nat),∃(A9:Option Addr) (c9:Nat),RdC B w0 R0 A9 (t).length c9 1 (ints .u8 (t))∧v= .tuple #[.int .u32 x, .slice A8 l.length c8, .bool true]∧R'=(ru 5 A8 l.length c8 l)::(rc 87 10 g [.pointer (GG gc),I p0,I p1,I p2,I p3,I ms,I tt,I ls, .slice At nt ct, .slice none 0 0])::(rc 146 1 gc [.slice A9 ((t).length) c9])::(X++R0)):=by
 subst hn_u
 have hul:=congrArg List.length hu
 simp only[List.length_append] at hul
 have hfl:(iF x).length=4:=rfl
 have hbb:=bh_u
 rw[hu] at hbb
 refine fn3 Tryz.func160 Z Z Z ?_
 refine wq<|wg Z<|wg Z<|wn Z<|wq<|wm Z<|wa (aF aIi Z ((yO (X:=([]++X)) (R0:=R0) (((dK l p2).length:Int)) (iF x++(dK l p2++t)) h_u Z (by omega) (by assumption) (by omega) hu))) ?_
 rintro _ _ ⟨A_1,c_2,hr_3,rfl,rfl⟩
 refine wm Z<|wX Z Z<|wX Z Z<|wg Z<|wn Z<|wq<|wm Z<|wy (aD Z)<|wy (aB (off:=0) (m:=0) underlying87 Z aFn Z Z Z)<|wy (aJ (rdr 0 Z) underlying84 Z Z Z)<|wa (aF bDr Z (Ct.pick [1,0] 2 (by decide) Z (aOw (X:=([(rc 87 10 g [.pointer (GG gc),I p0,I p1,I p2,I p3,I ms,I tt,I ls, .slice At nt ct, .slice none 0 0])]++X)) (R0:=R0) (x:=x) (t:=dK l p2++t) hr_3 Z (by simp only[List.length_append];omega) hx Z))) ?_
 rintro _ _ ⟨A_4,c_5,hr_6,rfl,rfl⟩
 refine wm Z<|wX Z Z<|wX Z Z<|wg Z<|wn Z<|wq<|wm Z<|wy (aD Z)<|wy (aB (off:=0) (m:=0) underlying87 Z aFn Z Z Z)<|wy (aJ (rdr 1 Z) underlying84 Z Z Z)<|wm Z<|wa (aF aEi Z ((aCf (X:=([(rc 87 10 g [.pointer (GG gc),I p0,I p1,I p2,I p3,I ms,I tt,I ls, .slice At nt ct, .slice none 0 0])]++X)) (R0:=R0) (dK l p2) (t) hr_6 Z (by simp only[List.length_append];omega) Z Z))) ?_
 rintro _ _ ⟨A_10,c_11,A_7,c_8,hr_9,rfl,rfl⟩
 refine wm Z<|wX Z Z<|wX Z Z<|wg Z<|wn Z<|aG<|wq<|wm Z<|wy (dI Z)<|wm Z<|aC Z Z<|wm Z<|aC Z Z ?_
 refine wy (dI Z)<|wy (aS Z Z)<|wm Z<|aC Z Z<|wm Z<|aC Z Z<|wy (dI Z)<|wy (aS Z Z)<|aA<|aL Z<|aK<|wq<|wm Z<|wm Z ?_
 refine wy (aD Z)<|wy (aB (off:=1) (m:=1) underlying87 Z gI Z Z Z)<|wy (aB (off:=2) (m:=3) underlying27 Z sz3 Z Z Z)<|wy (aJ (rdr 2 Z) underlying3 Z Z Z)<|wm Z<|wa (aF bDq Z (Ct.fresh (fun w hw=>RB ((rdr 0 Z) w hw) Z bh_l hp2 hl.2 (by omega)))) ?_
 rintro _ _ ⟨_,rfl,A_12,c_13,rfl,rfl⟩
 refine wm Z<|wX Z Z<|wX Z Z<|wg Z<|wn Z<|wq<|wm Z<|wm Z<|wm Z<|wm Z<|aC Z Z<|wm Z<|aC Z Z ?_
 refine wy (aQ underlying22 Z)<|aC Z Z<|wm Z<|aC Z Z<|wy (Yl.t (bC Z Z) (by omega))<|wy (bA Z Z)<|wg Z<|wg Z<|wn Z<|aT [0,3,2] 4 (by decide) Z ?_
 refine⟨_,_,_,Z,Z,Z,?_⟩
 exact⟨_,_,_,_,hr_9,Z,Z⟩
end Go.Proofs.YtdbebmmhdefgdaaGreat
namespace Go.Pure
open Go Go.Eng
section
variable {p:List Int}
def pit (p:List Int):Nat→Int→Int
 |0,i=>i
 |b+1,i=>rd p (pit p b i)
theorem rW (hp:p.Perm (iota p.length)) {i:Int} (i0:0≤i) (hi:i<p.length): ∀b:Nat,0≤pit p b i∧pit p b i<p.length
 |0=>⟨i0,hi⟩
 |b+1=>by
  have ih:=rW hp i0 hi b
  exact aW.1 (hp.subset (bH (L:=p) ih.1 ih.2))
theorem aDf (p:List Int) (a:Nat) (i:Int): ∀b:Nat,pit p (a+b) i=pit p b (pit p a i)
 |0=>rfl
 |b+1=>by rw[←Nat.add_assoc,pit,aDf p a i b,pit]
theorem aWu (hp:p.Perm (iota p.length)) {x y:Int} (x0:0≤x) (hx:x<p.length) (y0:0≤y) (hy:y<p.length) (h:rd p x=rd p y):x=y:=jH (hp.symm.nodup (eX _)) x0 hx y0 hy h
structure Ring (p:List Int) (i:Int) (c:List Int):Prop where
 pos:0<c.length
 at_: ∀b:Nat,b<c.length→rd c b=pit p b i
 close:pit p c.length i=i
 nodup:c.Nodup
 least: ∀x∈c,i≤x
structure ClE (p:List Int) (E:List Bool):Prop where
 len:E.length=p.length
 back: ∀j:Int,0≤j→j<p.length→rdb E (rd p j)=true→rdb E j=true
theorem aSl {l:List Int} {x:Int} {b:Nat} (h:b<(l++[x]).length):rd (l++[x]) b=if b<l.length then rd l b else x:=by
 split
 ·rename_i g;rw[jI (by omega) (by omega)]
 ·rename_i g
  have:b=l.length:=by simp at h;omega
  subst this
  rw[fZ (by omega),Int.sub_self]
  rfl
theorem LD (hp:p.Perm (iota p.length)) {E0:List Bool} {i:Int} (hE0:ClE p E0) (i0:0≤i) (hi:i<p.length) (hun:rdb E0 i≠true) (hall: ∀j:Int,0≤j→j<i→rdb E0 j=true):
  ∀(f:Nat) (E:List Bool) (acc:List Int),E.length=p.length→cntF E≤f→(∀b:Nat,b<acc.length→rd acc b=pit p b i)→acc.Nodup→(∀x∈acc,rdb E0 x≠true)→(∀j:Int,0≤j→j<p.length→(rdb E j=true↔rdb E0 j=true∨j∈acc))→
  Ring p i (acc++(fK p f E (pit p acc.length i)).1)∧(∀x∈acc++(fK p f E (pit p acc.length i)).1,rdb E0 x≠true)∧ ∀j:Int,0≤j→j<p.length→(rdb (fK p f E (pit p acc.length i)).2 j=true↔rdb E0 j=true∨j∈acc++(fK p f E (pit p acc.length i)).1)
 | f, E,acc,hl,hf,hat,hnd,hfr,hset=>by
  have hk:=rW hp i0 hi acc.length
  have hmem: ∀b:Nat,b<acc.length→pit p b i∈acc:=fun b hb=>by rw[←hat b hb];exact bH (by omega) (by omega)
  by_cases hseen:rdb E (pit p acc.length i)=true
  ·rw [rR hseen]
   simp only[List.append_nil]
   have hne:0<acc.length:=by
    rcases Nat.eq_zero_or_pos acc.length with z|z
    ·exfalso
     have hz:acc=[]:=List.eq_nil_of_length_eq_zero z
     subst hz
     rcases(hset i i0 hi).1 hseen with a|a
     ·exact hun a
     ·cases a
    ·exact z
   have hclose:pit p acc.length i=i:=by
    have hz:=rW hp i0 hi (acc.length-1)
    have hstep:pit p acc.length i=rd p (pit p (acc.length-1) i):=by
     obtain⟨m,hm⟩: ∃m,acc.length=m+1:=⟨acc.length-1,by omega⟩
     rw[hm,pit];rfl
    rcases(hset _ hk.1 hk.2).1 hseen with a|a
    ·rw [hstep] at a
     exact absurd (hE0.back _ hz.1 hz.2 a) (hfr _ (hmem _ (by omega)))
    ·obtain ⟨b,hb,e⟩:=List.mem_iff_getElem.1 a
     have e2:pit p acc.length i=pit p b i:=by rw[←hat b hb,gP hb];exact e.symm
     rcases Nat.eq_zero_or_pos b with z|z
     ·rw[e2,z];rfl
     ·exfalso
      have hb1:=rW hp i0 hi (b-1)
      have hstep2:pit p b i=rd p (pit p (b-1) i):=by
       obtain⟨m,rfl⟩: ∃m,b=m+1:=⟨b-1,by omega⟩
       rw[pit];rfl
      have:=aWu hp hz.1 hz.2 hb1.1 hb1.2 (by rw[←hstep,←hstep2,e2])
      rw[←hat _ (by omega),←hat _ (by omega)] at this
      have:=jH hnd (by omega) (by omega) (by omega) (by omega) this
      omega
   refine⟨⟨hne,hat,hclose,hnd,fun x hx=> ?_⟩,hfr,hset⟩
   obtain⟨b,hb,rfl⟩:=List.mem_iff_getElem.1 hx
   have hr:=rW hp i0 hi b
   rw[←hat b hb,gP hb] at hr
   rcases Int.lt_or_le acc[b] i with g|g
   ·exact absurd (hall _ hr.1 g) (hfr _ hx)
   ·exact g
  ·have hpos:=JG hk.1 (by omega) hseen
   have hup:=zK hk.1 (by omega) hseen
   obtain⟨g,rfl⟩: ∃g,f=g+1:=⟨f-1,by omega⟩
   rw[EU hk.1 (by omega) hf hseen]
   have hno: ¬(rdb E0 (pit p acc.length i)=true∨pit p acc.length i∈acc):=fun h=>hseen ((hset _ hk.1 hk.2).2 h)
   have hlen:(acc++[pit p acc.length i]).length=acc.length+1:=by simp
   have ih:=LD hp hE0 i0 hi hun hall g (oQ E (pit p acc.length i) true) (acc++[pit p acc.length i]) (by rw[kG];exact hl) (by omega) (fun b hb=>by
    rw[aSl hb]
    split
    ·rename_i q;exact hat b q
    ·rename_i q;rw[show b=acc.length by rw[hlen] at hb;omega]) (List.nodup_append.2 ⟨hnd,by simp,fun x hx y hy e=>by obtain rfl:=List.mem_singleton.1 hy;subst e;exact hno (.inr hx)⟩) (fun x hx=>by
    rcases List.mem_append.1 hx with h|h
    ·exact hfr x h
    ·obtain rfl:=List.mem_singleton.1 h
     exact fun e=>hno (.inl e)) (fun j j0 hj=>by
    rw[vE hk.1 (by omega) j0,List.mem_append,List.mem_singleton]
    split
    ·rename_i e;exact⟨fun _=> .inr (.inr e),fun _=>rfl⟩
    ·rename_i e;rw[hset j j0 hj];exact⟨fun h=>h.elim .inl fun h=> .inr (.inl h),fun h=>h.elim .inl fun h=>h.elim .inr fun h=>absurd h e⟩)
   rw[hlen,pit,List.append_assoc] at ih
   exact ih
structure bFe (p:List Int) (i:Nat) (E:List Bool) (ls:List (List Int)):Prop where
 cl:ClE p E
 seen: ∀j:Int,0≤j→j<p.length→(rdb E j=true↔j∈ls.flatten)
 nodup:ls.flatten.Nodup
 ring: ∀c∈ls,∃i0:Int,(0≤i0∧i0<i)∧Ring p i0 c
 heads:ls.Pairwise fun c d=>rd c 0<rd d 0
theorem bEx (hp:p.Perm (iota p.length)): ∀i:Nat,i≤p.length→bFe p i (iD p i).1 (iD p i).2
 |0,_=>⟨⟨by simp[iD],fun j j0 hj h=>by rw[iD,EF] at h;cases h⟩,fun j j0 hj=>by rw[iD,EF];simp,by simp[iD],fun c hc=>(by cases hc), .nil⟩
 | i +1,hi=>by
  have ih:=bEx hp i (by omega)
  have hseen:=BN hp i (by omega)
  have hf:=kU hp i (by omega)
  have hcnt:cntF (iD p i).1≤p.length:=by have:=hf.2.2;omega
  rw[iD]
  by_cases hun:rdb (iD p i).1 i=true
  ·rw [rR hun]
   simp only[if_true]
   exact⟨ih.cl,ih.seen,ih.nodup,fun c hc=>by obtain⟨i0,h,r⟩:=ih.ring c hc;exact⟨i0,by omega,r⟩,ih.heads⟩
  ·obtain ⟨w1,w2,w3⟩:=LD hp ih.cl (i:=i) (by omega) (by omega) hun (fun j j0 hj=>by have:=hseen j.toNat (by omega);rwa[show((j.toNat:Nat):Int)=j by omega] at this) p.length (iD p i).1 [] hf.1 hcnt (fun b hb=>by simp at hb) .nil (fun x hx=>by cases hx) (fun j j0 hj=>by simp)
   simp only[List.nil_append,List.length_nil,pit] at w1 w2 w3
   have hwl:=(pY hp p.length (iD p i).1 i hf.1 (by omega) (by omega))
   generalize fK p p.length (iD p i).1 i=r at w1 w2 w3 hwl
   obtain⟨c,E'⟩:=r
   simp only at w1 w2 w3 hwl ⊢
   rw[if_neg (fun e=>by have:=w1.pos;rw[e] at this;simp at this)]
   have h0:rd c 0=i:=w1.at_ 0 w1.pos
   refine⟨⟨hwl.1,fun j j0 hj h=> ?_⟩,fun j j0 hj=> ?_,?_,fun d hd=> ?_,?_⟩
   ·have hj':=aW.1 (hp.subset (bH (L:=p) j0 hj))
    rcases(w3 _ hj'.1 hj'.2).1 h with a|a
    ·exact(w3 j j0 hj).2 (.inl (ih.cl.back j j0 hj a))
    ·refine (w3 j j0 hj).2 (.inr ?_)
     obtain⟨b,hb,e⟩:=List.mem_iff_getElem.1 a
     have e2:rd p j=pit p b i:=by rw[←w1.at_ b hb,gP hb];exact e.symm
     have key: ∀m:Nat,m<c.length→rd p j=rd p (pit p m i)→j∈c:=fun m hm e=>by
      have hm':=rW hp (i:=i) (by omega) (by omega) m
      have:=aWu hp j0 hj hm'.1 hm'.2 e
      rw[this,←w1.at_ m hm]
      exact bH (by omega) (by omega)
     rcases Nat.eq_zero_or_pos b with z|z
     ·refine key (c.length-1) (by have:=w1.pos;omega) ?_
      have hc:=w1.close
      obtain⟨m,hm⟩: ∃m,c.length=m+1:=⟨c.length-1,by have:=w1.pos;omega⟩
      rw[hm,pit] at hc
      rw[e2,z,hm]
      exact hc.symm
     ·obtain ⟨m,rfl⟩: ∃m,b=m+1:=⟨b-1,by omega⟩
      exact key m (by omega) (by rw[e2,pit])
   ·rw [w3 j j0 hj,List.flatten_append,List.mem_append,ih.seen j j0 hj]
    simp
   ·rw [List.flatten_append]
    refine List.nodup_append.2 ⟨ih.nodup,by simpa using w1.nodup,fun x hx y hy e=> ?_⟩
    subst e
    have hy:x∈c:=by simpa using hy
    have hx':=hwl.2.1 x hy
    exact w2 x hy ((ih.seen x hx'.1 hx'.2).2 hx)
   ·rcases List.mem_append.1 hd with h|h
    ·obtain ⟨i0,h,r⟩:=ih.ring d h
     exact⟨i0,by omega,r⟩
    ·obtain rfl:=List.mem_singleton.1 h
     exact⟨i,by omega,w1⟩
   ·refine List.pairwise_append.2 ⟨ih.heads,List.pairwise_singleton _ _,fun d hd e he=> ?_⟩
    obtain rfl:=List.mem_singleton.1 he
    obtain⟨i0,h,r⟩:=ih.ring d hd
    rw[h0,show rd d 0=i0 from r.at_ 0 r.pos]
    omega
theorem aAi (hp:p.Perm (iota p.length)):bFe p p.length (iD p p.length).1 (dW p):=bEx hp p.length (Nat.le_refl _)
theorem BM (hp:p.Perm (iota p.length)):(dW p).flatten.Perm (iota p.length):=pG (aAi hp).nodup (fun x hx=>by
 obtain⟨c,hc,hx⟩:=List.mem_flatten.1 hx
 exact aW.2 (aEj hp c hc x hx)) (by rw[bF,VS hp];exact Nat.le_refl _)
end
end Go.Pure
namespace Go.Pure
open Go Go.Eng
section
variable {l:List Int}
def phi (l:List Int) (q:Int):Int:=rd (bW (iota l.length) l 256) q
theorem GM (hl:aO l) {q:Int} (q0:0≤q) (hq:q<l.length):0≤phi l q∧phi l q<l.length:=by
 have h:=jL (l:=l) hl
 have hlen:=h.1.length_eq
 rw[bF] at hlen
 exact aW.1 (h.1.subset (bH q0 (by omega)))
theorem aZc (hl:aO l) {i:Int} (i0:0≤i) (hi:i<l.length):phi l (lfC l i)=i:=by
 obtain⟨q,q0,q1,e,f⟩:=UE (l:=l) hl i0 hi
 rw[f];exact e
theorem YU (hl:aO l) {i k:Int} (i0:0≤i) (h:i<k) (hk:k<l.length):tl l (phi l i) (phi l k):=by
 have hlen:=(jL (l:=l) hl).1.length_eq
 rw[bF] at hlen
 exact dU (jL (l:=l) hl).2 i0 h (by omega)
def uw (l:List Int):Nat→Int→Int
 |0,i=>rd l (phi l i)
 |d+1,i=>uw l d (phi l i)
def U (l:List Int) (i:Int) (d:Nat):Int:=uw l d i
theorem uQ (i:Int):U l i 0=rd l (phi l i):=by unfold U;rw[uw]
theorem xC (i:Int) (d:Nat):U l i (d+1)=U l (phi l i) d:=by unfold U;rw[uw]
theorem aRs (hl:aO l): ∀(d:Nat) (i k:Int),0≤i→i<k→k<l.length→(∀e,e<d→U l i e=U l k e)→U l i d≤U l k d
 |0,i,k,i0,h,hk,_=>by
  have:=YU hl i0 h hk
  rw[uQ,uQ]
  unfold tl at this
  omega
 |d+1,i,k,i0,h,hk,he=>by
  have h0:=he 0 (by omega)
  rw[uQ,uQ] at h0
  have ht:=YU hl i0 h hk
  unfold tl at ht
  have hi':=GM hl (q:=i) i0 (by omega)
  have hk':=GM hl (q:=k) (by omega) hk
  rw[xC,xC]
  refine aRs hl d _ _ hi'.1 (by omega) hk'.2 fun e he'=> ?_
  have:=he (e+1) (by omega)
  rwa[xC,xC] at this
theorem aRt (hl:aO l) {i k:Int} (i0:0≤i) (h:i≤k) (hk:k<l.length): ¬Lt (U l k) (U l i):=by
 rintro⟨d,h1,h2⟩
 rcases Int.lt_or_le i k with a|a
 ·have:=aRs hl d i k i0 a hk fun e he=>(h1 e he).symm
  omega
 ·obtain rfl:i=k:=by omega
  omega
theorem phi_mono (hl:aO l) {i k:Int} (i0:0≤i) (h:i<k) (hk:k<l.length) (he: ∀d,U l i d=U l k d):phi l i<phi l k∧ ∀d,U l (phi l i) d=U l (phi l k) d:=by
 have ht:=YU hl i0 h hk
 have h0:=he 0
 rw[uQ,uQ] at h0
 unfold tl at ht
 refine⟨by omega,fun d=> ?_⟩
 have:=he (d+1)
 rwa[xC,xC] at this
def iL (l:List Int):Nat→Int→Int
 |0,i=>i
 |b+1,i=>iL l b (phi l i)
theorem rX (hl:aO l): ∀(b:Nat) {i:Int},0≤i→i<l.length→0≤iL l b i∧iL l b i<l.length
 |0,i,i0,hi=>⟨i0,hi⟩
 |b+1,i,i0,hi=>by
  have h:=GM hl i0 hi
  exact rX hl b h.1 h.2
theorem AZ (hl:aO l): ∀(b:Nat) {i k:Int},0≤i→i<k→k<l.length→(∀d,U l i d=U l k d)→iL l b i<iL l b k∧ ∀d,U l (iL l b i) d=U l (iL l b k) d
 |0,i,k,_,h,_,he=>⟨h,he⟩
 |b+1,i,k,i0,h,hk,he=>by
  have h1:=phi_mono hl i0 h hk he
  have hi':=GM hl (q:=i) i0 (by omega)
  have hk':=GM hl (q:=k) (by omega) hk
  exact AZ hl b hi'.1 h1.1 hk'.2 h1.2
theorem uR (i:Int): ∀(b d:Nat),U l (iL l b i) d=U l i (b+d)
 |0,d=>by rw[Nat.zero_add];rfl
 |b+1,d=>by
  rw[iL,uR (phi l i) b d,←xC,show b+d+1=b+1+d by omega]
theorem nG (i:Int): ∀(a b:Nat),iL l (a+b) i=iL l b (iL l a i)
 |0,b=>by rw[Nat.zero_add];rfl
 |a+1,b=>by rw[show a+1+b=(a+b)+1 by omega,iL,nG (phi l i) a b];rfl
theorem aDr (hl:aO l) {i:Int} (i0:0≤i) (hi:i<l.length) {b:Nat} (h:i<iL l b i) (he: ∀d,U l i d=U l (iL l b i) d): ∀t:Nat,i+t≤iL l (t*b) i
 |0=>by rw[Nat.zero_mul];show i+0≤i;omega
 |t+1=>by
  have ih:=aDr hl i0 hi h he t
  have hk:=rX hl b i0 hi
  have h1:=(AZ hl (t*b) i0 h hk.2 he).1
  rw[←nG i b (t*b),show b+t*b=(t+1)*b by rw[Nat.succ_mul];omega] at h1
  omega
theorem aDs (hl:aO l) {i:Int} (i0:0≤i) (hi:i<l.length) {b:Nat} (h:iL l b i<i) (he: ∀d,U l i d=U l (iL l b i) d): ∀t:Nat,iL l (t*b) i+t≤i
 |0=>by rw[Nat.zero_mul];show i+0≤i;omega
 |t+1=>by
  have ih:=aDs hl i0 hi h he t
  have hk:=rX hl b i0 hi
  have h1:=(AZ hl (t*b) hk.1 h hi fun d=>(he d).symm).1
  rw[←nG i b (t*b),show b+t*b=(t+1)*b by rw[Nat.succ_mul];omega] at h1
  omega
theorem aLj (hl:aO l) {i:Int} (i0:0≤i) (hi:i<l.length) {b:Nat} (hne:iL l b i≠i): ¬ ∀d,U l i d=U l (iL l b i) d:=fun he=>by
 rcases Int.lt_or_le i (iL l b i) with h|h
 ·have:=aDr hl i0 hi h he (l.length+1)
  have:=rX hl ((l.length+1)*b) i0 hi
  omega
 ·have:=aDs hl i0 hi (by omega) he (l.length+1)
  have:=rX hl ((l.length+1)*b) i0 hi
  omega
theorem aUx (hl:aO l):(((iota l.length).map (lfC l))).Perm (iota ((iota l.length).map (lfC l)).length):=by
 rw[List.length_map,bF]
 exact zS (fun x h0 h1=>UF (l:=l) hl h0 h1) fun x y x0 x1 y0 y1 e=>aNw (l:=l) hl x0 x1 y0 y1 e
def lfL (l:List Int):List Int:=(iota l.length).map (lfC l)
theorem nC (l:List Int):(lfL l).length=l.length:=by unfold lfL;rw[List.length_map,bF]
theorem aYx {i:Int} (i0:0≤i) (hi:i<l.length):rd (lfL l) i=lfC l i:=by
 unfold lfL
 rw[tY i0 (by rw[bF];exact hi),vF i0 hi]
theorem lW (hl:aO l):(lfL l).Perm (iota (lfL l).length):=aUx hl
theorem TK (hl:aO l) {i:Int} (i0:0≤i) (hi:i<l.length): ∀b:Nat,iL l b (pit (lfL l) b i)=i
 |0=>rfl
 |b+1=>by
  have h:=rW (lW hl) i0 (by rw[nC];exact hi) b
  rw[nC] at h
  rw[iL,pit,aYx h.1 h.2,aZc hl h.1 h.2]
  exact TK hl i0 hi b
section
variable {i:Int} {c:List Int} (hl:aO l) (i0:0≤i) (hi:i<l.length) (hc:Ring (lfL l) i c)
include hl i0 hi hc
theorem vD {b:Nat} (hb:b≤c.length):iL l b i=pit (lfL l) (c.length-b) i:=by
 have h:=TK hl (rW (lW hl) i0 (by rw[nC];exact hi) (c.length-b)).1 (by have:=(rW (lW hl) i0 (by rw[nC];exact hi) (c.length-b)).2;rw[nC] at this;exact this) b
 rw[←aDf,show c.length-b+b=c.length by omega,hc.close] at h
 exact h
theorem FU:iL l c.length i=i:=by
 rw[vD hl i0 hi hc (Nat.le_refl _),Nat.sub_self];rfl
theorem TA:Per (U l i) c.length:=fun d=>by
 rw[Nat.add_comm,←uR,FU hl i0 hi hc]
theorem QU {d:Nat} (hd:d<c.length):rd (jV l c) d=U l i d:=by
 have h1:rd (jV l c) d=rd l (rd c ((c.length-1-d:Nat):Int)):=by
  unfold jV
  rw[tY (by omega) (by rw[List.length_reverse];omega)]
  congr 1
  rw[gP (by rw[List.length_reverse];exact hd),List.getElem_reverse,gP (by omega)]
 have h2:U l i d=rd l (iL l (d+1) i):=by
  have:=uR (l:=l) i d 0
  rw[Nat.add_zero,uQ] at this
  rw[←this,nG i d 1];rfl
 rw[h1,h2,hc.at_ _ (by omega),vD hl i0 hi hc (by omega),show c.length-(d+1)=c.length-1-d by omega]
theorem ES:om (jV l c)=U l i:=by
 funext d
 have hp:=hc.pos
 have h1:om (jV l c) d=rd (jV l c) ((d%c.length:Nat):Int):=by
  unfold om rd
  rw[mI,Int.toNat_natCast]
 rw[h1,QU hl i0 hi hc (Nat.mod_lt _ hp)]
 exact(TA hl i0 hi hc).mod d
theorem FV {r:Nat} (r0:0<r) (hr:r<c.length):i<iL l r i:=by
 rw[vD hl i0 hi hc (by omega)]
 have h1:=hc.least _ (bH (L:=c) (k:=((c.length-r:Nat):Int)) (by omega) (by omega))
 rw[hc.at_ _ (by omega)] at h1
 rcases Int.lt_or_le i (pit (lfL l) (c.length-r) i) with g|g
 ·exact g
 ·exfalso
  have e:rd c ((c.length-r:Nat):Int)=rd c ((0:Nat):Int):=by
   rw[hc.at_ _ (by omega),hc.at_ 0 hc.pos]
   show _=i
   omega
  have:=jH hc.nodup (by omega) (by omega) (by omega) (by have:=hc.pos;omega) e
  omega
theorem aLx:uV (jV l c)=true:=by
 rw[uU,mI]
 refine⟨hc.pos,fun r r0 hr=> ?_⟩
 have hot:=FV hl i0 hi hc r0 hr
 have hin:=rX hl r i0 hi
 have hnl:=aRt hl i0 (Int.le_of_lt hot) hin.2
 have hne:=aLj hl i0 hi (b:=r) (by omega)
 have hlt:Lt (U l i) (U l (iL l r i)):=by
  rcases II (U l i) (U l (iL l r i)) with a|a|a
  ·exact a
  ·exact absurd a hne
  ·exact absurd a hnl
 obtain⟨d,h1,h2⟩:=hlt
 have hsh: ∀e,U l (iL l r i) e=U l i (r+e):=fun e=>uR i r e
 rw[hsh] at h2
 have hdm:d<c.length-r:=by
  rcases Nat.lt_or_ge d (c.length-r) with g|g
  ·exact g
  ·exfalso
   have hper:=TA hl i0 hi hc
   have hot2:=FV hl i0 hi hc (r:=c.length-r) (by omega) (by omega)
   have hin2:=rX hl (c.length-r) i0 hi
   refine aRt hl i0 (Int.le_of_lt hot2) hin2.2 ⟨d-(c.length-r),fun e he=> ?_,?_⟩
   ·rw [uR]
    have:=h1 (c.length-r+e) (by omega)
    rw[this,hsh,show r+(c.length-r+e)=e+c.length by omega,hper]
   ·rw [uR,show c.length-r+(d-(c.length-r))=d by omega]
    rw[show r+d=(d-(c.length-r))+c.length by omega,hper] at h2
    exact h2
 rw[nY _ _ (by rw[List.length_drop,mI];omega),List.length_drop,mI]
 have hlt: ∀e,e<c.length→lt (jV l c) e=U l i e:=fun e he=>by
  rw[←QU hl i0 hi hc he]
  unfold lt rd
  rw[Int.toNat_natCast]
 refine⟨d,hdm,fun e he=> ?_,?_⟩
 ·rw[gZ,hlt e (by omega),hlt (r+e) (by omega),h1 e he,hsh]
 ·rw [gZ,hlt d (by omega),hlt (r+d) (by omega)]
  exact h2
end
end
end Go.Pure
namespace Go.Pure
open Go Go.Eng
theorem HV {w:List Int} {e:Nat} (h:e<w.length):om w e=lt w e:=CQ h
theorem aFb {v:List Int} (h:uV v=true) {r:Nat} (r0:0<r) (hr:r<v.length): ∃d,d<v.length-r∧(∀e,e<d→lt v e=lt v (r+e))∧lt v d<lt v (r+d):=by
 have:=((uU v).1 h).2 r r0 hr
 rw[nY _ _ (by rw[List.length_drop];omega),List.length_drop] at this
 obtain⟨d,h1,h2,h3⟩:=this
 refine⟨d,h1,fun e he=> ?_,?_⟩
 ·rw[h2 e he,gZ]
 ·rwa[gZ] at h3
theorem longer {w v:List Int} (hw:0<w.length) (hv:uV v=true) (hlen:w.length<v.length) (hpre: ∀e,e<w.length→lt v e=lt w e):Lt (om w) (om v):=by
 obtain⟨d,h1,h2,h3⟩:=aFb hv hw hlen
 have hper:=uA w
 have agr: ∀e,e<w.length+d→lt v e=om w e:=by
  intro e
  induction e using Nat.strongRecOn with
  | ind e ih=>
   intro he
   rcases Nat.lt_or_ge e w.length with g|g
   ·rw[hpre e g,HV g]
   ·have e1:=h2 (e-w.length) (by omega)
    rw[show w.length+(e-w.length)=e by omega] at e1
    have e2:=hper (e-w.length)
    rw[show e-w.length+w.length=e by omega] at e2
    rw[←e1,e2]
    exact ih (e-w.length) (by omega) (by omega)
 refine⟨w.length+d,fun f hf=> ?_,?_⟩
 ·rw[HV (w:=v) (by omega),agr f hf]
 ·rw [HV (w:=v) (by omega)]
  have e1:=hper d
  rw[Nat.add_comm d w.length] at e1
  rw[e1,←agr d (by omega)]
  exact h3
theorem aDv: ∀(ws:List (List Int)) (m:Nat),0<m→m≤ws.flatten.length→ ∃v∈ws,∃r,r<m∧m≤r+v.length∧ ∀e,e<v.length→lt ws.flatten (r+e)=lt v e
 |[],m,h0,h=>by simp at h;omega
 | w::ws,m,h0,h=>by
  rw[List.flatten_cons,List.length_append] at h
  rcases Nat.lt_or_ge w.length m with g|g
  ·obtain ⟨v,hv,r,h1,h2,h3⟩:=aDv ws (m-w.length) (by omega) (by omega)
   refine⟨v,List.mem_cons_of_mem _ hv,w.length+r,by omega,by omega,fun e he=> ?_⟩
   rw[List.flatten_cons,←h3 e he]
   unfold lt
   rw[List.getD_eq_getElem?_getD,List.getD_eq_getElem?_getD,List.getElem?_append_right (by omega),show w.length+r+e-w.length=r+e by omega]
  ·refine ⟨w,by simp,0,h0,by omega,fun e he=> ?_⟩
   rw[List.flatten_cons,Nat.zero_add]
   unfold lt
   rw[List.getD_eq_getElem?_getD,List.getD_eq_getElem?_getD,List.getElem?_append_left he]
theorem aIa {w:List Int} {ws:List (List Int)} (hw:uV w=true) (hws: ∀v∈ws,uV v=true) (hle: ∀v∈ws,¬Lt (om w) (om v)):lV (w++ws.flatten) (w++ws.flatten).length=w.length:=by
 have hpos:=((uU w).1 hw).1
 refine BG (by rw[List.take_left'];exact hw;rfl) _ (by simp) fun m h1 h2=> ?_
 cases hb:uV ((w++ws.flatten).take m) with
 |false=>rfl
 | true=>
  exfalso
  rw[List.length_append] at h2
  obtain⟨v,hv,r,r1,r2,r3⟩:=aDv ws (m-w.length) (by omega) (by omega)
  have hml:((w++ws.flatten).take m).length=m:=by rw[List.length_take,List.length_append];omega
  obtain⟨d,d1,d2,d3⟩:=aFb hb (r:=w.length+r) (by omega) (by omega)
  rw[hml] at d1
  have hs: ∀e,e<m→lt ((w++ws.flatten).take m) e=lt (w++ws.flatten) e:=fun e he=>lt_take he
  have hsw: ∀e,e<w.length→lt (w++ws.flatten) e=lt w e:=fun e he=>by
   unfold lt
   rw[List.getD_eq_getElem?_getD,List.getD_eq_getElem?_getD,List.getElem?_append_left he]
  have hsv: ∀e,e<v.length→lt (w++ws.flatten) (w.length+r+e)=lt v e:=fun e he=>by
   rw[←r3 e he]
   unfold lt
   rw[List.getD_eq_getElem?_getD,List.getD_eq_getElem?_getD,List.getElem?_append_right (by omega),show w.length+r+e-w.length=r+e by omega]
  have hlv:=hws v hv
  have q2: ∀e,e<d→lt (w++ws.flatten) e=lt v e:=fun e he=>by
   have:=d2 e he
   rwa[hs _ (by omega),hs _ (by omega),hsv e (by omega)] at this
  have q3:lt (w++ws.flatten) d<lt v d:=by rwa[hs _ (by omega),hs _ (by omega),hsv d (by omega)] at d3
  rcases Nat.lt_or_ge d w.length with g|g
  ·refine hle v hv ⟨d,fun e he=> ?_,?_⟩
   ·rw[HV (w:=w) (by omega),HV (w:=v) (by omega),←q2 e he,hsw e (by omega)]
   ·rw [HV (w:=w) g,HV (w:=v) (by omega),←hsw d g]
    exact q3
  ·exact hle v hv (longer hpos hlv (by omega) fun e he=>by rw[←q2 e (by omega),hsw e he])
theorem aDz: ∀ {ws:List (List Int)},(∀v∈ws,uV v=true)→ws.Pairwise (fun a b=> ¬Lt (om a) (om b))→fB ws.flatten=ws.map fun w=>(w.length:Int)
 |[],_,_=>UX rfl
 |w::ws,hl,hp=>by
  obtain⟨h1,h2⟩:=List.pairwise_cons.1 hp
  have hw:=hl w (by simp)
  have hpos:=((uU w).1 hw).1
  have hf:=aIa hw (fun v hv=>hl v (List.mem_cons_of_mem _ hv)) h1
  rw[List.flatten_cons,NL (by rw[List.length_append];omega),hf,List.drop_left',List.map_cons,aDz (fun v hv=>hl v (List.mem_cons_of_mem _ hv)) h2]
  rfl
theorem YS (ws:List (List Int)) (k:Nat):ps (ws.map fun w=>(w.length:Int)) k=((ws.take k).flatten.length:Int):=by
 unfold ps
 rw[Int.toNat_natCast,←List.map_take]
 induction ws.take k with
 |nil=>rfl
 |cons w l ih=>rw[List.map_cons,List.sum_cons,ih,List.flatten_cons,List.length_append];omega
theorem aIr (ws:List (List Int)):gH ws.flatten (ws.map fun w=>(w.length:Int)) ws.length=ws:=by
 refine List.ext_getElem (by rw[rQ];omega) fun k h1 h2=> ?_
 simp only[gH,List.getElem_map,List.getElem_range]
 rw[YS,Int.toNat_natCast,gP (by rw[List.length_map];exact h2),List.getElem_map,Int.toNat_natCast]
 have e:ws.flatten=(ws.take k).flatten++(ws[k]++(ws.drop (k+1)).flatten):=by
  conv=>lhs;rw[←List.take_append_drop k ws,List.drop_eq_getElem_cons h2]
  rw[List.flatten_append,List.flatten_cons]
 rw[e,List.drop_left' rfl,List.take_left' rfl]
theorem aJd {ws:List (List Int)} (hl: ∀v∈ws,uV v=true) (hp:ws.Pairwise (fun a b=> ¬Lt (om a) (om b))):bws ws.flatten=ws:=by
 unfold bws
 rw[aDz hl hp,List.length_map]
 exact aIr ws
end Go.Pure
namespace Go.Pure
open Go Go.Eng
section
variable {l:List Int}
def iK (l:List Int):List (List Int):=((dW (lfL l)).reverse).map (jV l)
theorem aBk (l:List Int):backL l (dW (lfL l))=(iK l).flatten:=rfl
theorem yE (hl:aO l) {c:List Int} (hc:c∈dW (lfL l)): ∃i:Int,(0≤i∧i<l.length)∧Ring (lfL l) i c∧rd c 0=i:=by
 obtain⟨i,h,r⟩:=(aAi (lW hl)).ring c hc
 rw[nC] at h
 exact⟨i,h,r,r.at_ 0 r.pos⟩
theorem aGg (hl:aO l): ∀v∈iK l,uV v=true:=fun v hv=>by
 obtain⟨c,hc,rfl⟩:=List.mem_map.1 hv
 obtain⟨i,h,r,_⟩:=yE hl (List.mem_reverse.1 hc)
 exact aLx hl h.1 h.2 r
theorem YI (hl:aO l):(iK l).Pairwise (fun a b=> ¬Lt (om a) (om b)):=by
 unfold iK
 rw[List.map_reverse]
 refine List.pairwise_reverse.2 (List.pairwise_map.2 ?_)
 refine List.Pairwise.imp_of_mem (fun {c d} hc hd h=> ?_) (aAi (lW hl)).heads
 obtain⟨i,hi,r,e⟩:=yE hl hc
 obtain⟨k,hk,q,f⟩:=yE hl hd
 rw[ES hl hi.1 hi.2 r,ES hl hk.1 hk.2 q]
 exact aRt hl hi.1 (by omega) hk.2
theorem JN (hl:aO l):bws (backL l (dW (lfL l)))=iK l:=by
 rw[aBk]
 exact aJd (aGg hl) (YI hl)
theorem bBw {ws:List (List Int)} {w:Int} {j:Nat}:tw ws (w,(j:Int))=fun d=>om (rdl ws w) (j+d):=by
 funext d
 unfold tw om
 simp only[Int.toNat_natCast]
theorem ML (hl:aO l) {i:Int} {c:List Int} (i0:0≤i) (hi:i<l.length) (hc:Ring (lfL l) i c):((List.range c.length).map fun j=>iL l j i).Perm c:=by
 have hpos:=hc.pos
 have hback: ∀j,j<c.length→iL l j i=rd c (((c.length-j)%c.length:Nat):Int):=fun j hj=>by
  rw[vD hl i0 hi hc (by omega)]
  rcases Nat.eq_zero_or_pos j with z|z
  ·subst z
   rw[Nat.sub_zero,hc.close,Nat.mod_self,hc.at_ 0 hpos]
   rfl
  ·rw[Nat.mod_eq_of_lt (by omega),hc.at_ _ (by omega)]
 refine pG ?_ (fun x hx=> ?_) (by simp)
 ·refine List.pairwise_map.2 (List.Pairwise.imp_of_mem (fun {a b} ha hb hab e=> ?_) List.nodup_range)
  have ha:=List.mem_range.1 ha
  have hb:=List.mem_range.1 hb
  rw[hback a ha,hback b hb] at e
  have h1:=Nat.mod_lt (c.length-a) hpos
  have h2:=Nat.mod_lt (c.length-b) hpos
  have:=jH hc.nodup (by omega) (by omega) (by omega) (by omega) e
  have e3:(c.length-a)%c.length=(c.length-b)%c.length:=by omega
  refine hab ?_
  rcases Nat.eq_zero_or_pos a with z|z
  ·rcases Nat.eq_zero_or_pos b with y|y
   ·omega
   ·rw[z,Nat.sub_zero,Nat.mod_self,Nat.mod_eq_of_lt (by omega)] at e3;omega
  ·rcases Nat.eq_zero_or_pos b with y|y
   ·rw[y,Nat.sub_zero,Nat.mod_self,Nat.mod_eq_of_lt (by omega)] at e3;omega
   ·rw[Nat.mod_eq_of_lt (by omega),Nat.mod_eq_of_lt (by omega)] at e3;omega
 ·obtain ⟨j,hj,rfl⟩:=List.mem_map.1 hx
  have hj:=List.mem_range.1 hj
  have h1:=Nat.mod_lt (c.length-j) hpos
  rw[hback j hj]
  exact bH (by omega) (by omega)
theorem wF (hl:aO l): ∀k:Nat,k≤(dW (lfL l)).length→((iJ (iK l) k).map (tw (iK l))).Perm (((((dW (lfL l)).reverse).take k).flatten).map (U l))
 |0,_=> .refl _
 | k+1,hk=>by
  have ih:=wF hl k (by omega)
  have hlt:k<(dW (lfL l)).reverse.length:=by rw[List.length_reverse];omega
  rw[iJ,List.map_append,List.take_add_one,List.getElem?_eq_getElem hlt,List.flatten_append,List.map_append]
  refine ih.append ?_
  simp only[Option.toList_some,List.flatten_cons,List.flatten_nil,List.append_nil]
  have hmem:(dW (lfL l)).reverse[k]∈dW (lfL l):=List.mem_reverse.1 (List.getElem_mem hlt)
  have hrw:rdl (iK l) (k:Int)=jV l (dW (lfL l)).reverse[k]:=by
   unfold rdl iK
   rw[Int.toNat_natCast,List.getD_eq_getElem?_getD,List.getElem?_map,List.getElem?_eq_getElem hlt]
   rfl
  generalize (dW (lfL l)).reverse[k]=c at hmem hrw
  obtain⟨i,hi,r,_⟩:=yE hl hmem
  have h1:=(ML hl hi.1 hi.2 r).map (U l)
  refine List.Perm.trans (.of_eq ?_) h1
  rw[hrw,mI]
  unfold turnsOf
  rw[List.map_map,List.map_map]
  refine List.map_congr_left fun j _=> ?_
  show tw (iK l) ((k:Int),(j:Int))=U l (iL l j i)
  rw[bBw,hrw,ES hl hi.1 hi.2 r]
  funext d
  rw[uR]
theorem AR (hl:aO l) {q:Int} (q0:0≤q) (hq:q<l.length): ∃m:Nat,0<m∧iL l m q=q:=by
 have hp:=BM (lW hl)
 obtain⟨c,hc,hqc⟩:=List.mem_flatten.1 (hp.symm.subset (aW.2 ⟨q0,by rw[nC];exact hq⟩))
 obtain⟨i,hi,r,_⟩:=yE hl hc
 obtain⟨j,hj,e⟩:=List.mem_map.1 ((ML hl hi.1 hi.2 r).symm.subset hqc)
 refine⟨c.length,r.pos,?_⟩
 rw[←e,←nG,Nat.add_comm,nG,FU hl hi.1 hi.2 r]
theorem TL {q:Int} {m:Nat} (h:iL l m q=q): ∀t:Nat,iL l (t*m) q=q
 |0=>by rw[Nat.zero_mul];rfl
 |t+1=>by rw[Nat.succ_mul,nG,TL h t,h]
theorem aBp {q:Int} {m t:Nat} (hm:iL l m q=q) (m0:0<m) (t0:0<t):U l q (m*t-1)=rd l q:=by
 have h:=TL hm t
 rw[Nat.mul_comm] at h
 have hpos:0<m*t:=Nat.mul_pos m0 t0
 have h2:=uR (l:=l) q (m*t-1) 0
 rw[Nat.add_zero,uQ] at h2
 rw[←h2]
 have h3:=nG (l:=l) q (m*t-1) 1
 rw[show m*t-1+1=m*t by omega,h] at h3
 rw[show phi l (iL l (m*t-1) q)=iL l 1 (iL l (m*t-1) q) from rfl,←h3]
theorem aFi (hl:aO l) {T:List (Int × Int)} (hp:T.Perm (iJ (bws (backL l (dW (lfL l)))) (bws (backL l (dW (lfL l)))).length)) (ho:T.Pairwise (pU (bws (backL l (dW (lfL l)))))):T.map (lastB (bws (backL l (dW (lfL l)))))=l:=by
 rw[JN hl] at hp ho ⊢
 have hlen:(iK l).length=(dW (lfL l)).length:=by unfold iK;rw[List.length_map,List.length_reverse]
 have h1:(T.map (tw (iK l))).Perm ((iota l.length).map (U l)):=by
  refine(hp.map _).trans ?_
  rw[hlen]
  refine(wF hl _ (Nat.le_refl _)).trans ?_
  rw[List.take_of_length_le (by rw[List.length_reverse];exact Nat.le_refl _)]
  have hc:=BM (lW hl)
  rw[nC] at hc
  exact(((List.reverse_perm _).flatten).trans hc).map _
 have s1:(T.map (tw (iK l))).Pairwise fun a b=> ¬Lt b a:=List.pairwise_map.2 (ho.imp fun {t u} h hlt=>by
  rcases h with h|h
  ·exact h.asymm hlt
  ·exact hlt.not_eq fun i=>(h.1 i).symm)
 have s2:((iota l.length).map (U l)).Pairwise fun a b=> ¬Lt b a:=List.pairwise_map.2 (List.Pairwise.imp_of_mem (fun {i k} hi hk h=>by
  have hi:=aW.1 hi
  have hk:=aW.1 hk
  exact aRt hl hi.1 (Int.le_of_lt h) hk.2) (yZ l.length))
 have same:T.map (tw (iK l))=(iota l.length).map (U l):=h1.eq_of_pairwise (fun a b _ _ x y=>by
  rcases II a b with z|z|z
  ·exact absurd z y
  ·exact funext z
  ·exact absurd z x) s1 s2
 have hTl:T.length=l.length:=by
  have:=congrArg List.length same
  rwa[List.length_map,List.length_map,bF] at this
 refine bI (by rw[List.length_map];exact hTl) fun q q0 q1=> ?_
 rw[List.length_map] at q1
 rw[aTh q0 q1]
 have hv:=yU.1 (hp.subset (lM (l:=T) q0 q1))
 have hU:tw (iK l) (rdp T q)=U l q:=by
  have e1:(T.map (tw (iK l)))[q.toNat]? =some (tw (iK l) (rdp T q)):=by
   rw[List.getElem?_map,List.getElem?_eq_getElem (by omega)]
   unfold rdp
   rw[List.getD_eq_getElem?_getD,List.getElem?_eq_getElem (by omega)]
   rfl
  have e2:((iota l.length).map (U l))[q.toNat]? =some (U l q):=by
   rw[List.getElem?_map,List.getElem?_eq_getElem (by rw[bF];omega)]
   have:=vF (n:=l.length) q0 (by omega)
   rw[eT q0 (by rw[bF];omega)] at this
   rw[this]
   rfl
  rw[same,e2] at e1
  exact(Option.some.inj e1).symm
 obtain⟨m,m0,hm⟩:=AR hl q0 (by omega:q<l.length)
 obtain⟨a1,a2,a3,a4⟩:=hv
 have hw0:0<(rdl (iK l) (rdp T q).1).length:=by omega
 generalize hwl:(rdl (iK l) (rdp T q).1).length=wl at hw0 a4
 have hlast:U l q (m*wl-1)=rd l q:=aBp hm m0 hw0
 rw[←hlast,←hU]
 have hpos:0<m*wl:=Nat.mul_pos m0 hw0
 unfold lastB tw rd
 rw[hwl]
 congr 1
 obtain⟨j,hj⟩: ∃j:Nat,(rdp T q).2=j:=⟨(rdp T q).2.toNat,by omega⟩
 rw[hj,Int.toNat_natCast,show(j:Int)+(wl:Int)-1=((j+wl-1:Nat):Int) by omega,←Int.natCast_emod,Int.toNat_natCast]
 have e:j+(m*wl-1)=(j+wl-1)+wl*(m-1):=by
  obtain⟨m',rfl⟩: ∃m',m=m'+1:=⟨m-1,by omega⟩
  rw[Nat.succ_mul,Nat.add_sub_cancel,Nat.mul_comm wl m']
  omega
 rw[e,Nat.add_mul_mod_self_left]
end
def aEr:List Int:=(List.range 256).map fun c:Nat=>(c:Int)
theorem MW {x:Int}:x∈aEr↔0≤x∧x<256:=by
 unfold aEr
 rw[List.mem_map]
 constructor
 ·rintro ⟨c,hc,rfl⟩
  have:=List.mem_range.1 hc
  omega
 ·intro h
  exact⟨x.toNat,List.mem_range.2 (by omega),by omega⟩
theorem WN:aEr.Nodup:=List.pairwise_map.2 (List.Pairwise.imp (fun h e=>h (by omega)) List.nodup_range)
def QJ:Nat→List (List Int)
 |0=>[[]]
 |n+1=>aEr.flatMap fun c=>(QJ n).map fun w=>c::w
theorem nH: ∀ {n:Nat} {w:List Int},w∈QJ n↔w.length=n∧aO w
 |0,w=>by
  rw[QJ,List.mem_singleton]
  exact⟨fun h=>by subst h;exact⟨rfl,fun x hx=>by cases hx⟩,fun h=>List.eq_nil_of_length_eq_zero h.1⟩
 | n+1,w=>by
  rw[QJ,List.mem_flatMap]
  constructor
  ·rintro ⟨c,hc,hw⟩
   obtain⟨v,hv,rfl⟩:=List.mem_map.1 hw
   have hv:=nH.1 hv
   refine⟨by simp[hv.1],fun x hx=> ?_⟩
   rcases List.mem_cons.1 hx with rfl|hx
   ·exact MW.1 hc
   ·exact hv.2 x hx
  ·rintro ⟨hl,hb⟩
   cases w with
   |nil=>simp at hl
   |cons c v=>exact⟨c,MW.2 (hb c (by simp)),List.mem_map.2 ⟨v,nH.2 ⟨by simpa using hl,fun x hx=>hb x (List.mem_cons_of_mem _ hx)⟩,rfl⟩⟩
theorem JV: ∀n:Nat,(QJ n).Nodup
 |0=>by rw[QJ];exact List.pairwise_singleton _ _
 |n+1=>by
  rw[QJ]
  refine List.pairwise_flatMap.2 ⟨fun c _=>List.pairwise_map.2 ((JV n).imp fun h e=>h (List.cons.inj e).2),WN.imp fun {c d} h x hx y hy e=> ?_⟩
  obtain⟨v,_,rfl⟩:=List.mem_map.1 hx
  obtain⟨w,_,rfl⟩:=List.mem_map.1 hy
  exact h (List.cons.inj e).1
theorem aRg {l k:List Int} (hl:aO l) (hk:aO k) (hlen:l.length=k.length) (h:backL l (dW (lfL l))=backL k (dW (lfL k))):l=k:=by
 have hw:iK l=iK k:=by rw[←JN hl,←JN hk,h]
 have all: ∀ {x:List Int},aO x→((iJ (iK x) (iK x).length).map (tw (iK x))).Perm ((iota x.length).map (U x)):=fun {x} hx=>by
  have hlx:(iK x).length=(dW (lfL x)).length:=by unfold iK;rw[List.length_map,List.length_reverse]
  rw[hlx]
  refine(wF hx _ (Nat.le_refl _)).trans ?_
  rw[List.take_of_length_le (by rw[List.length_reverse];exact Nat.le_refl _)]
  have hc:=BM (lW hx)
  rw[nC] at hc
  exact(((List.reverse_perm _).flatten).trans hc).map _
 have srt: ∀ {x:List Int},aO x→((iota x.length).map (U x)).Pairwise fun a b=> ¬Lt b a:=fun {x} hx=>List.pairwise_map.2 (List.Pairwise.imp_of_mem (fun {i k} hi hk h=>by
  have hi:=aW.1 hi
  have hk:=aW.1 hk
  exact aRt hx hi.1 (Int.le_of_lt h) hk.2) (yZ x.length))
 have h1:=all hl
 rw[hw] at h1
 have same:(iota l.length).map (U l)=(iota k.length).map (U k):=(h1.symm.trans (all hk)).eq_of_pairwise (fun a b _ _ x y=>by
  rcases II a b with z|z|z
  ·exact absurd z y
  ·exact funext z
  ·exact absurd z x) (srt hl) (srt hk)
 refine bI hlen fun q q0 q1=> ?_
 have at_: ∀ {x:List Int},q<x.length→((iota x.length).map (U x))[q.toNat]? =some (U x q):=fun {x} hx=>by
  rw[List.getElem?_map,List.getElem?_eq_getElem (by rw[bF];omega)]
  have:=vF (n:=x.length) q0 hx
  rw[eT q0 (by rw[bF];omega)] at this
  rw[this]
  rfl
 have e:=at_ q1
 rw[same,at_ (by omega)] at e
 have eU:U k q=U l q:=Option.some.inj e
 obtain⟨m,m0,hm⟩:=AR hl q0 q1
 obtain⟨m',m0',hm'⟩:=AR hk q0 (by omega:q<k.length)
 have a:=aBp hm m0 m0'
 have b:=aBp hm' m0' m0
 rw[Nat.mul_comm,eU,a] at b
 exact b
theorem aJn {s:List Int} (hs:aO s): ∃l:List Int,aO l∧l.length=s.length∧backL l (dW (lfL l))=s:=by
 have hp:((QJ s.length).map fun l=>backL l (dW (lfL l))).Perm (QJ s.length):=by
  refine pG ?_ (fun x hx=> ?_) (by simp)
  ·refine List.pairwise_map.2 (List.Pairwise.imp_of_mem (fun {a b} ha hb hab e=> ?_) (JV _))
   have ha:=nH.1 ha
   have hb:=nH.1 hb
   exact hab (aRg ha.2 hb.2 (by omega) e)
  ·obtain ⟨l,hl,rfl⟩:=List.mem_map.1 hx
   have hl:=nH.1 hl
   exact nH.2 ⟨by rw[aJo,VS (lW hl.2),nC,hl.1],aJp hl.2 _⟩
 obtain⟨l,hl,e⟩:=List.mem_map.1 (hp.symm.subset (nH.2 ⟨rfl,hs⟩))
 have hl:=nH.1 hl
 exact⟨l,hl.2,hl.1,e⟩
theorem NZ {s:List Int} (hs:aO s) {T:List (Int × Int)} (hp:T.Perm (iJ (bws s) (bws s).length)) (ho:T.Pairwise (pU (bws s))):backL (T.map (lastB (bws s))) (dW (lfL (T.map (lastB (bws s)))))=s:=by
 obtain⟨l,hl,_,e⟩:=aJn hs
 subst e
 rw[aFi hl hp ho]
end Go.Pure
namespace Go.Pure
open Go Go.Eng
variable {t o:Int} {n k:Nat} {u w:List Int}
noncomputable def kC (t o:Int) (n:Nat) (u:List Int) (k:Nat):List Int:=
 (((List.range (chK u.length n)).drop k).map fun j=>dN t o ((u.drop (j*n)).take n)).flatten++(bP 0++bP u.length)
theorem aGh (h:chK u.length n≤k):kC t o n u k=bP 0++bP u.length:=by
 unfold kC
 rw[List.drop_eq_nil_of_le (by rw[List.length_range];exact h)]
 rfl
theorem YK (h:k<chK u.length n):kC t o n u k=dN t o ((u.drop (k*n)).take n)++kC t o n u (k+1):=by
 unfold kC
 rw[List.drop_eq_getElem_cons (by rw[List.length_range];exact h),List.map_cons,List.flatten_cons,List.getElem_range,List.append_assoc]
theorem aIh (t so o sz:Int) (u:List Int):nR t so o sz u=[87,72,82,76,1]++([t,so,o]++(bP sz++kC t o sz.toNat u 0)):=by
 unfold nR kC kN
 rw[List.drop_zero]
 simp
theorem bAm {m:Nat} (hn:1≤n):k<chK m n↔k*n<m:=by
 unfold chK
 rw[Nat.lt_iff_add_one_le,Nat.le_div_iff_mul_le hn,Nat.add_mul,Nat.one_mul]
 omega
theorem aO.back {x y:List Int} (h:aO (x++y)):aO y:=fun z hz=>h z (List.mem_append_right _ hz)
theorem IW {so sz:Int} (hu:aO u) (hS:u.length≤400) (ht:0≤t∧t<256) (hs:0≤so∧so<256) (ho:0≤o∧o<256) (hz:1≤sz∧sz≤16777216):aO (nR t so o sz u)∧(nR t so o sz u).length≤400000:=by
 have e1:=lH (t:=t) (o:=o) (n:=sz.toNat) hu (by omega) (chK u.length sz.toNat)
 have e2:chK u.length sz.toNat≤u.length:=aAv (by omega)
 have e3:(2*u.length+22)*chK u.length sz.toNat≤822*400:=Nat.mul_le_mul (by omega) (by omega)
 have e4:=eG 4 sz (by omega)
 have e5:=eG 4 (u.length:Int) (by omega)
 have e6:(bP 0).length=1:=rfl
 unfold nR
 refine⟨fun x hx=> ?_,by simp only[List.length_append,List.length_cons,List.length_nil];omega⟩
 rcases List.mem_append.1 hx with hx|hx
 ·rcases List.mem_append.1 hx with hx|hx
  ·rcases List.mem_append.1 hx with hx|hx
   ·simp only[List.cons_append,List.nil_append,List.mem_cons,List.not_mem_nil,or_false] at hx
    omega
   ·exact eZ (by omega) x hx
  ·exact e1.2 x hx
 ·rcases List.mem_append.1 hx with hx|hx
  ·exact eZ (by omega) x hx
  ·exact eZ (by omega) x hx
def pV (w:List Int) (n k:Nat):List Int:=(w.drop (k*n)).take n
theorem aQv (w:List Int) (n k:Nat):(pV w n k).length=min n (w.length-k*n):=by unfold pV;rw[List.length_take,List.length_drop]
theorem aJa (w:List Int) (n k:Nat):w.take ((k+1)*n)=w.take (k*n)++pV w n k:=by
 unfold pV
 rw[Nat.add_mul,Nat.one_mul,List.take_add]
theorem aAt (h:aO w) (n k:Nat):aO (pV w n k):=(h.drop _).take _
noncomputable def mE (t o:Int) (b r:List Int):List Int:=(kW t b).1++(bP (dK (kW t b).2 o).length++(iF (bv (jT b))++(dK (kW t b).2 o++r)))
theorem YL (h:k<chK w.length n):kC t o n w k=bP (pV w n k).length++mE t o (pV w n k) (kC t o n w (k+1)):=by
 rw[YK h]
 unfold dN mE pV
 simp only[List.append_assoc]
theorem SH {α:Type} {r:α→α→Prop} (tr: ∀a b c,r a b→r b c→r a c) (a:α): ∀m:List α,m.Pairwise r→(∀b∈m,r a b∨r b a)→ ∃m':List α,m'.Perm (a::m)∧m'.Pairwise r
 |[],_,_=>⟨[a], .refl _,List.pairwise_singleton _ _⟩
 | b::m,hm,hr=>by
  obtain⟨h1,h2⟩:=List.pairwise_cons.1 hm
  rcases hr b (by simp) with h|h
  ·exact⟨a::b::m, .refl _,List.pairwise_cons.2 ⟨fun c hc=>by
    rcases List.mem_cons.1 hc with rfl|hc
    ·exact h
    ·exact tr _ _ _ h (h1 c hc),hm⟩⟩
  ·obtain ⟨m',hp,hs⟩:=SH tr a m h2 fun c hc=>hr c (List.mem_cons_of_mem _ hc)
   refine⟨b::m',(hp.cons b).trans (.swap a b m),List.pairwise_cons.2 ⟨fun c hc=> ?_,hs⟩⟩
   rcases List.mem_cons.1 (hp.subset hc) with rfl|hc
   ·exact h
   ·exact h1 c hc
theorem SI {α:Type} {r:α→α→Prop} (tr: ∀a b c,r a b→r b c→r a c): ∀l:List α,(l.Pairwise fun a b=>r a b∨r b a)→ ∃m:List α,m.Perm l∧m.Pairwise r
 |[],_=>⟨[], .refl _, .nil⟩
 |a::l,h=>by
  obtain⟨h1,h2⟩:=List.pairwise_cons.1 h
  obtain⟨m,hp,hs⟩:=SI tr l h2
  obtain⟨m',hp',hs'⟩:=SH tr a m hs fun b hb=>h1 b (hp.subset hb)
  exact⟨m',hp'.trans (hp.cons a),hs'⟩
theorem aNa {ws:List (List Int)} {t u:Int × Int} (h:t≠u):pU ws t u∨pU ws u t:=by
 rcases II (tw ws t) (tw ws u) with a|a|a
 ·exact .inl (.inl a)
 ·have hd:t.1≠u.1∨t.2≠u.2:=by
   rcases Int.decEq t.1 u.1 with c|c
   ·exact .inl c
   ·exact .inr fun e=>h (Prod.ext c e)
  have:ltI t u∨ltI u t:=by unfold ltI;omega
  rcases this with g|g
  ·exact .inl (.inr ⟨a,g⟩)
  ·exact .inr (.inr ⟨fun i=>(a i).symm,g⟩)
 ·exact .inr (.inl a)
theorem KQ (ws:List (List Int)): ∃T:List (Int × Int),T.Perm (iJ ws ws.length)∧T.Pairwise (pU ws):=
 SI (r:=pU ws) (fun _ _ _ h g=>YX h g) _ ((tH ws _).imp fun h=>aNa h)
end Go.Pure
namespace Go.Proofs.YtdbebmmhdefgdaaGreat
open Go Go.Eng Go.Pure
open Tryz
set_option maxRecDepth 100000
variable {B g gc nt ct n_l c_l n_u c_u:Nat} {w0:World} {R X R0:List Row} {At A_l A_u:Option Addr} {p1 p2 p3 ms tt ls:Int} {l b u s t:List Int}
theorem aRl (h_l:RdC B w0 R A_l n_l c_l 1 (ints .u8 l)) (hn_l:n_l=l.length):
  Ct Tryz.prog 161 #[.pointer (GG g), .slice A_l n_l c_l, .slice none 0 0] B w0 ((rc 87 10 g [.pointer (GG gc),I 0,I p1,I p2,I p3,I ms,I tt,I ls, .slice At nt ct, .slice none 0 0])::R) (fun v R'=>v= .tuple #[.slice A_l n_l c_l,I 0]∧R'=(rc 87 10 g [.pointer (GG gc),I 0,I p1,I p2,I p3,I ms,I tt,I ls, .slice At nt ct, .slice none 0 0])::R):=by
 subst hn_l
 refine fn2 Tryz.func161 Z Z Z ?_
 refine wq<|wg Z<|wn Z<|aG<|wq<|wm Z<|wy (aD Z)<|wy (aB (off:=1) (m:=1) underlying87 Z gI Z Z Z)<|wy (aB (off:=0) (m:=1) underlying27 Z sz3 Z Z Z)<|wy (aJ (rdr 0 Z) underlying3 Z Z Z)<|aA<|aI ?_
 refine wq<|wy (Yl.f (bC Z Z) (by decide))<|wn Z<|aL Z<|wq<|wy (Yl.f (bC Z Z) (by decide))<|wn Z<|aL Z<|wq<|wy (Yl.f (bC Z Z) (by decide)) ?_
 refine wn Z<|aL Z<|aK<|wq<|wm Z<|wg Z<|wn Z<|bR (R1:=((rc 87 10 g [.pointer (GG gc),I 0,I p1,I p2,I p3,I ms,I tt,I ls, .slice At nt ct, .slice none 0 0])::R)) (fun _ h=>h) ?_
 refine⟨_,_,Z,Z,?_⟩
 exact⟨Z,Z⟩
theorem aRk {A_m:Option Addr} {c_m:Nat} {at_:Int} (h_l:RdC B w0 R A_l n_l c_l 1 (ints .u8 l)) (hn_l:n_l=l.length) (h_m:RdC B w0 R A_m 1 c_m 1 (ints .i64 [at_])) (bh_l:aO l) (hok:aJt l at_) (hb:lI l at_=b) (hN:l.length≤100000):
  Ct Tryz.prog 161 #[.pointer (GG g), .slice A_l n_l c_l, .slice A_m 1 c_m] B w0 ((rc 87 10 g [.pointer (GG gc),I 1,I p1,I p2,I p3,I ms,I tt,I ls, .slice At nt ct, .slice none 0 0])::R) (fun v R'=> ∃(A8:Option Addr) (c8:Nat),v= .tuple #[.slice A8 b.length c8,I 0]∧R'=(ru 5 A8 b.length c8 b)::(rc 87 10 g [.pointer (GG gc),I 1,I p1,I p2,I p3,I ms,I tt,I ls, .slice At nt ct, .slice none 0 0])::R):=by
 subst hn_l
 refine fn2 Tryz.func161 Z Z Z ?_
 refine wq<|wg Z<|wn Z<|aG<|wq<|wm Z<|wy (aD Z)<|wy (aB (off:=1) (m:=1) underlying87 Z gI Z Z Z)<|wy (aB (off:=0) (m:=1) underlying27 Z sz3 Z Z Z)<|wy (aJ (rdr 0 Z) underlying3 Z Z Z)<|aA<|aI ?_
 refine wq<|wy (Yl.t (bC Z Z) (by decide))<|wn Z<|bO Z<|wq<|wm Z<|wm Z<|wy (aH underlying52 sz3 Z Z (RdC.right h_m [_]) (by first|decide|omega) (by first|decide|omega)) ?_
 refine wy (aX underlying3 Z Z (RdC.right h_m [_]) (by first|decide|omega) (by first|decide|omega)) ?_
 refine wa (aF aXz Z (Ct.fresh (fun w hw=>WT ((RdC.right h_l [_]) w hw) bh_l hok hN))) ?_
 rintro _ _ ⟨_,rfl,A_1,c_2,rfl,rfl⟩
 refine wX Z Z<|wX Z Z<|wg Z<|wn Z<|bR (R1:=((ru 5 A_1 l.length c_2 (lI l (rd ([at_]) 0)))::(rc 87 10 g [.pointer (GG gc),I 1,I p1,I p2,I p3,I ms,I tt,I ls, .slice At nt ct, .slice none 0 0])::R)) (fun _ h=>h) ?_
 refine⟨_,_,Z,Z,?_⟩
 have hbl:l.length=b.length:=by rw[←hb,rF]
 rw[hbl]
 have hb2:lI l (rd [at_] 0)=b:=hb
 rw[hb2]
 exact⟨_,_,Z,Z⟩
theorem aRj (h_l:RdC B w0 R A_l n_l c_l 1 (ints .u8 l)) (hn_l:n_l=l.length) (bh_l:aO l) (hb:backL l (dW (fsL l))=b) (hN:l.length≤100000):
  Ct Tryz.prog 161 #[.pointer (GG g), .slice A_l n_l c_l, .slice none 0 0] B w0 ((rc 87 10 g [.pointer (GG gc),I 2,I p1,I p2,I p3,I ms,I tt,I ls, .slice At nt ct, .slice none 0 0])::R) (fun v R'=> ∃(A8:Option Addr) (c8:Nat),v= .tuple #[.slice A8 b.length c8,I 0]∧R'=(ru 5 A8 b.length c8 b)::(rc 87 10 g [.pointer (GG gc),I 2,I p1,I p2,I p3,I ms,I tt,I ls, .slice At nt ct, .slice none 0 0])::R):=by
 subst hn_l
 refine fn2 Tryz.func161 Z Z Z ?_
 refine wq<|wg Z<|wn Z<|aG<|wq<|wm Z<|wy (aD Z)<|wy (aB (off:=1) (m:=1) underlying87 Z gI Z Z Z)<|wy (aB (off:=0) (m:=1) underlying27 Z sz3 Z Z Z)<|wy (aJ (rdr 0 Z) underlying3 Z Z Z)<|aA<|aI ?_
 refine wq<|wy (Yl.f (bC Z Z) (by decide))<|wn Z<|aL Z<|wq<|wy (Yl.t (bC Z Z) (by decide))<|wn Z<|bO Z<|wq<|wm Z ?_
 refine wa (aF aXy Z (Ct.fresh (fun w hw=>JQ ((RdC.right h_l [_]) w hw) bh_l hN))) ?_
 rintro _ _ ⟨_,rfl,A_1,c_2,rfl,rfl⟩
 refine wX Z Z<|wX Z Z<|wg Z<|wn Z<|bR (R1:=((ru 5 A_1 ((backL l (dW (fsL l))).length) c_2 (backL l (dW (fsL l))))::(rc 87 10 g [.pointer (GG gc),I 2,I p1,I p2,I p3,I ms,I tt,I ls, .slice At nt ct, .slice none 0 0])::R)) (fun _ h=>h) ?_
 refine⟨_,_,Z,Z,?_⟩
 rw[hb]
 exact⟨_,_,Z,Z⟩
set_option maxHeartbeats 2000000 in
theorem aBg (h_u:RdC B w0 R0 A_u n_u c_u 1 (ints .u8 u)) (hn_u:n_u=u.length) (hN:u.length≤1000000) (bh_u:aO u) (hn_t:nt=s.length) (hu:u=mE 0 p2 b t) (bh_b:aO b) (hbs:b.length≤100000∧s.length≤100000) (hf:((b.length:Nat):Int)≤p3∧((b.length:Nat):Int)≤ms-tt) (hp2:p2=0∨p2=1) (hb:(-1000000≤ms∧ms≤1000000)∧(0≤tt∧tt≤1000000)):
  Ct Tryz.prog 91 #[.pointer (GG g),I ((b.length:Nat):Int)] B w0 ((rc 87 10 g [.pointer (GG gc),I 0,I p1,I p2,I p3,I ms,I tt,I ls, .slice At nt ct, .slice none 0 0])::(rc 146 1 gc [.slice A_u n_u c_u])::(ru 5 At nt ct s)::(X++R0)) (fun v R'=> ∃(A7:Option Addr) (c7:Nat),∃(A9:Option Addr) (c9:Nat),RdC B w0 R0 A9 (t).length c9 1 (ints .u8 (t))∧v=I 0∧R'=(rc 87 10 g [.pointer (GG gc),I 0,I p1,I p2,I p3,I ms,I (tt+((b.length:Nat):Int)),I ls, .slice A7 ((s++b).length) c7, .slice none 0 0])::(rc 146 1 gc [.slice A9 ((t).length) c9])::(ru 5 A7 ((s++b).length) c7 (s++b))::(X++R0)):=by
 subst hn_u
 subst hn_t
 rw[mE,RJ (t:=0) (by decide) (by decide)] at hu
 dsimp only at hu
 rw[List.nil_append] at hu
 have hLl:b.length=b.length:=rfl
 have hul:=congrArg List.length hu
 simp only[List.length_append] at hul
 have hbb:=bh_u
 rw[hu] at hbb
 have hcs:0≤bv (jT b)∧bv (jT b)<4294967296:=⟨by unfold bv;omega,by unfold bv;have:=(jT b).isLt;omega⟩
 refine fn1 Tryz.func91 Z Z Z ?_
 refine wq<|wn Z<|aG<|wq<|wm Z<|wm Z<|wa (aF aPs Z (Ct.at 0 Z (ZI hf.1 (by omega)))) ?_
 rintro _ _ ⟨rfl,rfl⟩
 refine kK 13 Z (by omega)<|wy (dI Z)<|aA<|aL Z<|aK<|wq<|wm Z<|wy (aD Z)<|wy (aB (off:=6) (m:=6) underlying87 Z sz3 Z Z Z)<|wy (aJ (rdr 0 Z) underlying3 Z Z Z)<|wm Z<|wA Z Z<|wy (aD Z)<|wy (aB (off:=6) (m:=6) underlying87 Z sz3 Z Z Z) ?_
 refine bY (aY 0 Z Z Z sz3 Z Z Z Z (Nat.le_of_ble_eq_true Z)) ?_
 rintro _ _ rfl
 refine aA<|wq<|wm Z<|wm Z<|wa (aF aPr Z (Ct.at 0 Z (aHa))) ?_
 rintro _ _ ⟨rfl,rfl⟩
 refine wm Z<|wX Z Z<|wX Z Z<|wg Z<|wn Z<|aG<|wq<|wm Z<|wy (dI Z)<|aA<|aL Z<|aK<|aG ?_
 refine aM<|wm Z<|wm Z<|wa (aF aPq Z ((BB (X:=([(ru 5 At s.length ct s)]++X)) (R0:=R0) (x:=bv (jT b)) (l:=b) (t:=t) h_u Z (by omega) bh_u hcs hp2 bh_b (by omega) hu))) ?_
 rintro _ _ ⟨A_4,c_5,A_1,c_2,hr_3,rfl,rfl⟩
 refine wm Z<|wX Z Z<|wX Z Z<|wX Z Z<|wg Z<|wg Z<|wn Z<|aG<|wq<|wm Z<|wy (dI Z)<|aA<|aL Z ?_
 refine aK<|wq<|wm Z<|wm Z<|wm Z<|wa (aF aPp Z (Ct.pick [1,0,2,3] 4 (by decide) Z (aRl (rdr 0 Z) Z))) ?_
 rintro _ _ ⟨rfl,rfl⟩
 refine wm Z<|wX Z Z<|wX Z Z<|wg Z<|wn Z<|aG<|wq<|wm Z<|wy (Yl.f (jA Z Z) (by decide))<|aA<|aL Z<|aK<|aG ?_
 refine wq<|wa (aF aIk Z (Ct.fresh (fun w hw=>oL))) ?_
 rintro _ _ ⟨_,rfl,g_6,rfl,rfl⟩
 refine wm Z<|wa (nN [Value.slice A_4 ((b).length) c_5] underlying23 xG Z Z Z Z) ?_
 rintro _ _ ⟨g_8,rfl,rfl⟩
 refine wa (aF aIj Z (Ct.at 1 Z (oJ (ls:=[b]) (.inl ⟨Z,Z,List.length_replicate ..,by omega⟩) (rdr 0 rfl) rfl (xD.one (l:=b) (rdr 2 rfl) bh_b (by first|rfl|simp|(simp[upd];done))) (Big.one (by first|omega|decide|simp))))) ?_
 rintro _ _ ⟨rfl,rfl⟩
 refine wm Z<|wy (Yl.f (aJz (p:=jT ([b]).flatten) (q:=jT b) Z Z) (fun h=>h (by simp))) ?_
 refine aA<|aL Z<|aK<|aG<|wq<|wm Z<|wy (aD Z)<|wy (aB (off:=1) (m:=1) underlying87 Z gI Z Z Z)<|wy (aB (off:=0) (m:=1) underlying27 Z sz3 Z Z Z)<|wy (aJ (rdr 2 Z) underlying3 Z Z Z)<|wy (Yl.t (jA Z Z) (by decide))<|aA<|bO Z<|aM ?_
 refine wm Z<|wm Z<|wy (aD Z)<|wy (aB (off:=8) (m:=8) underlying87 Z AJ Z Z Z)<|wy (aB (off:=0) (m:=8) underlying25 Z dO Z Z Z)<|wy (aJ (rdr 2 Z) underlying22 Z Z Z)<|wm Z<|wa (bE 5 Z underlying22 zb5 Z Z Z (rdr 3 Z)) ?_
 rintro _ _ ⟨A_9,c_10,rfl,rfl⟩
 refine bN (v:= .slice A_9 (s.length+((b).length)) c_10) Z<|wy (aD Z)<|wy (aB (off:=8) (m:=8) underlying87 Z AJ Z Z Z)<|wy (aB (off:=0) (m:=8) underlying25 Z dO Z Z Z)<|bY (aY 2 Z Z Z dO Z Z Z Z (Nat.le_of_ble_eq_true Z)) ?_
 rintro _ _ rfl
 refine aA<|wq<|wn Z<|aT [2,4,5] 6 (by decide) Z ?_
 refine⟨_,Z,?_⟩
 have hsb:s.length+b.length=(s++b).length:=by rw[List.length_append]
 rw[hsb]
 exact⟨_,_,_,_,hr_3,Z,Z⟩
set_option maxHeartbeats 2000000 in
theorem aBf (h_u:RdC B w0 R0 A_u n_u c_u 1 (ints .u8 u)) (hn_u:n_u=u.length) (hN:u.length≤1000000) (bh_u:aO u) (hn_t:nt=s.length) (hu:u=mE 1 p2 b t) (bh_b:aO b) (hbs:b.length≤100000∧s.length≤100000) (hf:((b.length:Nat):Int)≤p3∧((b.length:Nat):Int)≤ms-tt) (hp2:p2=0∨p2=1) (hb:(-1000000≤ms∧ms≤1000000)∧(0≤tt∧tt≤1000000)):
  Ct Tryz.prog 91 #[.pointer (GG g),I ((b.length:Nat):Int)] B w0 ((rc 87 10 g [.pointer (GG gc),I 1,I p1,I p2,I p3,I ms,I tt,I ls, .slice At nt ct, .slice none 0 0])::(rc 146 1 gc [.slice A_u n_u c_u])::(ru 5 At nt ct s)::(X++R0)) (fun v R'=> ∃(A7:Option Addr) (c7:Nat),∃(A9:Option Addr) (c9:Nat),RdC B w0 R0 A9 (t).length c9 1 (ints .u8 (t))∧v=I 0∧R'=(rc 87 10 g [.pointer (GG gc),I 1,I p1,I p2,I p3,I ms,I (tt+((b.length:Nat):Int)),I ls, .slice A7 ((s++b).length) c7, .slice none 0 0])::(rc 146 1 gc [.slice A9 ((t).length) c9])::(ru 5 A7 ((s++b).length) c7 (s++b))::(X++R0)):=by
 subst hn_u
 subst hn_t
 obtain⟨a,hpa,hsa⟩:=nW b
 rw[mE,RL hpa hsa] at hu
 have hz:=nT hpa hsa
 have hz2:=FR (s:=b) (k:=0) (by omega)
 dsimp only at hu
 have hLl:(ofL b a).length=b.length:=(yL hpa hsa).length_eq
 have hul:=congrArg List.length hu
 simp only[List.length_append] at hul
 have hbb:=bh_u
 rw[hu] at hbb
 have hcs:0≤bv (jT b)∧bv (jT b)<4294967296:=⟨by unfold bv;omega,by unfold bv;have:=(jT b).isLt;omega⟩
 refine fn1 Tryz.func91 Z Z Z ?_
 refine wq<|wn Z<|aG<|wq<|wm Z<|wm Z<|wa (aF aPs Z (Ct.at 0 Z (ZH hf.1 (by omega)))) ?_
 rintro _ _ ⟨rfl,rfl⟩
 refine kK 13 Z (by omega)<|wy (dI Z)<|aA<|aL Z<|aK<|wq<|wm Z<|wy (aD Z)<|wy (aB (off:=6) (m:=6) underlying87 Z sz3 Z Z Z)<|wy (aJ (rdr 0 Z) underlying3 Z Z Z)<|wm Z<|wA Z Z<|wy (aD Z)<|wy (aB (off:=6) (m:=6) underlying87 Z sz3 Z Z Z) ?_
 refine bY (aY 0 Z Z Z sz3 Z Z Z Z (Nat.le_of_ble_eq_true Z)) ?_
 rintro _ _ rfl
 refine aA<|wq<|wm Z<|wm Z<|wa (aF aPr Z ((aGz (X:=([(ru 5 At s.length ct s)]++X)) (R0:=R0) (at_:=(zat a)) (t:=bP ((dK (ofL b a) p2).length:Int)++(iF (bv (jT b))++(dK (ofL b a) p2++t))) h_u Z (by omega) (by assumption) (by omega) hu))) ?_
 rintro _ _ ⟨A_4,A_1,c_2,hr_3,rfl,rfl⟩
 refine wm Z<|wX Z Z<|wX Z Z<|wg Z<|wn Z<|aG<|wq<|wm Z<|wy (dI Z)<|aA<|aL Z<|aK<|aG ?_
 refine aM<|wm Z<|wm Z<|wa (aF aPq Z (Ct.pick [1,2,0,3] 4 (by decide) Z (BB (X:=([(ri 3 A_4 1 1 ([(zat a)])),(ru 5 At s.length ct s)]++X)) (R0:=R0) (x:=bv (jT b)) (l:=(ofL b a)) (t:=t) hr_3 Z (by simp only[List.length_append];omega) (aO.back hbb) hcs hp2 (vJ bh_b hpa) (by omega) Z))) ?_
 rintro _ _ ⟨A_8,c_9,A_5,c_6,hr_7,rfl,rfl⟩
 refine wm Z<|wX Z Z<|wX Z Z<|wX Z Z<|wg Z<|wg Z<|wn Z<|aG<|wq<|wm Z<|wy (dI Z)<|aA<|aL Z ?_
 refine aK<|wq<|wm Z<|wm Z<|wm Z<|wa (aF aPp Z (Ct.pick [1,0,2,3,4] 5 (by decide) Z (aRk (rdr 0 Z) Z (rdr 2 Z) (vJ bh_b hpa) (tF bh_b hpa hsa).1 (tF bh_b hpa hsa).2 (by omega)))) ?_
 rintro _ _ ⟨A_10,c_11,rfl,rfl⟩
 refine wm Z<|wX Z Z<|wX Z Z<|wg Z<|wn Z<|aG<|wq<|wm Z<|wy (Yl.f (jA Z Z) (by decide))<|aA<|aL Z<|aK<|aG ?_
 refine wq<|wa (aF aIk Z (Ct.fresh (fun w hw=>oL))) ?_
 rintro _ _ ⟨_,rfl,g_12,rfl,rfl⟩
 refine wm Z<|wa (nN [Value.slice A_10 ((b).length) c_11] underlying23 xG Z Z Z Z) ?_
 rintro _ _ ⟨g_14,rfl,rfl⟩
 refine wa (aF aIj Z (Ct.at 1 Z (oJ (ls:=[b]) (.inl ⟨Z,Z,List.length_replicate ..,by omega⟩) (rdr 0 rfl) rfl (xD.one (l:=b) (rdr 1 rfl) bh_b (by first|rfl|simp|(simp[upd];done))) (Big.one (by first|omega|decide|simp))))) ?_
 rintro _ _ ⟨rfl,rfl⟩
 refine wm Z<|wy (Yl.f (aJz (p:=jT ([b]).flatten) (q:=jT b) Z Z) (fun h=>h (by simp))) ?_
 refine aA<|aL Z<|aK<|aG<|wq<|wm Z<|wy (aD Z)<|wy (aB (off:=1) (m:=1) underlying87 Z gI Z Z Z)<|wy (aB (off:=0) (m:=1) underlying27 Z sz3 Z Z Z)<|wy (aJ (rdr 3 Z) underlying3 Z Z Z)<|wy (Yl.t (jA Z Z) (by decide))<|aA<|bO Z<|aM ?_
 refine wm Z<|wm Z<|wy (aD Z)<|wy (aB (off:=8) (m:=8) underlying87 Z AJ Z Z Z)<|wy (aB (off:=0) (m:=8) underlying25 Z dO Z Z Z)<|wy (aJ (rdr 3 Z) underlying22 Z Z Z)<|wm Z<|wa (bE 7 Z underlying22 zb5 Z Z Z (rdr 2 Z)) ?_
 rintro _ _ ⟨A_15,c_16,rfl,rfl⟩
 refine bN (v:= .slice A_15 (s.length+((b).length)) c_16) Z<|wy (aD Z)<|wy (aB (off:=8) (m:=8) underlying87 Z AJ Z Z Z)<|wy (aB (off:=0) (m:=8) underlying25 Z dO Z Z Z)<|bY (aY 3 Z Z Z dO Z Z Z Z (Nat.le_of_ble_eq_true Z)) ?_
 rintro _ _ rfl
 refine aA<|wq<|wn Z<|aT [3,5,7] 8 (by decide) Z ?_
 refine⟨_,Z,?_⟩
 have hsb:s.length+b.length=(s++b).length:=by rw[List.length_append]
 rw[hsb]
 exact⟨_,_,_,_,hr_7,Z,Z⟩
set_option maxHeartbeats 2000000 in
theorem aBe (h_u:RdC B w0 R0 A_u n_u c_u 1 (ints .u8 u)) (hn_u:n_u=u.length) (hN:u.length≤1000000) (bh_u:aO u) (hn_t:nt=s.length) (hu:u=mE 2 p2 b t) (bh_b:aO b) (hbs:b.length≤100000∧s.length≤100000) (hf:((b.length:Nat):Int)≤p3∧((b.length:Nat):Int)≤ms-tt) (hp2:p2=0∨p2=1) (hb:(-1000000≤ms∧ms≤1000000)∧(0≤tt∧tt≤1000000)):
  Ct Tryz.prog 91 #[.pointer (GG g),I ((b.length:Nat):Int)] B w0 ((rc 87 10 g [.pointer (GG gc),I 2,I p1,I p2,I p3,I ms,I tt,I ls, .slice At nt ct, .slice none 0 0])::(rc 146 1 gc [.slice A_u n_u c_u])::(ru 5 At nt ct s)::(X++R0)) (fun v R'=> ∃(A7:Option Addr) (c7:Nat),∃(A9:Option Addr) (c9:Nat),RdC B w0 R0 A9 (t).length c9 1 (ints .u8 (t))∧v=I 0∧R'=(rc 87 10 g [.pointer (GG gc),I 2,I p1,I p2,I p3,I ms,I (tt+((b.length:Nat):Int)),I ls, .slice A7 ((s++b).length) c7, .slice none 0 0])::(rc 146 1 gc [.slice A9 ((t).length) c9])::(ru 5 A7 ((s++b).length) c7 (s++b))::(X++R0)):=by
 subst hn_u
 subst hn_t
 obtain⟨T,hpT,hsT⟩:=KQ (bws b)
 rw[mE,RN hpT hsT] at hu
 dsimp only at hu
 rw[List.nil_append] at hu
 have hLl:(T.map (lastB (bws b))).length=b.length:=by rw[List.length_map,zO hpT]
 have hul:=congrArg List.length hu
 simp only[List.length_append] at hul
 have hbb:=bh_u
 rw[hu] at hbb
 have hcs:0≤bv (jT b)∧bv (jT b)<4294967296:=⟨by unfold bv;omega,by unfold bv;have:=(jT b).isLt;omega⟩
 refine fn1 Tryz.func91 Z Z Z ?_
 refine wq<|wn Z<|aG<|wq<|wm Z<|wm Z<|wa (aF aPs Z (Ct.at 0 Z (ZG hf.1 (by omega)))) ?_
 rintro _ _ ⟨rfl,rfl⟩
 refine kK 13 Z (by omega)<|wy (dI Z)<|aA<|aL Z<|aK<|wq<|wm Z<|wy (aD Z)<|wy (aB (off:=6) (m:=6) underlying87 Z sz3 Z Z Z)<|wy (aJ (rdr 0 Z) underlying3 Z Z Z)<|wm Z<|wA Z Z<|wy (aD Z)<|wy (aB (off:=6) (m:=6) underlying87 Z sz3 Z Z Z) ?_
 refine bY (aY 0 Z Z Z sz3 Z Z Z Z (Nat.le_of_ble_eq_true Z)) ?_
 rintro _ _ rfl
 refine aA<|wq<|wm Z<|wm Z<|wa (aF aPr Z (Ct.at 0 Z (aGy))) ?_
 rintro _ _ ⟨rfl,rfl⟩
 refine wm Z<|wX Z Z<|wX Z Z<|wg Z<|wn Z<|aG<|wq<|wm Z<|wy (dI Z)<|aA<|aL Z<|aK<|aG ?_
 refine aM<|wm Z<|wm Z<|wa (aF aPq Z ((BB (X:=([(ru 5 At s.length ct s)]++X)) (R0:=R0) (x:=bv (jT b)) (l:=(T.map (lastB (bws b)))) (t:=t) h_u Z (by omega) bh_u hcs hp2 (lC hpT (by rw[nK];exact bh_b)) (by omega) hu))) ?_
 rintro _ _ ⟨A_4,c_5,A_1,c_2,hr_3,rfl,rfl⟩
 refine wm Z<|wX Z Z<|wX Z Z<|wX Z Z<|wg Z<|wg Z<|wn Z<|aG<|wq<|wm Z<|wy (dI Z)<|aA<|aL Z ?_
 refine aK<|wq<|wm Z<|wm Z<|wm Z<|wa (aF aPp Z (Ct.pick [1,0,2,3] 4 (by decide) Z (aRj (rdr 0 Z) Z (lC hpT (by rw[nK];exact bh_b)) (NZ bh_b hpT hsT) (by omega)))) ?_
 rintro _ _ ⟨A_6,c_7,rfl,rfl⟩
 refine wm Z<|wX Z Z<|wX Z Z<|wg Z<|wn Z<|aG<|wq<|wm Z<|wy (Yl.f (jA Z Z) (by decide))<|aA<|aL Z<|aK<|aG ?_
 refine wq<|wa (aF aIk Z (Ct.fresh (fun w hw=>oL))) ?_
 rintro _ _ ⟨_,rfl,g_8,rfl,rfl⟩
 refine wm Z<|wa (nN [Value.slice A_6 ((b).length) c_7] underlying23 xG Z Z Z Z) ?_
 rintro _ _ ⟨g_10,rfl,rfl⟩
 refine wa (aF aIj Z (Ct.at 1 Z (oJ (ls:=[b]) (.inl ⟨Z,Z,List.length_replicate ..,by omega⟩) (rdr 0 rfl) rfl (xD.one (l:=b) (rdr 1 rfl) bh_b (by first|rfl|simp|(simp[upd];done))) (Big.one (by first|omega|decide|simp))))) ?_
 rintro _ _ ⟨rfl,rfl⟩
 refine wm Z<|wy (Yl.f (aJz (p:=jT ([b]).flatten) (q:=jT b) Z Z) (fun h=>h (by simp))) ?_
 refine aA<|aL Z<|aK<|aG<|wq<|wm Z<|wy (aD Z)<|wy (aB (off:=1) (m:=1) underlying87 Z gI Z Z Z)<|wy (aB (off:=0) (m:=1) underlying27 Z sz3 Z Z Z)<|wy (aJ (rdr 3 Z) underlying3 Z Z Z)<|wy (Yl.t (jA Z Z) (by decide))<|aA<|bO Z<|aM ?_
 refine wm Z<|wm Z<|wy (aD Z)<|wy (aB (off:=8) (m:=8) underlying87 Z AJ Z Z Z)<|wy (aB (off:=0) (m:=8) underlying25 Z dO Z Z Z)<|wy (aJ (rdr 3 Z) underlying22 Z Z Z)<|wm Z<|wa (bE 6 Z underlying22 zb5 Z Z Z (rdr 2 Z)) ?_
 rintro _ _ ⟨A_11,c_12,rfl,rfl⟩
 refine bN (v:= .slice A_11 (s.length+((b).length)) c_12) Z<|wy (aD Z)<|wy (aB (off:=8) (m:=8) underlying87 Z AJ Z Z Z)<|wy (aB (off:=0) (m:=8) underlying25 Z dO Z Z Z)<|bY (aY 3 Z Z Z dO Z Z Z Z (Nat.le_of_ble_eq_true Z)) ?_
 rintro _ _ rfl
 refine aA<|wq<|wn Z<|aT [3,5,6] 7 (by decide) Z ?_
 refine⟨_,Z,?_⟩
 have hsb:s.length+b.length=(s++b).length:=by rw[List.length_append]
 rw[hsb]
 exact⟨_,_,_,_,hr_3,Z,Z⟩
end Go.Proofs.YtdbebmmhdefgdaaGreat
namespace Go.Eng
open Go Go.RowKit Go.Pure
section
variable {P:Program} {n:Nd} {B:Nat} {w0:World} {L:Env} {R:List Row} {ty:TypeId}
def CellIs (L:Env) (R:List Row) (p sz:Nat) (xs:List Value):Prop:= ∃(g i:Nat) (r:Row),lk L p=some (.pointer (some ⟨g,0,none⟩))∧R[i]? =some r∧r.ro=false∧r.A=some ⟨g,0,none⟩∧r.n=1∧r.c=1∧r.sz=sz∧r.xs=xs
theorem CellIs.load {m:Nat} {p sz:Nat} {xs:List Value} {a:Act} {w:World} (h:CellIs L R p sz xs) (hs:Sat (m:Nd) L a) (hp:Hp B w0 w R): ∃g e,a.tmps[p]?.getD undef= .pointer (some ⟨g,0,none⟩)∧w.heap[g]? =some (.cells xs.toArray e (0,0))∧xs.length=sz:=by
 obtain⟨g,i,r,h1,h2,h3,h4,h5,h6,h7,h8⟩:=h
 have hown:=Row.lies_w (hp.own r (List.mem_of_getElem? h2)) h3
 rcases hown.2 with⟨hn,_⟩|⟨g',cap,cur,hv,_,hg,_,_,hcs,ht⟩
 ·rw[h4] at hn;cases hn
 ·rw [h4] at hv
  simp only[Value.slice.injEq,Option.some.injEq,Addr.mk.injEq,and_true,true_and] at hv
  obtain⟨rfl,rfl⟩:=hv
  rw[h5,h7,Nat.one_mul] at ht
  rw[h6,h7,Nat.one_mul] at hcs
  have e:cur=r.xs.toArray:=by
   rw[←ht,List.take_of_length_le (by rw[Array.length_toList];omega)]
  rw[h8] at e
  subst e
  exact⟨g,_,by have:=hs.getD h1;simpa using this,hg,by simpa using hcs⟩
theorem bCg {f:FuncId} {fn:Func} {c:Code} {args:List Value} {R:List Row} {Post:Value→List Row→Prop} {p1 p2 r3:Nat} {t1 t2:TypeId} {d1 d2:TypeDesc} {s1 s2:Nat} (hf:P.funcs[f]? =some fn) (hb:fn.body=some c) (hr:fn.results= #[.cell p1 t1, .cell p2 t2, .tmp r3]) (hl:Nat.ble args.length fn.ntmps=true)
  (hu1:P.underlying t1=some d1) (hd1:(match d1 with| .struct _| .array _ _=>true|_=>false)=true) (hi1:(P.info? t1).map (·.size)=some s1)
  (hu2:P.underlying t2=some d2) (hd2:(match d2 with| .struct _| .array _ _=>true|_=>false)=true) (hi2:(P.info? t2).map (·.size)=some s2)
  (h:W P fn.ntmps B w0 c ⟨fun L R'=> ∃xs ys u,CellIs L R' p1 s1 xs∧CellIs L R' p2 s2 ys∧lk L r3=some u∧ ∃R1,(∀w,Hp B w0 w R'→Hp B w0 w R1)∧Post (.tuple #[.agg xs.toArray, .agg ys.toArray,u]) R1,
   fun L R'=> ∃xs ys u,CellIs L R' p1 s1 xs∧CellIs L R' p2 s2 ys∧lk L r3=some u∧ ∃R1,(∀w,Hp B w0 w R'→Hp B w0 w R1)∧Post (.tuple #[.agg xs.toArray, .agg ys.toArray,u]) R1,fun _ _ _=>False⟩ (ini 0 args) R):Ct P f args.toArray B w0 R Post:=by
 intro w hw
 have hl':args.length≤fn.ntmps:=Nat.le_of_ble_eq_true hl
 have fin: ∀(L':Env) (R':List Row) (a':Act) (w':World),Sat fn.ntmps L' a'→Hp B w0 w' R'→(∃xs ys u,CellIs L' R' p1 s1 xs∧CellIs L' R' p2 s2 ys∧lk L' r3=some u∧ ∃R1,(∀w,Hp B w0 w R'→Hp B w0 w R1)∧Post (.tuple #[.agg xs.toArray, .agg ys.toArray,u]) R1)→
   ∃v R1,(results fn a'.tmps).run P w'= .ok v w'∧Hp B w0 w' R1∧Post v R1:=by
  rintro L' R' a' w' hs' hp' ⟨xs,ys,u,h1,h2,h3,R1,h8,h9⟩
  obtain⟨g,e,a1,b1,l1⟩:=h1.load hs' hp'
  obtain⟨g',e',a2,b2,l2⟩:=h2.load hs' hp'
  have hu3:=hs'.val r3 u h3
  have hrun:(results fn a'.tmps).run P w'= .ok (.tuple #[.agg xs.toArray, .agg ys.toArray,u]) w':=by
   simp[results,hr,a1,a2,hu3,asAddr,run_loadVar_row w' g e t1 xs.toArray (0,0) d1 b1 hu1 hd1 (by rw[hi1];simp[l1]),run_loadVar_row w' g' e' t2 ys.toArray (0,0) d2 b2 hu2 hd2 (by rw[hi2];simp[l2])]
  exact⟨_,R1,hrun,h8 _ hp',h9⟩
 refine calls_of_wp hf hb (wp_mono (wpIn_wide.1 (h _ w ⟨by simp;omega,rfl,fun t v ht=> ?_⟩ hw)) ?_)
 ·obtain ⟨_,h2⟩:=ZE args 0 t v ht
  simp only[Nat.sub_zero] at h2
  have hlt:=(List.getElem?_eq_some_iff.1 h2).1
  rw[←h2]
  simp[Array.getElem?_append,hlt]
 ·intro e a' w' hq
  cases e with
  |normal=>
   obtain⟨L',R',hs',hp',hx⟩:=hq
   obtain⟨v,R1,hrun,hh,hpost⟩:=fin L' R' _ _ hs' hp' hx
   exact⟨hs'.defers,v,hrun,v,R1,rfl,hh,hpost⟩
  |ret=>
   obtain⟨L',R',hs',hp',hx⟩:=hq
   obtain⟨v,R1,hrun,hh,hpost⟩:=fin L' R' _ _ hs' hp' hx
   exact⟨hs'.defers,v,hrun,v,R1,rfl,hh,hpost⟩
  |exit id=>obtain⟨_,_,_,_,h⟩:=hq;exact h.elim
  |goto l=>exact hq
  |panic ch=>exact hq.elim
  |outgrown=>exact hq.elim
end
end Go.Eng
namespace Go.Proofs.YtdbebmmhdefgdaaGreat
open Go Go.Eng Go.Pure
open Tryz
set_option maxRecDepth 100000
variable {B g gc n_u c_u nt ct:Nat} {w0:World} {X R0:List Row} {A_u At:Option Addr} {u t:List Int} {p1 p2 p3 ms tt ls sz k:Int}
theorem aOo {p0:Int} {b0 b1 b2:Int} (h_u:RdC B w0 R0 A_u n_u c_u 1 (ints .u8 u)) (hn_u:n_u=u.length) (hN:u.length≤1000000) (bh_u:aO u) (hu:u=[87,72,82,76,1]++([b0,b1,b2]++(bP sz++t))) (hpa:0≤b0∧b0≤3) (hpb:(0≤b1∧b1≤2)∧(b2=0∨b2=1)∧(1≤sz∧sz≤16777216)):
  Ct Tryz.prog 89 #[.pointer (GG g)] B w0 ((rc 87 10 g [.pointer (GG gc),I p0,I p1,I p2,I p3,I ms,I tt,I ls, .slice At nt ct, .slice none 0 0])::(rc 146 1 gc [.slice A_u n_u c_u])::(X++R0)) (fun v R'=> ∃(A9:Option Addr) (c9:Nat),RdC B w0 R0 A9 (t).length c9 1 (ints .u8 (t))∧v= .bool true∧R'=(rc 87 10 g [.pointer (GG gc),I b0,I b1,I b2,I sz,I ms,I tt,I ls, .slice At nt ct, .slice none 0 0])::(rc 146 1 gc [.slice A9 ((t).length) c9])::(X++R0)):=by
 have h5:u.take (5:Int).toNat=[87,72,82,76,1]:=by rw[hu];rfl
 have hd5:u.drop (5:Int).toNat=[b0,b1,b2]++(bP sz++t):=by rw[hu];rfl
 have hd8:(u.drop (5:Int).toNat).drop (3:Int).toNat=bP sz++t:=by rw[hd5];rfl
 have hul:u.length=8+((bP sz).length+t.length):=by rw[hu];simp only[List.length_append,List.length_cons,List.length_nil];omega
 refine(ZR (R:=X++R0) (m:=(bP sz).length) (RdC.right h_u X) hn_u hN bh_u h5 (by rw[hd5];rfl) (by omega) (by rw[hd8];exact sQ.of ⟨by omega,by omega⟩ t) hpa hpb).mono fun v R' hv=> ?_
 obtain⟨rfl,rfl⟩:=hv
 have e:=RdC.fromI (l:=(bP sz).length) (RdC.fromI (l:=(3:Int).toNat) (RdC.fromI (l:=(5:Int).toNat) h_u (by show 5≤n_u;omega)) (by show 3≤n_u-5;omega)) (by show(bP sz).length≤n_u-5-3;omega)
 have hl:n_u-(5:Int).toNat-(3:Int).toNat-(bP sz).length=t.length:=by show n_u-5-3-_=_;omega
 have hd:((u.drop (5:Int).toNat).drop (3:Int).toNat).drop (bP sz).length=t:=by rw[hd8];exact List.drop_left
 rw[hl,hd] at e
 rw[hl]
 exact⟨_,_,e,Z,Z⟩
theorem aJh {s b:List Int} (h_u:RdC B w0 R0 A_u n_u c_u 1 (ints .u8 u)) (hn_u:n_u=u.length) (hN:u.length≤1000000) (bh_u:aO u) (hn_t:nt=s.length) (hu:u=mE k p2 b t) (bh_b:aO b) (hbs:b.length≤100000∧s.length≤100000) (hf:((b.length:Nat):Int)≤p3∧((b.length:Nat):Int)≤ms-tt) (hp2:p2=0∨p2=1) (hb:(-1000000≤ms∧ms≤1000000)∧(0≤tt∧tt≤1000000)) (hk:k=0∨k=1∨k=2):
  Ct Tryz.prog 91 #[.pointer (GG g),I ((b.length:Nat):Int)] B w0 ((rc 87 10 g [.pointer (GG gc),I k,I p1,I p2,I p3,I ms,I tt,I ls, .slice At nt ct, .slice none 0 0])::(rc 146 1 gc [.slice A_u n_u c_u])::(ru 5 At nt ct s)::(X++R0)) (fun v R'=> ∃(A7:Option Addr) (c7:Nat),∃(A9:Option Addr) (c9:Nat),RdC B w0 R0 A9 (t).length c9 1 (ints .u8 (t))∧v=I 0∧R'=(rc 87 10 g [.pointer (GG gc),I k,I p1,I p2,I p3,I ms,I (tt+((b.length:Nat):Int)),I ls, .slice A7 ((s++b).length) c7, .slice none 0 0])::(rc 146 1 gc [.slice A9 ((t).length) c9])::(ru 5 A7 ((s++b).length) c7 (s++b))::(X++R0)):=by
 rcases hk with rfl|rfl|rfl
 ·exact aBg h_u hn_u hN bh_u hn_t hu bh_b hbs hf hp2 hb
 ·exact aBf h_u hn_u hN bh_u hn_t hu bh_b hbs hf hp2 hb
 ·exact aBe h_u hn_u hN bh_u hn_t hu bh_b hbs hf hp2 hb
set_option maxHeartbeats 4000000 in
theorem aMd {q0 q1 q2 q3:Int} {w:List Int} {so od:Int} (h_u:RdC B w0 R0 A_u n_u c_u 1 (ints .u8 u)) (hn_u:n_u=u.length) (hN:u.length≤1000000) (bh_u:aO u) (hu:u=nR k so od sz w) (bh_w:aO w) (hS:w.length≤400) (hk:k=0∨k=1∨k=2) (hp:(0≤so∧so≤2)∧(od=0∨od=1)∧(1≤sz∧sz≤16777216)) (hms: -1000000≤ms∧ms≤1000000) (hfit:(w.length:Int)≤ms∨w.length=0):
  Ct Tryz.prog 51 #[.pointer (GG g)] B w0 ((rc 87 10 g [.pointer (GG gc),I q0,I q1,I q2,I q3,I ms,I 0,I 0, .slice none 0 0, .slice none 0 0])::(rc 146 1 gc [.slice A_u n_u c_u])::(ru 5 none 0 0 ([]))::(X++R0)) (fun v R'=> ∃(A7:Option Addr) (c7:Nat) (L7:Int) (A9:Option Addr) (c9:Nat),v=I 0∧R'=(rc 87 10 g [.pointer (GG gc),I k,I so,I od,I sz,I ms,I ((w.length:Nat):Int),I L7, .slice A7 w.length c7, .slice none 0 0])::(rc 146 1 gc [.slice A9 0 c9])::(ru 5 A7 w.length c7 w)::(X++R0)):=by
 subst hn_u
 have heb:=IW (t:=k) (so:=so) (o:=od) (sz:=sz) bh_w hS (by omega) (by omega) (by omega) hp.2.2
 have hu2:=hu
 rw[aIh] at hu2
 have hul:=congrArg List.length hu2
 simp only[List.length_append,List.length_cons,List.length_nil] at hul
 have hlu:u.length≤400000:=by rw[hu];exact heb.2
 have hb00:=bh_u
 rw[hu2] at hb00
 have hb0:aO (kC k od sz.toNat w 0):=aO.back (aO.back (aO.back hb00))
 refine fn1 Tryz.func51 Z Z Z ?_
 refine wq<|wn Z<|aG<|wq<|wm Z<|wa (aF bFr Z ((aOo (X:=([(ru 5 none 0 0 ([]))]++X)) (R0:=R0) (b0:=k) (b1:=so) (b2:=od) (sz:=sz) (t:=kC k od sz.toNat w 0) h_u Z (by omega) bh_u hu2 (by omega) hp))) ?_
 rintro _ _ ⟨A_1,c_2,hr_3,rfl,rfl⟩
 refine wy (dI Z)<|aA<|aL Z<|aK<|wq<|wn Z<|aG<|aI ?_
 refine OO (fun(kk:Nat) (Ac:Option Addr) (cc:Nat) (At:Option Addr) (nt:Nat) (ct:Nat) (s:List Int) (tt:Int) (ls:Int)=>[(0, .pointer (GG g)),(3, .bool false)]) (fun kk Ac cc At nt ct s tt ls=>((rc 87 10 g [.pointer (GG gc),I k,I so,I od,I sz,I ms,I tt,I ls, .slice At nt ct, .slice none 0 0])::(rc 146 1 gc [.slice Ac ((kC k od sz.toNat w kk).length) cc])::(ru 5 At nt ct s)::(X++R0))) (fun kk Ac cc At nt ct s tt ls=>(kk≤chK w.length sz.toNat)∧(RdC B w0 R0 Ac (kC k od sz.toNat w kk).length cc 1 (ints .u8 (kC k od sz.toNat w kk)))∧((kC k od sz.toNat w kk).length≤400000)∧(aO (kC k od sz.toNat w kk))∧(s=w.take (kk*sz.toNat))∧(nt=s.length)∧(tt=(s.length:Int))∧(ls=0∨ls=sz∨w.length≤kk*sz.toNat)) (fun kk Ac cc At nt ct s tt ls=>(chK w.length sz.toNat-kk)) ?_ ?_
 ·exact⟨0,A_1,c_2,none,0,0,[],0,0,⟨(Nat.zero_le _),(hr_3),by omega,(hb0),(by rw[Nat.zero_mul];rfl),(Z),(Z),(.inl Z)⟩,(G2 Z Z),fun _ h=>h⟩
 intro kk Ac cc At nt ct s tt ls ⟨hkk,hev,hln,hby,hs,hnt,htt,hls⟩
 have hkn:(kk+1)*sz.toNat=kk*sz.toNat+sz.toNat:=by rw[Nat.add_mul,Nat.one_mul]
 have hcl:=aQv w sz.toNat kk
 have hkc:=bAm (m:=w.length) (n:=sz.toNat) (k:=kk) (by omega)
 have hsl:s.length=min (kk*sz.toNat) w.length:=by rw[hs,List.length_take]
 refine aI<|wq<|wm Z ?_
 refine(Classical.em (kk<chK w.length sz.toNat)).elim (fun hkk2=> ?_) (fun hkk2=> ?_)
 ·have hlt:kk+1≤chK w.length sz.toNat:=hkk2
  have hwk:=hkc.1 hkk2
  have hrn:=YL (t:=k) (o:=od) hkk2
  have hb1:=hby
  rw[hrn] at hb1
  have hl1:=congrArg List.length hrn
  rw[List.length_append] at hl1
  have hb2:aO (kC k od sz.toNat w (kk+1)):=aO.back (x:=(kW k (pV w sz.toNat kk)).1++(bP (dK (kW k (pV w sz.toNat kk)).2 od).length++(iF (bv (jT (pV w sz.toNat kk)))++dK (kW k (pV w sz.toNat kk)).2 od))) (by have h:=aO.back hb1;unfold mE at h;simpa only[List.append_assoc] using h)
  have hl2:(kC k od sz.toNat w (kk+1)).length≤(mE k od (pV w sz.toNat kk) (kC k od sz.toNat w (kk+1))).length:=by unfold mE;simp only[List.length_append];omega
  refine wa (aF aIi Z ((yO (X:=([(ru 5 At nt ct s)]++X)) (R0:=R0) ((((pV w sz.toNat kk).length:Nat):Int)) (mE k od (pV w sz.toNat kk) (kC k od sz.toNat w (kk+1))) hev Z (by omega) hby (by omega) hrn))) ?_
  rintro _ _ ⟨A_4,c_5,hr_6,rfl,rfl⟩
  refine wm Z<|wX Z Z<|wX Z Z<|wg Z<|wn Z<|aG<|wq<|wm Z<|wy (dI Z)<|aA<|aL Z<|aK<|aG ?_
  refine wq<|wm Z<|wy (Yl.f (bC Z Z))<|aA<|aL Z<|aK ?_
  refine xN [(0, .pointer (GG g)),(3, .bool false),(4,I (((pV w sz.toNat kk).length:Nat):Int))] ((rc 87 10 g [.pointer (GG gc),I k,I so,I od,I sz,I ms,I tt,I ls, .slice At nt ct, .slice none 0 0])::(rc 146 1 gc [.slice A_4 ((mE k od (pV w sz.toNat kk) (kC k od sz.toNat w (kk+1))).length) c_5])::(ru 5 At nt ct s)::(X++R0)) ?_ ?_
  ·refine bT mixed<|wD 0 Z (aN Z)<|wD 1 Z (aN Z)<|wG 2 Z Z Z (aN Z)<|wG 3 Z Z Z (aD Z)<|wG 4 Z Z Z (aB (off:=7) (m:=7) underlying87 Z sz3 Z Z Z)<|wG 5 Z Z Z (aJ (rdr 0 Z) underlying3 Z Z Z)<|wG 6 Z Z Z (dV Z Z)<|wG 7 Z Z Z (aN Z)<|pX 28 Z (fun hc1=> ?_) (fun hc1=> ?_)
   ·refine wG 8 Z Z Z (aN Z)<|wG 9 Z Z Z (aD Z)<|wG 10 Z Z Z (aB (off:=7) (m:=7) underlying87 Z sz3 Z Z Z)<|wG 11 Z Z Z (aJ (rdr 0 Z) underlying3 Z Z Z)<|wG 12 Z Z Z (aN Z)<|wG 13 Z Z Z (aD Z)<|wG 14 Z Z Z (aB (off:=1) (m:=1) underlying87 Z gI Z Z Z)<|wG 15 Z Z Z (aB (off:=3) (m:=4) underlying27 Z sz3 Z Z Z)<|wG 16 Z Z Z (aJ (rdr 0 Z) underlying3 Z Z Z)<|wG 17 Z Z Z (Yl.f (eP Z Z))<|wG 18 Z Z Z (bA Z Z)<|wD 19 Z (aS Z Z)<|wD 20 Z (bQ Z)<|wN ?_
    exact⟨(G3 Z Z Z),fun _ h=>h⟩
   ·refine wO 8 Z Z Z<|wO 9 Z Z Z<|wO 10 Z Z Z<|wO 11 Z Z Z<|wO 12 Z Z Z<|wO 13 Z Z Z<|wO 14 Z Z Z<|wO 15 Z Z Z<|wO 16 Z Z Z<|wO 17 Z Z Z<|wG 18 Z Z Z (aS Z Z)<|wD 19 Z (aS Z Z)<|wD 20 Z (bQ Z)<|wN ?_
    exact⟨(G3 Z Z Z),fun _ h=>h⟩
  refine aG<|wq<|wm Z<|wm Z<|wa (aF bFq Z ((aJh (X:=([]++X)) (R0:=R0) (b:=(pV w sz.toNat kk)) (t:=kC k od sz.toNat w (kk+1)) hr_6 Z (by omega) (aO.back hb1) hnt Z (aAt bh_w _ _) (by omega) (by omega) hp.2.1 (by omega) hk))) ?_
  rintro _ _ ⟨A_10,c_11,A_7,c_8,hr_9,rfl,rfl⟩
  refine wn Z<|wq<|wm Z<|wy (Yl.f (jA Z Z) (by decide))<|aA<|aL Z<|aK<|aM<|wm Z<|wm Z<|wy (aD Z)<|wy (aB (off:=7) (m:=7) underlying87 Z sz3 Z Z Z)<|bY (aY 0 Z Z Z sz3 Z Z Z Z (Nat.le_of_ble_eq_true Z)) ?_
  rintro _ _ rfl
  refine aA ?_
  exact⟨(kk+1),A_7,c_8,A_10,(s++(pV w sz.toNat kk)).length,c_11,s++(pV w sz.toNat kk),tt+((((pV w sz.toNat kk)).length:Nat):Int),(((pV w sz.toNat kk).length:Nat):Int),⟨(hlt),(hr_9),by omega,(hb2),(by rw[aJa,←hs]),(Z),(by rw[List.length_append];omega),by omega⟩,by omega,(G2 Z Z),fun _ h=>h⟩
 ·have hend:=aGh (t:=k) (o:=od) (n:=sz.toNat) (u:=w) (k:=kk) (by omega)
  have hwk: ¬kk*sz.toNat<w.length:=fun h=>hkk2 (hkc.2 h)
  have hsw:s=w:=by rw[hs];exact List.take_of_length_le (by omega)
  have hbe:aO (bP 0++bP (w.length:Int)):=by rw[←hend];exact hby
  refine wa (aF aIi Z ((yO (X:=([(ru 5 At nt ct s)]++X)) (R0:=R0) (0) (bP (w.length:Int)) hev Z (by omega) hby (by omega) hend))) ?_
  rintro _ _ ⟨A_12,c_13,hr_14,rfl,rfl⟩
  refine wm Z<|wX Z Z<|wX Z Z<|wg Z<|wn Z<|aG<|wq<|wm Z<|wy (dI Z)<|aA<|aL Z<|aK<|aG ?_
  refine wq<|wm Z<|wy (Yl.t (bC Z Z) (by decide))<|aA<|bO Z<|aZ<|wq<|wm Z<|wa (aF aIi Z ((yO (X:=([(ru 5 At nt ct s)]++X)) (R0:=R0) ((w.length:Int)) ([]) hr_14 Z (by have:=congrArg List.length hend;rw[List.length_append] at this;omega) (aO.back hbe) (by omega) (List.append_nil _).symm))) ?_
  rintro _ _ ⟨A_15,c_16,hr_17,rfl,rfl⟩
  refine wm Z<|wX Z Z<|wX Z Z<|wg Z<|wn Z<|aG<|wq<|wm Z<|wy (dI Z)<|wm Z<|aC Z Z<|wm Z<|aC Z Z ?_
  refine wm Z<|aC Z Z<|wy (aD Z)<|aC Z Z<|wy (aB (off:=6) (m:=6) underlying87 Z sz3 Z Z Z)<|aC Z Z<|wy (aJ (rdr 0 Z) underlying3 Z Z Z)<|aC Z Z<|wy (Yl.f (jA Z Z) (by rw[←hsw];omega)) ?_
  refine wy (aS Z Z)<|wm Z<|aC Z Z<|wm Z<|aC Z Z<|wy (aD Z)<|aC Z Z<|wy (aB (off:=0) (m:=0) underlying87 Z aFn Z Z Z)<|aC Z Z<|wy (aJ (rdr 0 Z) underlying84 Z Z Z)<|aC Z Z<|wa (aF bFp Z (Ct.pick [1,0,2] 3 (by decide) Z (aNy (k:=0) (R:=([(rc 87 10 g [.pointer (GG gc),I k,I so,I od,I sz,I ms,I tt,I ls, .slice At nt ct, .slice none 0 0]),(ru 5 At nt ct s)]++X)++R0) (RdC.right hr_17 ([(rc 87 10 g [.pointer (GG gc),I k,I so,I od,I sz,I ms,I tt,I ls, .slice At nt ct, .slice none 0 0]),(ru 5 At nt ct s)]++X)) Z))) ?_
  rintro _ _ ⟨rfl,rfl⟩
  refine aC Z Z<|wy (Yl.f (dV Z Z) (by decide))<|wy (aS Z Z)<|wm Z<|aC Z Z<|wm Z<|aC Z Z<|wm Z<|aP Z Z Z Z<|aP Z Z Z Z<|aP Z Z Z Z<|aP Z Z Z Z<|aP Z Z Z Z<|aP Z Z Z Z<|aC Z Z ?_
  refine wy (aS Z Z)<|wy (aS Z Z)<|aA<|aL Z<|aK<|wq<|wn Z<|aT [1,0,2] 3 (by decide) Z ?_
  refine⟨_,Z,?_⟩
  rw[htt,hnt,hsw]
  exact⟨_,_,_,_,_,Z,Z⟩
set_option maxHeartbeats 1000000 in
theorem aVi {w_:World} {A_u:Option Addr} {n_u c_u:Nat} {u:List Int} {lim:Int} {w:List Int} {k so od sz:Int} (h_u:Rd w_ A_u n_u c_u 1 (ints .u8 u)) (bh_u:aO u) (hN:u.length≤1000000) (hu:u=nR k so od sz w) (bh_w:aO w) (hS:w.length≤400) (hk:k=0∨k=1∨k=2) (hp:(0≤so∧so≤2)∧(od=0∨od=1)∧(1≤sz∧sz≤16777216)) (hlim: -1000≤lim∧lim≤1000000) (hfit:(w.length:Int)≤lim∨w.length=0):
  Ct Tryz.prog 19 #[.slice A_u n_u c_u,I lim] w_.heap.size w_ [] (fun v R'=> ∃A c,v= .tuple #[.agg #[.slice A w.length c, .slice none 0 0], .agg #[I k,I so,I od,I sz],I 0]∧R'=[(ru 5 A w.length c w)]):=by
 obtain rfl:=h_u.lenI
 refine bCg Tryz.func19 Z Z Z underlying25 Z AJ underlying27 Z gI ?_
 have m_u:=h_u.max
 refine wq<|wa (iI (sz:=2) bBe Z) ?_
 rintro _ _ ⟨g_1,rfl,rfl⟩
 refine wa (iI (sz:=4) bBd Z) ?_
 rintro _ _ ⟨g_2,rfl,rfl⟩
 refine wn Z<|wq<|wm Z<|wa (aF bFz Z (Ct.fresh (fun w hw=>PZ ((h_u.c _) w hw) hN))) ?_
 rintro _ _ ⟨_,rfl,g_3,A_4,c_5,rfl,rfl⟩
 refine wm Z<|wy (vQ Z Z)<|wy (dY (v:= .agg #[.pointer (GG g_3),I 0,I 0,I 0,I 0,I (min lim 100000),I 0,I 0, .slice none 0 0, .slice none 0 0]) Z (fun w=>by kernel_rfl))<|wa (bX (sz:=10) rfl rfl) ?_
 rintro _ _ ⟨g_6,rfl,rfl⟩
 refine dH (R1:=[(ru 5 none 0 0 ([])),(rc 87 10 g_6 [.pointer (GG g_3),I 0,I 0,I 0,I 0,I (min lim 100000),I 0,I 0, .slice none 0 0, .slice none 0 0]),(rc 146 1 g_3 [.slice A_4 ((u).length) c_5]),(ru 5 A_4 ((u).length) c_5 u),(rc 27 4 g_2 [I 0,I 0,I 0,I 0]),(rc 25 2 g_1 [.slice none 0 0, .slice none 0 0])]) (Sub.refl _) (fun _ h=>h.nil 5 1)<|wn Z<|aG<|wq<|wm Z<|wa (aF bFy Z (Ct.pick [1,2,0,3,4,5] 99 (by decide) Z (aMd (X:=[]) (R0:=[(ru 5 A_4 ((u).length) c_5 u),(rc 27 4 g_2 [I 0,I 0,I 0,I 0]),(rc 25 2 g_1 [.slice none 0 0, .slice none 0 0])]) (rdr 0 Z) Z hN bh_u hu bh_w hS hk hp (by omega) (by omega)))) ?_
 rintro _ _ ⟨A_7,c_8,L_9,A_10,c_11,rfl,rfl⟩
 refine wn Z<|wq<|wm Z<|wy (Yl.f (jA Z Z) (by decide))<|aA<|aL Z<|aK<|aG<|aRz (Rc:=[(rc 87 10 g_6 [.pointer (GG g_3),I k,I so,I od,I sz,I (min lim 100000),I ((w.length:Nat):Int),I L_9, .slice A_7 w.length c_8, .slice none 0 0])]) mixed (fun _ h=>h.sel [0] (by decide) Z) ?_
 refine QC 0 Z (by kernel_rfl) Z (aN Z) ?_
 refine QC 1 Z (by kernel_rfl) Z (aD Z) ?_
 refine QC 2 Z (by kernel_rfl) Z (aB (off:=8) (m:=8) underlying87 Z AJ Z Z Z) ?_
 refine QC 3 Z (by kernel_rfl) Z (dG (vs:=[.slice A_7 w.length c_8, .slice none 0 0]) (rdr 0 Z) underlying25 Z AJ Z Z (Nat.le_of_ble_eq_true Z) Z) ?_
 refine QC 4 Z (by kernel_rfl) Z (aN Z) ?_
 refine QC 5 Z (by kernel_rfl) Z (aD Z) ?_
 refine QC 6 Z (by kernel_rfl) Z (aB (off:=1) (m:=1) underlying87 Z gI Z Z Z) ?_
 refine QC 7 Z (by kernel_rfl) Z (dG (vs:=[I k,I so,I od,I sz]) (rdr 0 Z) underlying27 Z gI Z Z (Nat.le_of_ble_eq_true Z) Z) ?_
 refine aQw 8 (by kernel_rfl) ?_
 refine bFb 8 Z (fQ (vs:=[.slice A_7 w.length c_8, .slice none 0 0]) 5 Z AJ Z Z Z (by intro v hv;simp at hv;rcases hv with rfl|rfl<;>rfl) Z) ?_
 rintro _ _ rfl
 refine⟨fun _ h=>h.sel [0] (by decide) Z,?_⟩
 refine aQw 9 (by kernel_rfl) ?_
 refine bFb 9 Z (fQ (vs:=[I k,I so,I od,I sz]) 4 Z gI Z Z Z (by intro v hv;simp at hv;rcases hv with rfl|rfl|rfl|rfl<;>rfl) Z) ?_
 rintro _ _ rfl
 refine⟨fun _ h=>h.sel [0] (by decide) Z,?_⟩
 refine QC 10 Z (by kernel_rfl) Z (bQ Z) ?_
 refine bAn (by kernel_rfl) ?_
 refine dJ ?_
 refine⟨_,_,_,⟨_,5,_,Z,Z,Z,Z,Z,Z,Z,Z⟩,⟨_,4,_,Z,Z,Z,Z,Z,Z,Z,Z⟩,Z,[(ru 5 A_7 w.length c_8 w)],fun _ h=>h.sel [2] (by decide) Z,?_⟩
 exact⟨_,_,Z,Z⟩
variable {w w0:World} {f:Value} {B n_u c_u:Nat} {R:List Row} {A_u:Option Addr} {u:List Int} {so od sz:Int}
theorem aHr:
  Ct Tryz.prog 114 #[.slice none 0 0,f] w.heap.size w [] (fun v R'=>v=I (-1)):=by
 refine fn1 Tryz.func114 Z Z Z ?_
 refine wq<|wn Z<|aG<|wq<|wm Z<|wy (aQ underlying23 Z)<|wm Z<|aA<|aI<|qM 1<|dZ<|aG ?_
 refine aM<|wy (Yl.f (eP Z Z) (by decide))<|aA<|aG<|aL Z<|aZ<|wq<|wn Z<|dJ ?_
 refine⟨_,Z,?_⟩
 rfl
theorem pO:
  Ct Tryz.prog 68 #[.slice none 0 0,f] w.heap.size w [] (fun v R'=>v= .bool false):=by
 refine fn1 Tryz.func68 Z Z Z ?_
 refine wq<|wn Z<|wq<|wm Z<|wm Z<|wa (aF bEu Z (Ct.quiet (fun w hw=>aHr))) ?_
 rintro _ _ ⟨rfl,rfl⟩
 refine wy (Yl.f (jG Z Z))<|wn Z<|dJ ?_
 refine⟨_,Z,?_⟩
 rfl
theorem WL:Ct Tryz.prog 39 #[.slice none 0 0] B w0 R (fun v R'=> ∃(A:Option Addr) (c:Nat),v= .slice A 0 c∧R'=R):=by
 intro w hw
 refine(Ct.fresh (fun w hw=>aJc (ws:=[]) (EG 1 w (Hp.refl w)) (iZ _ _) ⟨(fun _ h=>by cases h),by decide⟩) w hw).mono ?_
 rintro e w' ⟨v,R',he,hh,Rn,rfl,A,c,vals,Rs,hv,hs,rfl⟩
 have h1:vals.length=(canon []).length:=hs.1
 have h0:vals.length=0:=by rw[h1,aJb];rfl
 rw[h0] at hv
 exact⟨v,R,he,hh.right,A,c,hv,Z⟩
theorem aUg (h_u:RdC B w0 R A_u n_u c_u 1 (ints .u8 u)) (hn_u:n_u=u.length) (bh_u:aO u) (hN:u.length≤100000) (hp:(0≤so∧so≤2)∧(od=0∨od=1)∧(1≤sz∧sz≤16777216)):
  Ct Tryz.prog 36 #[.agg #[.slice A_u n_u c_u, .slice none 0 0], .agg #[I 0,I so,I od,I sz]] B w0 (R) (fun v R'=>v=I 0∧R'=R):=by
 subst hn_u
 refine fn1 Tryz.func36 Z Z Z ?_
 refine wq<|wa (bX (sz:=2) Z Z) ?_
 rintro _ _ ⟨g_1,rfl,rfl⟩
 refine wa (bX (sz:=4) Z Z) ?_
 rintro _ _ ⟨g_3,rfl,rfl⟩
 refine wn Z<|wq<|wn Z<|wq<|wy (aB (off:=0) (m:=0) underlying27 Z sz3 Z Z Z)<|wy (aJ (rdr 0 Z) underlying3 Z Z Z)<|wy (Yl.f (bC Z Z) (by decide))<|wn Z<|aG<|aG ?_
 refine aM<|wy (dG (vs:=[I 0,I so,I od,I sz]) (rdr 0 Z) underlying27 Z gI Z Z (Nat.le_of_ble_eq_true Z) Z)<|wa (aF aPl Z (zP (by omega) hp)) ?_
 rintro _ _ ⟨rfl,rfl⟩
 refine wy (dI Z)<|wm Z<|aC Z Z<|wm Z<|aC Z Z<|wy (dI Z)<|aC Z Z<|wm Z<|aC Z Z<|wy (aB (off:=1) (m:=1) underlying25 Z wI Z Z Z)<|aC Z Z<|wy (aJ (rdr 1 Z) underlying23 Z Z Z)<|aC Z Z<|wy (aQ underlying23 Z)<|aC Z Z ?_
 refine wy (Yl.f (dV Z Z))<|aC Z Z<|wy (bA Z Z)<|wy (aS Z Z)<|wm Z<|aC Z Z<|wm Z<|aC Z Z<|wm Z<|aP Z Z Z Z<|aP Z Z Z Z<|aP Z Z Z Z<|aP Z Z Z Z<|aC Z Z<|wy (aS Z Z) ?_
 refine wy (aS Z Z)<|wm Z<|aC Z Z<|wy (aB (off:=1) (m:=1) underlying25 Z wI Z Z Z)<|aC Z Z<|wy (aJ (rdr 1 Z) underlying23 Z Z Z)<|aC Z Z<|wm Z<|aC Z Z<|wa (aF bAd Z (Ct.quiet (fun w hw=>pO))) ?_
 rintro _ _ ⟨rfl,rfl⟩
 refine wy (aS Z Z)<|aA<|aL Z<|aK<|aG<|aG<|bT mixed<|wD 0 Z (aB (off:=0) (m:=0) underlying25 Z dO Z Z Z)<|wD 1 Z (aJ (rdr 1 Z) underlying22 Z Z Z)<|wD 2 Z (aQ underlying22 Z)<|wD 3 Z (aB (off:=1) (m:=1) underlying25 Z wI Z Z Z)<|wD 4 Z (aJ (rdr 1 Z) underlying23 Z Z Z)<|wC 5 Z (aF KT Z (Ct.fresh (fun w hw=>jN ((EG _) w hw) (iZ _ _) (by first|assumption|omega|decide)))) ?_
 rintro _ _ ⟨_,rfl,A_5,c_6,rfl,rfl⟩
 refine⟨.inr fun _ h=>h.right (R':=[_]),?_⟩
 refine wD 6 Z (aQ underlying22 Z)<|wD 7 Z (dF Z Z (by have e:([]:List (List Int)).flatten.length=0:=rfl;omega)) ?_
 refine wD 8 Z (Yl.f (dV Z Z) (by have e:([]:List (List Int)).flatten.length=0:=rfl;omega)) ?_
 refine wD 9 Z (aN Z)<|wG 10 Z Z Z (aB (off:=1) (m:=1) underlying25 Z wI Z Z Z)<|wG 11 Z Z Z (aJ (rdr 2 Z) underlying23 Z Z Z)<|wG 12 Z Z Z (aQ underlying23 Z)<|wG 13 Z Z Z (Yl.f (dV Z Z))<|wD 14 Z (aS Z Z)<|wN<|aL Z<|aK<|wq<|wn Z<|aT [] 3 (by decide) Z ?_
 refine⟨_,Z,?_⟩
 exact⟨Z,Z⟩
theorem aUf (h_u:RdC B w0 R A_u n_u c_u 1 (ints .u8 u)) (hn_u:n_u=u.length) (bh_u:aO u) (hN:u.length≤100000) (hp:(0≤so∧so≤2)∧(od=0∨od=1)∧(1≤sz∧sz≤16777216)):
  Ct Tryz.prog 36 #[.agg #[.slice A_u n_u c_u, .slice none 0 0], .agg #[I 1,I so,I od,I sz]] B w0 (R) (fun v R'=>v=I 0∧R'=R):=by
 subst hn_u
 refine fn1 Tryz.func36 Z Z Z ?_
 refine wq<|wa (bX (sz:=2) Z Z) ?_
 rintro _ _ ⟨g_1,rfl,rfl⟩
 refine wa (bX (sz:=4) Z Z) ?_
 rintro _ _ ⟨g_3,rfl,rfl⟩
 refine wn Z<|wq<|wn Z<|wq<|wy (aB (off:=0) (m:=0) underlying27 Z sz3 Z Z Z)<|wy (aJ (rdr 0 Z) underlying3 Z Z Z)<|wy (Yl.f (bC Z Z) (by decide))<|wn Z<|aG<|aG ?_
 refine aM<|wy (dG (vs:=[I 1,I so,I od,I sz]) (rdr 0 Z) underlying27 Z gI Z Z (Nat.le_of_ble_eq_true Z) Z)<|wa (aF aPl Z (zP (by omega) hp)) ?_
 rintro _ _ ⟨rfl,rfl⟩
 refine wy (dI Z)<|wm Z<|aC Z Z<|wm Z<|aC Z Z<|wy (dI Z)<|aC Z Z<|wm Z<|aC Z Z<|wy (aB (off:=1) (m:=1) underlying25 Z wI Z Z Z)<|aC Z Z<|wy (aJ (rdr 1 Z) underlying23 Z Z Z)<|aC Z Z<|wy (aQ underlying23 Z)<|aC Z Z ?_
 refine wy (Yl.f (dV Z Z))<|aC Z Z<|wy (bA Z Z)<|wy (aS Z Z)<|wm Z<|aC Z Z<|wm Z<|aC Z Z<|wm Z<|aP Z Z Z Z<|aP Z Z Z Z<|aP Z Z Z Z<|aP Z Z Z Z<|aC Z Z<|wy (aS Z Z) ?_
 refine wy (aS Z Z)<|wm Z<|aC Z Z<|wy (aB (off:=1) (m:=1) underlying25 Z wI Z Z Z)<|aC Z Z<|wy (aJ (rdr 1 Z) underlying23 Z Z Z)<|aC Z Z<|wm Z<|aC Z Z<|wa (aF bAd Z (Ct.quiet (fun w hw=>pO))) ?_
 rintro _ _ ⟨rfl,rfl⟩
 refine wy (aS Z Z)<|aA<|aL Z<|aK<|aG<|aG<|bT mixed<|wD 0 Z (aB (off:=0) (m:=0) underlying25 Z dO Z Z Z)<|wD 1 Z (aJ (rdr 1 Z) underlying22 Z Z Z)<|wD 2 Z (aQ underlying22 Z)<|wD 3 Z (aB (off:=1) (m:=1) underlying25 Z wI Z Z Z)<|wD 4 Z (aJ (rdr 1 Z) underlying23 Z Z Z)<|wC 5 Z (aF KT Z (Ct.fresh (fun w hw=>jN ((EG _) w hw) (iZ _ _) (by first|assumption|omega|decide)))) ?_
 rintro _ _ ⟨_,rfl,A_5,c_6,rfl,rfl⟩
 refine⟨.inr fun _ h=>h.right (R':=[_]),?_⟩
 refine wD 6 Z (aQ underlying22 Z)<|wD 7 Z (dF Z Z (by have e:([]:List (List Int)).flatten.length=0:=rfl;omega)) ?_
 refine wD 8 Z (Yl.f (dV Z Z) (by have e:([]:List (List Int)).flatten.length=0:=rfl;omega)) ?_
 refine wD 9 Z (aN Z)<|wG 10 Z Z Z (aB (off:=1) (m:=1) underlying25 Z wI Z Z Z)<|wG 11 Z Z Z (aJ (rdr 2 Z) underlying23 Z Z Z)<|wG 12 Z Z Z (aQ underlying23 Z)<|wG 13 Z Z Z (Yl.f (dV Z Z))<|wD 14 Z (aS Z Z)<|wN<|aL Z<|aK<|wq<|wn Z<|aT [] 3 (by decide) Z ?_
 refine⟨_,Z,?_⟩
 exact⟨Z,Z⟩
theorem aUe (h_u:RdC B w0 R A_u n_u c_u 1 (ints .u8 u)) (hn_u:n_u=u.length) (bh_u:aO u) (hN:u.length≤100000) (hp:(0≤so∧so≤2)∧(od=0∨od=1)∧(1≤sz∧sz≤16777216)):
  Ct Tryz.prog 36 #[.agg #[.slice A_u n_u c_u, .slice none 0 0], .agg #[I 2,I so,I od,I sz]] B w0 (R) (fun v R'=>v=I 0∧R'=R):=by
 subst hn_u
 refine fn1 Tryz.func36 Z Z Z ?_
 refine wq<|wa (bX (sz:=2) Z Z) ?_
 rintro _ _ ⟨g_1,rfl,rfl⟩
 refine wa (bX (sz:=4) Z Z) ?_
 rintro _ _ ⟨g_3,rfl,rfl⟩
 refine wn Z<|wq<|wn Z<|wq<|wy (aB (off:=0) (m:=0) underlying27 Z sz3 Z Z Z)<|wy (aJ (rdr 0 Z) underlying3 Z Z Z)<|wy (Yl.f (bC Z Z) (by decide))<|wn Z<|aG<|aG ?_
 refine aM<|wy (dG (vs:=[I 2,I so,I od,I sz]) (rdr 0 Z) underlying27 Z gI Z Z (Nat.le_of_ble_eq_true Z) Z)<|wa (aF aPl Z (zP (by omega) hp)) ?_
 rintro _ _ ⟨rfl,rfl⟩
 refine wy (dI Z)<|wm Z<|aC Z Z<|wm Z<|aC Z Z<|wy (dI Z)<|aC Z Z<|wm Z<|aC Z Z<|wy (aB (off:=1) (m:=1) underlying25 Z wI Z Z Z)<|aC Z Z<|wy (aJ (rdr 1 Z) underlying23 Z Z Z)<|aC Z Z<|wy (aQ underlying23 Z)<|aC Z Z ?_
 refine wy (Yl.f (dV Z Z))<|aC Z Z<|wy (bA Z Z)<|wy (aS Z Z)<|wm Z<|aC Z Z<|wm Z<|aC Z Z<|wm Z<|aP Z Z Z Z<|aP Z Z Z Z<|aP Z Z Z Z<|aP Z Z Z Z<|aC Z Z<|wy (aS Z Z) ?_
 refine wy (aS Z Z)<|wm Z<|aC Z Z<|wy (aB (off:=1) (m:=1) underlying25 Z wI Z Z Z)<|aC Z Z<|wy (aJ (rdr 1 Z) underlying23 Z Z Z)<|aC Z Z<|wm Z<|aC Z Z<|wa (aF bAd Z (Ct.quiet (fun w hw=>pO))) ?_
 rintro _ _ ⟨rfl,rfl⟩
 refine wy (aS Z Z)<|aA<|aL Z<|aK<|aG<|aG<|bT mixed<|wD 0 Z (aB (off:=0) (m:=0) underlying25 Z dO Z Z Z)<|wD 1 Z (aJ (rdr 1 Z) underlying22 Z Z Z)<|wD 2 Z (aQ underlying22 Z)<|wD 3 Z (aB (off:=1) (m:=1) underlying25 Z wI Z Z Z)<|wD 4 Z (aJ (rdr 1 Z) underlying23 Z Z Z)<|wC 5 Z (aF KT Z (Ct.fresh (fun w hw=>jN ((EG _) w hw) (iZ _ _) (by first|assumption|omega|decide)))) ?_
 rintro _ _ ⟨_,rfl,A_5,c_6,rfl,rfl⟩
 refine⟨.inr fun _ h=>h.right (R':=[_]),?_⟩
 refine wD 6 Z (aQ underlying22 Z)<|wD 7 Z (dF Z Z (by have e:([]:List (List Int)).flatten.length=0:=rfl;omega)) ?_
 refine wD 8 Z (Yl.f (dV Z Z) (by have e:([]:List (List Int)).flatten.length=0:=rfl;omega)) ?_
 refine wD 9 Z (aN Z)<|wG 10 Z Z Z (aB (off:=1) (m:=1) underlying25 Z wI Z Z Z)<|wG 11 Z Z Z (aJ (rdr 2 Z) underlying23 Z Z Z)<|wG 12 Z Z Z (aQ underlying23 Z)<|wG 13 Z Z Z (Yl.f (dV Z Z))<|wD 14 Z (aS Z Z)<|wN<|aL Z<|aK<|wq<|wn Z<|aT [] 3 (by decide) Z ?_
 refine⟨_,Z,?_⟩
 exact⟨Z,Z⟩
end Go.Proofs.YtdbebmmhdefgdaaGreat
namespace Go.Proofs.YtdbebmmhdefgdaaGreat
open Go Go.Eng Go.RowKit Go.Shelf Go.Proofs
variable {n c m k g1 g2:Nat} {xs:List Value} {A:Option Addr} {zs:List Int}
attribute [local go_sem] Oper.semAt_some
theorem kV {W:World} {a:Addr} (h:Rd W (some a) n c 1 xs) {j:Nat} (hj:j<xs.length):W.cell? (a.add j)=some (xs[j]'hj):=by
 obtain⟨b,h1,h2⟩:=h.at_ j _ (List.getElem?_eq_getElem hj)
 obtain rfl:=Option.some.inj h1
 exact h2
def chN (m n:Nat):Nat:=(m+n-1)/n
theorem aAu (hn:1≤n):k<chN m n↔k*n<m:=by
 unfold chN
 rw[Nat.lt_iff_add_one_le,Nat.le_div_iff_mul_le (by omega),Nat.add_mul]
 omega
theorem aAo (h:n≤m-k*n):((k:Int)*(n:Int)+(n:Int)).toNat-k*n=min n (m-k*n):=by
 have hcast:(k:Int)*(n:Int)=((k*n:Nat):Int):=by simp
 omega
theorem aAm:((k:Int)*(n:Int)+min (n:Int) ((m-k*n:Nat):Int)).toNat-k*n=min n (m-k*n):=by
 have hcast:(k:Int)*(n:Int)=((k*n:Nat):Int):=by simp
 omega
theorem aAn (h:m-k*n≤n):((k:Int)*(n:Int)+((m-k*n:Nat):Int)).toNat-k*n=min n (m-k*n):=by
 have hcast:(k:Int)*(n:Int)=((k*n:Nat):Int):=by simp
 omega
theorem aAp {N:Nat} (hn:1≤n) (h:k<N):N-(intOf (.int .i64 ((k:Int)*n+n))).toNat/n<N-(intOf (.int .i64 ((k:Int)*n))).toNat/n:=by
 have e0:(intOf (.int .i64 ((k:Int)*n))).toNat=k*n:=by
  have hcast:(k:Int)*(n:Int)=((k*n:Nat):Int):=by simp
  simp only[intOf,hcast]
  omega
 have e1:(intOf (.int .i64 ((k:Int)*n+n))).toNat=(k+1)*n:=by
  have hcast:(k:Int)*(n:Int)=((k*n:Nat):Int):=by simp
  simp only[intOf,hcast,Nat.add_mul]
  omega
 rw[e0,e1,Nat.mul_div_cancel _ (by omega),Nat.mul_div_cancel _ (by omega)]
 omega
theorem aAr {P:Program} {t e:TypeId} {p:Nat} {tm:Array Value} {s:Nat} {w:World} {o:Oper} (ht:P.underlying t=some (.slice e)) (hi:(P.info? e).map (·.size)=some 1)
  (ho:o.op= .slice t (.tmp 14) (some (.tmp 15)) none none) (hs:tm.size=s) (h14:tm[14]? =some (.slice A m c)) (h15:tm[15]? =some (.int .i64 (p:Int))) (hp:p≤m):
  (execOp ({tmps:=tm,defers:=[]}:Act).eval o).run P w= .ok (.value (.slice (iY A p c 1) (m-p) (c-p))) w:=by
 have h:=iP (P:=P) (n:=⟨s,[],none⟩) (B:=w.heap.size) (w0:=w) (L:=[(14, .slice A m c),(15, .int .i64 (p:Int))]) (R:=[]) (ty:=o.type) (x:= .tmp 14) (y:= .tmp 15) ht hi rfl rfl (l:=(p:Int)) (by omega) (by omega)
 have h2:=h {tmps:=tm,defers:=[]} w o ho rfl ⟨hs,rfl,fun t v hv=>by
  rcases vK hv with⟨rfl,rfl⟩|⟨_,hv⟩
  ·exact h14
  ·rcases vK hv with⟨rfl,rfl⟩|⟨_,hv⟩
   ·exact h15
   ·simp[lk] at hv⟩ (Hp.refl w)
 rw[Int.toNat_natCast] at h2
 exact h2
set_option maxRecDepth 100000 in
set_option maxHeartbeats 2000000 in
theorem aQu (hn:1≤n) (hn2:n≤16777216) (hmax:xs.length≤1000000):Iter Tryz.prog 73 #[.pointer (some ⟨g1,0,none⟩), .pointer (some ⟨g2,0,none⟩)] (fun w=>Rd w (some ⟨g1,0,none⟩) 1 1 1 [.slice A xs.length c]∧Rd w (some ⟨g2,0,none⟩) 1 1 1 [.int .i64 (n:Int)]∧Rd w A xs.length c 1 xs) (chN xs.length n)
  (fun k=>[.slice (iY A (k*n) c 1) (min n (xs.length-k*n)) (min n (xs.length-k*n))]):=by
 intro l J W hR hD hY h0
 have hc:W.cell? ⟨g1,0,none⟩=some (.slice A xs.length c):=kV (hR _ _ h0).1 (j:=0) (by simp)
 have hd:W.cell? ⟨g2,0,none⟩=some (.int .i64 (n:Int)):=kV (hR _ _ h0).2.1 (j:=0) (by simp)
 have hle:=(hR _ _ h0).2.2.le
 refine callsIn_of_wp Tryz.func73 rfl trivial ?_ rfl
 simp only[Tryz.ntmps73,List.size_toArray,List.length_cons,List.length_nil,Nat.reduceAdd,Nat.reduceSub,Array.replicate_succ,Array.replicate_zero,List.push_toArray,List.append_toArray,List.nil_append,List.cons_append]
 gi_wp2
 gi_loopw [4] (fun i wr=> ∃k:Nat,k≤chN xs.length n∧i= .int .i64 ((k*n:Nat):Int)∧J k wr) (fun i _=>chN xs.length n-(intOf i).toNat/n)
 case atStart=>exact⟨0,Nat.zero_le _,by simp,h0⟩
 case round=>
  obtain⟨k,hk,rfl,hJs⟩:=hrel
  have hc1:wr.cell? ⟨g1,0,none⟩=some (.slice A xs.length c):=kV (hR _ _ hJs).1 (j:=0) (by simp)
  have hd1:wr.cell? ⟨g2,0,none⟩=some (.int .i64 (n:Int)):=kV (hR _ _ hJs).2.1 (j:=0) (by simp)
  by_cases hlt:k<chN xs.length n
  ·have hkn:k*n<xs.length:=(aAu hn).1 hlt
   have hcut:iY A (k*n) c 1=Option.map (fun x=>x.add (k*n)) A:=by
    unfold iY
    rw[if_neg (by omega),Nat.mul_one]
   gi_wp2
   refine wpIn_region_quiet_lit rfl (by kernel_rfl) (by kernel_rfl) ?_
   iterate 3 quiet_step_in (skip)
   refine wpQuietIn_step (by quiet_asked_in) (fun K hK=> ?_)
   rw[if_pos (by simp[Region.wanted])]
   refine⟨.slice (iY A (k*n) c 1) (xs.length-k*n) (c-k*n),fun w' hw'=> ?_,hK _ ?_⟩
   ·unfold Oper.quietAtIn
    rw[aAr (p:=k*n) (A:=A) (m:=xs.length) (c:=c) Tryz.underlying22 sz5 rfl rfl rfl (by simp) (by omega)]
    exact⟨rfl,rfl⟩
   clear hK K
   iterate 3 quiet_step_in (skip)
   refine wpQuietIn_nil ?_
   intro _ hw'
   obtain⟨nq,hw''⟩:=hw'
   subst hw''
   have hJn:J k (wr.drewN nq):=hD k wr (wr.drawn+nq) hJs (by omega)
   have hc2:(wr.drewN nq).cell? ⟨g1,0,none⟩=some (.slice A xs.length c):=kV (hR _ _ hJn).1 (j:=0) (by simp)
   have hd2:(wr.drewN nq).cell? ⟨g2,0,none⟩=some (.int .i64 (n:Int)):=kV (hR _ _ hJn).2.1 (j:=0) (by simp)
   obtain⟨fn,tmps,assign,body,hy,hRd⟩:=hY k _ hlt hJn
   have hm0:(k*n)/n=k:=Nat.mul_div_cancel _ (by omega)
   have hm1:(k*n+n)/n=k+1:=by rw[←Nat.succ_mul];exact Nat.mul_div_cancel _ (by omega)
   gi_wp2
   all_goals
    rw[hcut] at hy
    first
     |rw[aAo (k:=k) (n:=n) (m:=xs.length) (by omega),hy]
     |rw[aAn (k:=k) (n:=n) (m:=xs.length) (by omega),hy]
     |rw[aAm (k:=k) (n:=n) (m:=xs.length),hy]
    gi_wp2
    refine⟨rfl,hRd.mono ?_⟩
    rintro e W3 ⟨rfl,hJ3⟩
    have hd3:W3.cell? ⟨g2,0,none⟩=some (.int .i64 (n:Int)):=kV (hR _ _ hJ3).2.1 (j:=0) (by simp)
    gi_wp2
    go_roundw
    case rel=>exact⟨k+1,by omega,by simp[Nat.add_mul],hJ3⟩
    case measure=>
     exact aAp hn hlt
  ·obtain rfl:k=chN xs.length n:=by omega
   have hkn: ¬chN xs.length n*n<xs.length:=fun h=>hlt ((aAu hn).2 h)
   gi_wp2
   go_end0
   exact⟨⟨_,rfl⟩,hJs⟩
theorem aAq (hn:1≤n) (hn2:n≤16777216) (hmax:zs.length≤1000000):Iter Tryz.prog 73 #[.pointer (some ⟨g1,0,none⟩), .pointer (some ⟨g2,0,none⟩)] (fun w=>Rd w (some ⟨g1,0,none⟩) 1 1 1 [.slice A zs.length c]∧Rd w (some ⟨g2,0,none⟩) 1 1 1 [.int .i64 (n:Int)]∧Rd w A zs.length c 1 (ints .u8 zs)) (chN zs.length n)
  (fun k=>[.slice (iY A (k*n) c 1) (min n (zs.length-k*n)) (min n (zs.length-k*n))]):=by
 have h:=aQu (g1:=g1) (g2:=g2) (A:=A) (c:=c) (xs:=ints .u8 zs) hn hn2 (by rw[bV];exact hmax)
 rw[bV] at h
 exact h
theorem WK {sz:Int} (hn:1≤sz) (hn2:sz≤16777216) (hmax:zs.length≤1000000):Iter Tryz.prog 73 #[.pointer (some ⟨g1,0,none⟩), .pointer (some ⟨g2,0,none⟩)] (fun w=>Rd w (some ⟨g1,0,none⟩) 1 1 1 [.slice A zs.length c]∧Rd w (some ⟨g2,0,none⟩) 1 1 1 [.int .i64 sz]∧Rd w A zs.length c 1 (ints .u8 zs)) (chN zs.length sz.toNat)
  (fun k=>[.slice (iY A (k*sz.toNat) c 1) (min sz.toNat (zs.length-k*sz.toNat)) (min sz.toNat (zs.length-k*sz.toNat))]):=by
 have h:=aAq (g1:=g1) (g2:=g2) (A:=A) (c:=c) (n:=sz.toNat) (zs:=zs) (by omega) (by omega) hmax
 rw[Int.toNat_of_nonneg (by omega)] at h
 exact h
theorem aGk {B:Nat} {w0:World} {R:List Row} {l:Nat} {k:IntKind} {xs:List Int} (hr:RdC B w0 R A m c 1 (ints k xs)) (h1:l≤m):RdC B w0 R (iY A l c 1) (min n (m-l)) (min n (m-l)) 1 (ints k ((xs.drop l).take n)):=by
 intro w hw
 have hl:=(hr w hw).lenI
 have h:=hr.cutI (l:=l) (h:=l+min n (m-l)) (by omega) (by omega) w hw
 rw[show l+min n (m-l)-l=min n (m-l) by omega] at h
 have e:(xs.drop l).take (min n (m-l))=(xs.drop l).take n:=by
  rcases Nat.le_total n (m-l) with a|a
  ·rw[Nat.min_eq_left a]
  ·rw[Nat.min_eq_right a,List.take_of_length_le (by rw[List.length_drop];omega),List.take_of_length_le (by rw[List.length_drop];omega)]
 rw[e] at h
 exact⟨h.len,h.max,Nat.le_refl _,h.at_⟩
end Go.Proofs.YtdbebmmhdefgdaaGreat
namespace Go.Proofs.YtdbebmmhdefgdaaGreat
open Go Go.Eng Go.Pure
open Tryz
set_option maxRecDepth 100000
variable {w w0:World} {A_u:Option Addr} {n_u c_u B:Nat} {u acc:List Int} {R:List Row} {k so od sz:Int}
theorem aAs {n:Int} (h_u:Rd w A_u n_u c_u 1 (ints .u8 u)) (hn:1≤n):
  Ct Tryz.prog 40 #[.slice A_u n_u c_u,I n] w.heap.size w [] (fun v R'=> ∃g1 g2,v= .func (.func 73) #[] #[.pointer (GG g1), .pointer (GG g2)]∧R'=[(rc 22 1 g1 [.slice A_u u.length c_u]),(rc 3 1 g2 [I n])]):=by
 obtain rfl:=h_u.lenI
 refine fn1 Tryz.func40 Z Z Z ?_
 have m_u:=h_u.max
 refine wq<|wa (bX (sz:=1) Z Z) ?_
 rintro _ _ ⟨g_1,rfl,rfl⟩
 refine wa (bX (sz:=1) Z Z) ?_
 rintro _ _ ⟨g_2,rfl,rfl⟩
 refine wn Z<|aG<|wq<|wy (aJ (rdr 0 Z) underlying3 Z Z Z)<|wy (Yl.f (eP Z Z))<|aA<|aL Z<|aK<|wq<|wy (kQ Z Z)<|wn Z ?_
 refine aT [1,0] 99 (by decide) Z ?_
 refine⟨_,Z,?_⟩
 exact⟨_,_,Z,Z⟩
theorem xA {A_ws:Option Addr} {n_ws c_ws:Nat} {vals_ws:List Value} {ws:List (List Int)} (h_ws:Rd w A_ws n_ws c_ws 1 vals_ws) (s_ws:SlW .u8 w vals_ws ws) (hN:ws.flatten.length≤1000000∧ws.length≤1000000) (e:ws.flatten=u):
  Ct Tryz.prog 38 #[.slice A_ws n_ws c_ws] w.heap.size w [] (fun v R'=> ∃A c,v= .slice A u.length c∧R'=[(ru 5 A u.length c u)]):=by
 subst e
 exact jN h_ws s_ws hN
theorem aTg {A:Option Addr} {c:Nat}:RdC B w0 R A 0 c 1 []:=fun _ _=>⟨rfl,by omega,by omega,fun j v hv=>by simp at hv⟩
theorem aPf (h:acc=(([87,72,82,76]++[1,k%256,so%256,od%256])++bP sz)++kN k od sz.toNat u (chN u.length sz.toNat)) (hs:0≤so∧so≤2) (ho:od=0∨od=1) (hk:0≤k∧k<256):
  ([]++[acc]++[bP 0]++[bP ((u.length:Nat):Int)]:List (List Int)).flatten=nR k so od sz u:=by
 rw[h,Int.emod_eq_of_lt hk.1 hk.2,Int.emod_eq_of_lt (a:=so) (by omega) (by omega),Int.emod_eq_of_lt (a:=od) (by omega) (by omega)]
 unfold nR
 simp[chN,chK]
theorem aIf (h:acc=(([87,72,82,76]++[1,k%256,so%256,od%256])++bP sz)++kN k od sz.toNat u (chN u.length sz.toNat)) (hs:0≤so∧so≤2) (ho:od=0∨od=1) (hk:0≤k∧k<256) (hu:aO u) (hN:u.length≤100000) (hz:0≤sz):aO acc:=by
 rw[h]
 intro x hx
 rcases List.mem_append.1 hx with hx|hx
 ·rcases List.mem_append.1 hx with hx|hx
  ·simp only[List.cons_append,List.nil_append,List.mem_cons,List.not_mem_nil,or_false] at hx
   omega
  ·exact eZ hz x hx
 ·exact(lH hu hN _).2 x hx
theorem aEe (h:acc=(([87,72,82,76]++[1,k%256,so%256,od%256])++bP sz)++kN k od sz.toNat u (chN u.length sz.toNat)) (hu:aO u) (hS:u.length≤400) (h1:1≤sz) (h2:sz≤16777216):acc.length≤400000:=by
 have e1:=(lH (t:=k) (o:=od) (n:=sz.toNat) hu (by omega) (chN u.length sz.toNat)).1
 have e2:chN u.length sz.toNat≤u.length:=aAv (by omega)
 have e3:(2*u.length+22)*chN u.length sz.toNat≤822*400:=Nat.mul_le_mul (by omega) (by omega)
 have e4:=eG 4 sz (by omega)
 have e5:=congrArg List.length h
 rw[List.length_append,List.length_append] at e5
 have e6:([87,72,82,76]++[1,k%256,so%256,od%256]:List Int).length=8:=rfl
 omega
theorem aJi (h_u:RdC B w0 R A_u n_u c_u 1 (ints .u8 u)) (hn_u:n_u=u.length) (bh_u:aO u) (hN:u.length≤100000) (hp:(0≤so∧so≤2)∧(od=0∨od=1)∧(1≤sz∧sz≤16777216)) (hk:k=0∨k=1∨k=2):
  Ct Tryz.prog 41 #[.slice A_u n_u c_u, .slice none 0 0, .agg #[I k,I so,I od,I sz]] B w0 R (fun v R'=> ∃(A1:Option Addr) (c1:Nat),v= .slice A1 (dN k od u).length c1∧R'=(ru 5 A1 ((dN k od u).length) c1 (dN k od u))::R):=by
 rcases hk with rfl|rfl|rfl
 ·exact aJl h_u hn_u bh_u hN hp
 ·exact aJk h_u hn_u bh_u hN hp
 ·exact aJj h_u hn_u bh_u hN hp
theorem aUd (h_u:RdC B w0 R A_u n_u c_u 1 (ints .u8 u)) (hn_u:n_u=u.length) (bh_u:aO u) (hN:u.length≤100000) (hp:(0≤so∧so≤2)∧(od=0∨od=1)∧(1≤sz∧sz≤16777216)) (hk:k=0∨k=1∨k=2):
  Ct Tryz.prog 36 #[.agg #[.slice A_u n_u c_u, .slice none 0 0], .agg #[I k,I so,I od,I sz]] B w0 R (fun v R'=>v=I 0∧R'=R):=by
 subst hn_u
 rcases hk with rfl|rfl|rfl
 ·exact aUg h_u rfl bh_u hN hp
 ·exact aUf h_u rfl bh_u hN hp
 ·exact aUe h_u rfl bh_u hN hp
set_option maxHeartbeats 4000000 in
theorem aVd (h_u:Rd w A_u n_u c_u 1 (ints .u8 u)) (bh_u:aO u) (hS:u.length≤400) (hp:(0≤so∧so≤2)∧(od=0∨od=1)∧(1≤sz∧sz≤16777216)) (hk:k=0∨k=1∨k=2):
  Ct Tryz.prog 16 #[.agg #[.slice A_u u.length c_u, .slice none 0 0], .agg #[I k,I so,I od,I sz]] w.heap.size w [] (fun v R'=> ∃A c,v= .tuple #[.slice A (nR k so od sz u).length c,I 0]∧R'=[(ru 5 A ((nR k so od sz u).length) c (nR k so od sz u))]):=by
 obtain rfl:=h_u.lenI
 refine fnV Tryz.func16 Z Z ?_
 have m_u:=h_u.max
 have hN:u.length≤100000:=by omega
 have hpz:=eG 4 sz (by omega)
 have hpu:=eG 2 (u.length:Int) (by omega)
 refine fP ?_
 refine aM<|wa (bX (sz:=2) Z Z) ?_
 rintro _ _ ⟨g_1,rfl,rfl⟩
 refine iW (R1:=[(rc 25 2 g_1 [.slice A_u u.length c_u, .slice none 0 0])]) Z<|wa (bX (sz:=4) Z Z) ?_
 rintro _ _ ⟨g_2,rfl,rfl⟩
 refine iW (R1:=[(rc 27 4 g_2 [I k,I so,I od,I sz]),(rc 25 2 g_1 [.slice A_u u.length c_u, .slice none 0 0])]) Z<|wg Z<|wn Z ?_
 refine fP ?_
 refine wq<|wy (dG (vs:=[.slice A_u u.length c_u, .slice none 0 0]) (rdr 1 Z) underlying25 Z AJ Z Z (Nat.le_of_ble_eq_true Z) Z)<|wy (dG (vs:=[I k,I so,I od,I sz]) (rdr 0 Z) underlying27 Z gI Z Z (Nat.le_of_ble_eq_true Z) Z)<|wa (aF bCk Z (aUd (h_u.c _) (by first|rfl|(simp;done)|omega) bh_u hN hp hk)) ?_
 rintro _ _ ⟨rfl,rfl⟩
 refine wn Z<|wq<|wm Z<|wy (Yl.f (jA Z Z) (by decide))<|aA<|aL Z<|aK ?_
 refine fP ?_
 refine aM<|wa (bS .u8 [87,72,82,76] underlying22 zs5 Z Z Z) ?_
 rintro _ _ ⟨g_4,rfl,rfl⟩
 refine wa (bAv 0 Z Z underlying22 underlying5 Z Z) ?_
 rintro _ _ ⟨rfl,rfl⟩
 refine iW (R1:=[⟨5,1,(GG g_4),4,4,ints .u8 ([87,72,82,76]),true⟩,(rc 27 4 g_2 [I k,I so,I od,I sz]),(rc 25 2 g_1 [.slice A_u u.length c_u, .slice none 0 0])]) Z<|wy (aB (off:=0) (m:=0) underlying27 Z sz3 Z Z Z)<|wy (aJ (rdr 1 Z) underlying3 Z Z Z)<|wy (iG underlying3 underlying5 Z)<|wy (aB (off:=1) (m:=1) underlying27 Z sz3 Z Z Z)<|wy (aJ (rdr 1 Z) underlying3 Z Z Z)<|wy (iG underlying3 underlying5 Z)<|wy (aB (off:=2) (m:=2) underlying27 Z sz3 Z Z Z)<|wy (aJ (rdr 1 Z) underlying3 Z Z Z)<|wy (iG underlying3 underlying5 Z)<|wa (bS .u8 [1,k%256,so%256,od%256] underlying22 zs5 Z Z Z) ?_
 rintro _ _ ⟨g_6,rfl,rfl⟩
 refine wa (XB underlying22 zb5 Z (rdr 1 Z) Z (rdr 0 Z) (by first|decide|(dsimp only;decide)) (by first|decide|(dsimp only;decide)) (by first|decide|(dsimp only;decide)) (by first|decide|(dsimp only;decide)) (by first|decide|(dsimp only;decide)) Z) ?_
 rintro _ _ ⟨g_7,c_8,rfl,rfl⟩
 refine iW (R1:=[(ru 5 (GG g_7) 8 c_8 (([87,72,82,76])++([1,k%256,so%256,od%256]))),(ru 5 (GG g_6) 4 4 ([1,k%256,so%256,od%256])),⟨5,1,(GG g_4),4,4,ints .u8 ([87,72,82,76]),true⟩,(rc 27 4 g_2 [I k,I so,I od,I sz]),(rc 25 2 g_1 [.slice A_u u.length c_u, .slice none 0 0])]) Z<|bN (v:= .slice (GG g_7) 8 c_8) Z<|wa (iI (sz:=1) bBf Z) ?_
 rintro _ _ ⟨g_9,rfl,rfl⟩
 refine iW (R1:=[(rc 22 1 g_9 [.slice none 0 0]),(ru 5 (GG g_7) 8 c_8 (([87,72,82,76])++([1,k%256,so%256,od%256]))),(ru 5 (GG g_6) 4 4 ([1,k%256,so%256,od%256])),⟨5,1,(GG g_4),4,4,ints .u8 ([87,72,82,76]),true⟩,(rc 27 4 g_2 [I k,I so,I od,I sz]),(rc 25 2 g_1 [.slice A_u u.length c_u, .slice none 0 0])]) Z<|bY (aY 0 Z Z Z dO Z Z Z Z (Nat.le_of_ble_eq_true Z)) ?_
 rintro _ _ rfl
 refine iW (R1:=[(rc 22 1 g_9 [.slice (GG g_7) 8 c_8]),(ru 5 (GG g_7) 8 c_8 (([87,72,82,76])++([1,k%256,so%256,od%256]))),(ru 5 (GG g_6) 4 4 ([1,k%256,so%256,od%256])),⟨5,1,(GG g_4),4,4,ints .u8 ([87,72,82,76]),true⟩,(rc 27 4 g_2 [I k,I so,I od,I sz]),(rc 25 2 g_1 [.slice A_u u.length c_u, .slice none 0 0])]) Z<|aA ?_
 refine fP ?_
 refine bT mixed<|wD 0 Z (aJ (rdr 0 Z) underlying22 Z Z Z)<|wD 1 Z (aB (off:=3) (m:=3) underlying27 Z sz3 Z Z Z)<|wD 2 Z (aJ (rdr 4 Z) underlying3 Z Z Z)<|wC 3 Z (aF KU Z (Ct.fresh (fun w hw=>kJ (by omega)))) ?_
 rintro _ _ ⟨_,rfl,A_10,c_11,rfl,rfl⟩
 refine⟨.inr fun _ h=>h.right (R':=[_]),?_⟩
 refine wC 4 Z (bE 2 Z underlying22 zb5 Z Z Z (rdr 0 Z)) ?_
 rintro _ _ ⟨A_13,c_14,rfl,rfl⟩
 refine⟨.inl (by kernel_rfl),?_⟩
 refine xM (R1:=[(ru 5 A_10 ((bP sz).length) c_11 (bP sz)),(rc 22 1 g_9 [.slice (GG g_7) 8 c_8]),(ru 5 A_13 (8+((bP sz).length)) c_14 ((([87,72,82,76])++([1,k%256,so%256,od%256]))++(bP sz))),(ru 5 (GG g_6) 4 4 ([1,k%256,so%256,od%256])),⟨5,1,(GG g_4),4,4,ints .u8 ([87,72,82,76]),true⟩,(rc 27 4 g_2 [I k,I so,I od,I sz]),(rc 25 2 g_1 [.slice A_u u.length c_u, .slice none 0 0])]) Z<|CE (v:= .slice A_13 (8+((bP sz).length)) c_14) Z<|pR 5 Z (by kernel_rfl) (aY 1 Z Z Z dO Z Z Z Z (Nat.le_of_ble_eq_true Z)) ?_
 rintro _ _ rfl
 refine⟨.inl (by kernel_rfl),?_⟩
 refine xM (R1:=[(ru 5 A_10 ((bP sz).length) c_11 (bP sz)),(rc 22 1 g_9 [.slice A_13 (8+((bP sz).length)) c_14]),(ru 5 A_13 (8+((bP sz).length)) c_14 ((([87,72,82,76])++([1,k%256,so%256,od%256]))++(bP sz))),(ru 5 (GG g_6) 4 4 ([1,k%256,so%256,od%256])),⟨5,1,(GG g_4),4,4,ints .u8 ([87,72,82,76]),true⟩,(rc 27 4 g_2 [I k,I so,I od,I sz]),(rc 25 2 g_1 [.slice A_u u.length c_u, .slice none 0 0])]) Z<|wN ?_
 refine fP ?_
 refine bT mixed<|wD 0 Z (aB (off:=0) (m:=0) underlying25 Z dO Z Z Z)<|wD 1 Z (aJ (rdr 6 Z) underlying22 Z Z Z)<|wD 2 Z (aB (off:=1) (m:=1) underlying25 Z wI Z Z Z)<|wD 3 Z (aJ (rdr 6 Z) underlying23 Z Z Z)<|wC 4 Z (aF bGd Z (WL)) ?_
 rintro _ _ ⟨A_15,c_16,rfl,rfl⟩
 refine⟨.inr fun _ h=>h,?_⟩
 refine wC 5 Z (aF KT Z (Ct.fresh (fun w hw=>xA (u:=([]:List Int)) (aTg w hw) (iZ _ _) ⟨by decide,by decide⟩ rfl))) ?_
 rintro _ _ ⟨_,rfl,A_17,c_18,rfl,rfl⟩
 refine⟨.inr fun _ h=>h.right (R':=[_]),?_⟩
 refine wC 6 Z (nN [Value.slice A_u u.length c_u,Value.slice A_17 ((([]:List Int)).length) c_18] underlying23 xG Z Z Z Z) ?_
 rintro _ _ ⟨g_21,rfl,rfl⟩
 refine⟨.inr fun _ h=>h.right (R':=[_]),?_⟩
 refine wC 7 Z (aF KT Z (Ct.fresh (fun w hw=>xA (u:=u) ((rdr 0 Z) w hw) (((iZ _ _).snoc ((h_u.c _) w hw) (fun x hx=>fH (bh_u x hx)) (by omega)).snoc ((rdr 1 Z) w hw) (fun x hx=>fH ((show aO [] from fun _ h=>nomatch h) x hx)) (by decide)) ⟨by simp;omega,by simp⟩ (by simp)))) ?_
 rintro _ _ ⟨_,rfl,A_22,c_23,rfl,rfl⟩
 refine⟨.inr fun _ h=>h.right (R':=[_]),?_⟩
 refine wD 8 Z (bQ Z)<|wN ?_
 refine fP ?_
 refine aM<|wy (aB (off:=3) (m:=3) underlying27 Z sz3 Z Z Z)<|wy (aJ (rdr 8 Z) underlying3 Z Z Z)<|wn Z ?_
 refine fP ?_
 refine wq<|wy (aB (off:=0) (m:=0) underlying27 Z sz3 Z Z Z)<|wy (aJ (rdr 8 Z) underlying3 Z Z Z)<|wy (Yl.f (bC Z Z))<|aA<|aL Z<|aK ?_
 refine aCb ?_
 refine fP ?_
 refine aM<|wm Z<|wm Z<|wa (aF bGc Z (Ct.fresh (fun w hw=>aAs ((rdr 0 Z) w hw) (by omega)))) ?_
 rintro _ _ ⟨_,rfl,g_24,g_25,rfl,rfl⟩
 refine aA ?_
 refine DY ?_
 refine RA Z bFt (WK (A:=A_22) (c:=c_23) (zs:=u) (sz:=sz) (by omega) (by omega) (by omega)) Z (fun _=>Z) Gd.refl (fun(kr:Nat) (A1:Option Addr) (n1:Nat) (c1:Nat) (acc:List Int)=>[(rc 22 1 g_24 [.slice A_22 ((u).length) c_23]),(rc 3 1 g_25 [I sz]),(ru 5 A_22 ((u).length) c_23 u),⟨22,1,(GG g_21),2,2,[Value.slice A_u u.length c_u,Value.slice A_17 ((([]:List Int)).length) c_18],false⟩,(ru 5 A_17 ((([]:List Int)).length) c_18 ([]:List Int)),(ru 5 A_10 ((bP sz).length) c_11 (bP sz)),(rc 22 1 g_9 [.slice A1 n1 c1]),(ru 5 A1 n1 c1 acc),(ru 5 (GG g_6) 4 4 ([1,k%256,so%256,od%256])),⟨5,1,(GG g_4),4,4,ints .u8 ([87,72,82,76]),true⟩,(rc 27 4 g_2 [I k,I so,I od,I sz]),(rc 25 2 g_1 [.slice A_u u.length c_u, .slice none 0 0])]) (fun kr A1 n1 c1 acc=>(n1=acc.length)∧(acc=(([87,72,82,76]++[1,k%256,so%256,od%256])++bP sz)++kN k od sz.toNat u kr)) ?_ ?_ ?_ ?_
 ·exact⟨A_13,8+((bP sz).length),c_14,(([87,72,82,76])++([1,k%256,so%256,od%256]))++(bP sz),⟨(by rw[List.length_append];rfl),(by rw[zQ,List.append_nil])⟩,fun _ h=>h⟩
 ·intro kr A1 n1 c1 acc w ⟨hn1,hacc⟩ hw
  exact⟨(rdr 0 Z) w hw,(rdr 1 Z) w hw,(rdr 2 Z) w hw⟩
 ·intro lr kr A1 n1 c1 acc WW1 hkr ⟨hn1,hacc⟩ hbW1
  have hkl:kr*sz.toNat<u.length:=(aAu (by omega)).1 (by assumption)
  have hkc:kr≤400:=Nat.le_trans (Nat.le_mul_of_pos_right kr (show 0<sz.toNat by omega)) (by omega)
  have hal:=congrArg List.length hacc
  rw[List.length_append,List.length_append,List.length_append] at hal
  have hbl:=lH (t:=k) (o:=od) (n:=sz.toNat) bh_u hN kr
  have hbm:(2*u.length+22)*kr≤822*400:=Nat.mul_le_mul (by omega) hkc
  have hbk:=JO (t:=k) (o:=od) (b:=(u.drop (kr*sz.toNat)).take sz.toNat) ((bh_u.drop _).take _) (by rw[List.length_take,List.length_drop];omega)
  have hbk3:((u.drop (kr*sz.toNat)).take sz.toNat).length≤u.length:=by rw[List.length_take,List.length_drop];omega
  have h8:([87,72,82,76]:List Int).length=4:=rfl
  have h9:([1,k%256,so%256,od%256]:List Int).length=4:=rfl
  refine aM<|wn Z ?_
  intro WW13 hbW13
  refine aI<|bT mixed<|wD 0 Z (aJ (rdr 6 Z) underlying22 Z Z Z)<|wD 1 Z (aN Z)<|wD 2 Z (aB (off:=1) (m:=1) underlying25 Z wI Z Z Z)<|wD 3 Z (aJ (rdr 11 Z) underlying23 Z Z Z)<|wD 4 Z (dG (vs:=[I k,I so,I od,I sz]) (rdr 10 Z) underlying27 Z gI Z Z (Nat.le_of_ble_eq_true Z) Z)<|wC 5 Z (aF bGb Z (aJi (aGk (l:=kr*sz.toNat) (n:=sz.toNat) (rdr 2 Z) (by first|omega|(dsimp only;omega))) (by rw[List.length_take,List.length_drop]) ((bh_u.drop _).take _) (by rw[List.length_take,List.length_drop];omega) hp hk)) ?_
  rintro _ _ ⟨A_26,c_27,rfl,rfl⟩
  refine⟨.inr fun _ h=>h.right (R':=[_]),?_⟩
  refine wC 6 Z (bE 8 Z underlying22 zb5 Z Z Z (rdr 0 Z)) ?_
  rintro _ _ ⟨A_28,c_29,rfl,rfl⟩
  refine⟨.inl (by kernel_rfl),?_⟩
  refine xM (R1:=[(ru 5 A_26 ((dN k od ((u.drop (kr*sz.toNat)).take sz.toNat)).length) c_27 (dN k od ((u.drop (kr*sz.toNat)).take sz.toNat))),(rc 22 1 g_24 [.slice A_22 ((u).length) c_23]),(rc 3 1 g_25 [I sz]),(ru 5 A_22 ((u).length) c_23 u),⟨22,1,(GG g_21),2,2,[Value.slice A_u u.length c_u,Value.slice A_17 ((([]:List Int)).length) c_18],false⟩,(ru 5 A_17 ((([]:List Int)).length) c_18 ([]:List Int)),(ru 5 A_10 ((bP sz).length) c_11 (bP sz)),(rc 22 1 g_9 [.slice A1 n1 c1]),(ru 5 A_28 (n1+((dN k od ((u.drop (kr*sz.toNat)).take sz.toNat)).length)) c_29 (acc++(dN k od ((u.drop (kr*sz.toNat)).take sz.toNat)))),(ru 5 (GG g_6) 4 4 ([1,k%256,so%256,od%256])),⟨5,1,(GG g_4),4,4,ints .u8 ([87,72,82,76]),true⟩,(rc 27 4 g_2 [I k,I so,I od,I sz]),(rc 25 2 g_1 [.slice A_u u.length c_u, .slice none 0 0])]) Z<|CE (v:= .slice A_28 (n1+((dN k od ((u.drop (kr*sz.toNat)).take sz.toNat)).length)) c_29) Z<|pR 7 Z (by kernel_rfl) (aY 7 Z Z Z dO Z Z Z Z (Nat.le_of_ble_eq_true Z)) ?_
  rintro _ _ rfl
  refine⟨.inl (by kernel_rfl),?_⟩
  refine xM (R1:=[(ru 5 A_26 ((dN k od ((u.drop (kr*sz.toNat)).take sz.toNat)).length) c_27 (dN k od ((u.drop (kr*sz.toNat)).take sz.toNat))),(rc 22 1 g_24 [.slice A_22 ((u).length) c_23]),(rc 3 1 g_25 [I sz]),(ru 5 A_22 ((u).length) c_23 u),⟨22,1,(GG g_21),2,2,[Value.slice A_u u.length c_u,Value.slice A_17 ((([]:List Int)).length) c_18],false⟩,(ru 5 A_17 ((([]:List Int)).length) c_18 ([]:List Int)),(ru 5 A_10 ((bP sz).length) c_11 (bP sz)),(rc 22 1 g_9 [.slice A_28 (n1+((dN k od ((u.drop (kr*sz.toNat)).take sz.toNat)).length)) c_29]),(ru 5 A_28 (n1+((dN k od ((u.drop (kr*sz.toNat)).take sz.toNat)).length)) c_29 (acc++(dN k od ((u.drop (kr*sz.toNat)).take sz.toNat)))),(ru 5 (GG g_6) 4 4 ([1,k%256,so%256,od%256])),⟨5,1,(GG g_4),4,4,ints .u8 ([87,72,82,76]),true⟩,(rc 27 4 g_2 [I k,I so,I od,I sz]),(rc 25 2 g_1 [.slice A_u u.length c_u, .slice none 0 0])]) Z<|wN ?_
  exact⟨A_28,n1+((dN k od ((u.drop (kr*sz.toNat)).take sz.toNat)).length),c_29,acc++(dN k od ((u.drop (kr*sz.toNat)).take sz.toNat)),⟨(by rw[List.length_append,hn1]),(by rw[zR,←List.append_assoc,←hacc])⟩,fun _=>fun _ h=>h.sel [1,2,3,4,5,6,7,8,9,10,11,12] (by decide) Z⟩
 intro WW15 DW1 A1 n1 c1 acc ⟨hn1,hacc⟩ hbW15 hGW15
 refine aCd ?_
 refine aSb ?_
 refine v_w ?_
 refine aG<|bT mixed<|wD 0 Z (aJ (rdr 6 Z) underlying22 Z Z Z)<|wD 2 Z (aN Z)<|wD 3 Z (aQ underlying22 Z)<|wC 1 Z (aF KU Z (Ct.fresh (fun w hw=>kJ (by decide)))) ?_
 rintro _ _ ⟨_,rfl,A_30,c_31,rfl,rfl⟩
 refine⟨.inr fun _ h=>h.right (R':=[_]),?_⟩
 refine wC 4 Z (aF KU Z (Ct.fresh (fun w hw=>kJ (by omega)))) ?_
 rintro _ _ ⟨_,rfl,A_33,c_34,rfl,rfl⟩
 refine⟨.inr fun _ h=>h.right (R':=[_]),?_⟩
 refine wC 5 Z (nN [Value.slice A1 n1 c1,Value.slice A_30 ((bP 0).length) c_31,Value.slice A_33 ((bP (((u).length:Nat):Int)).length) c_34] underlying23 xG Z Z Z Z) ?_
 rintro _ _ ⟨g_37,rfl,rfl⟩
 refine⟨.inr fun _ h=>h.right (R':=[_]),?_⟩
 refine wC 6 Z (aF KT Z (Ct.fresh (fun w hw=>xA (u:=(nR k so od sz u)) ((rdr 0 Z) w hw) ((((iZ _ _).snoc ((rdr 10 Z) w hw) (fun x hx=>fH ((aIf hacc hp.1 hp.2.1 (by omega) bh_u hN (by omega)) x hx)) (by have:=aEe hacc bh_u hS (by omega) (by omega);omega)).snoc ((rdr 2 Z) w hw) (fun x hx=>fH ((eZ (by omega)) x hx)) (by decide)).snoc ((rdr 1 Z) w hw) (fun x hx=>fH ((eZ (by omega)) x hx)) (by omega)) ⟨by have:=aEe hacc bh_u hS (by omega) (by omega);simp only[List.length_flatten,List.nil_append,List.cons_append,List.map_cons,List.map_nil,List.sum_cons,List.sum_nil];have h0:(bP 0).length=1:=rfl;omega,by simp⟩ (aPf hacc hp.1 hp.2.1 (by omega))))) ?_
 rintro _ _ ⟨_,rfl,A_38,c_39,rfl,rfl⟩
 refine⟨.inr fun _ h=>h.right (R':=[_]),?_⟩
 refine wD 7 Z (bQ Z)<|wD 8 Z (bQ Z)<|wN<|aT [0] 99 (by decide) Z ?_
 refine aOz Z hGW15 ⟨_,_,Z,Z,?_⟩
 exact⟨_,_,Z,Z⟩
variable {w:World} {k so od sz:Int} {A_u:Option Addr} {n_u c_u:Nat} {u:List Int}
theorem aJe (hno: ¬((0≤k∧k≤3)∧(0≤so∧so≤2)∧(od=0∨od=1)∧(1≤sz∧sz≤16777216))):
  Ct Tryz.prog 23 #[.agg #[I k,I so,I od,I sz]] w.heap.size w [] (fun v R'=>v= .bool false):=by
 refine fn1 Tryz.func23 Z Z Z ?_
 refine wq<|wa (bX (sz:=4) Z Z) ?_
 rintro _ _ ⟨g_1,rfl,rfl⟩
 refine wn Z<|wq<|wy (aB (off:=0) (m:=0) underlying27 Z sz3 Z Z Z)<|wy (aJ (rdr 0 Z) underlying3 Z Z Z)<|wy (jG Z Z)<|wm Z<|dS 4 [(1, .pointer (GG g_1)),(10, .bool (decide ((0≤k)∧(k≤3))))] [(rc 27 4 g_1 [I k,I so,I od,I sz])] ?_ ?_
 ·refine dC 6 Z (fun hc1=> ?_) (fun hc1=> ?_)
  ·refine aC Z Z<|wy (aB (off:=0) (m:=0) underlying27 Z sz3 Z Z Z)<|aC Z Z<|wy (aJ (rdr 0 Z) underlying3 Z Z Z)<|aC Z Z<|wy (vZ Z Z)<|wy (bA Z Z)<|aA ?_
   exact⟨(sc Z (Sub.to Z mbA Sub.nil)),fun _ h=>h⟩
  ·refine aP Z Z Z Z<|aP Z Z Z Z<|aP Z Z Z Z<|wy (aS Z Z)<|aA ?_
   exact⟨(sc Z (Sub.to Z mfA Sub.nil)),fun _ h=>h⟩
 refine wm Z<|dS 4 [(1, .pointer (GG g_1)),(15, .bool (decide (((0≤k)∧(k≤3))∧(0≤so))))] [(rc 27 4 g_1 [I k,I so,I od,I sz])] ?_ ?_
 ·refine dC 11 Z (fun hc2=> ?_) (fun hc2=> ?_)
  ·refine aC Z Z<|wy (aB (off:=1) (m:=1) underlying27 Z sz3 Z Z Z)<|aC Z Z<|wy (aJ (rdr 0 Z) underlying3 Z Z Z)<|aC Z Z<|wy (jG Z Z)<|wy (bA Z Z)<|aA ?_
   exact⟨(sc Z (Sub.to Z mbA Sub.nil)),fun _ h=>h⟩
  ·refine aP Z Z Z Z<|aP Z Z Z Z<|aP Z Z Z Z<|wy (aS Z Z)<|aA ?_
   exact⟨(sc Z (Sub.to Z mfA Sub.nil)),fun _ h=>h⟩
 refine wm Z<|dS 4 [(1, .pointer (GG g_1)),(20, .bool (decide ((((0≤k)∧(k≤3))∧(0≤so))∧(so<3))))] [(rc 27 4 g_1 [I k,I so,I od,I sz])] ?_ ?_
 ·refine dC 16 Z (fun hc3=> ?_) (fun hc3=> ?_)
  ·refine aC Z Z<|wy (aB (off:=1) (m:=1) underlying27 Z sz3 Z Z Z)<|aC Z Z<|wy (aJ (rdr 0 Z) underlying3 Z Z Z)<|aC Z Z<|wL Z Z<|wy (bA Z Z)<|aA ?_
   exact⟨(sc Z (Sub.to Z mbA Sub.nil)),fun _ h=>h⟩
  ·refine aP Z Z Z Z<|aP Z Z Z Z<|aP Z Z Z Z<|wy (aS Z Z)<|aA ?_
   exact⟨(sc Z (Sub.to Z mfA Sub.nil)),fun _ h=>h⟩
 refine wm Z<|dS 9 [(1, .pointer (GG g_1)),(30, .bool (decide (((((0≤k)∧(k≤3))∧(0≤so))∧(so<3))∧((od=0)∨(od=1)))))] [(rc 27 4 g_1 [I k,I so,I od,I sz])] ?_ ?_
 ·refine dC 21 Z (fun hc4=> ?_) (fun hc4=> ?_)
  ·refine aC Z Z<|wy (aB (off:=2) (m:=2) underlying27 Z sz3 Z Z Z)<|aC Z Z<|wy (aJ (rdr 0 Z) underlying3 Z Z Z)<|aC Z Z<|wy (bC Z Z)<|aC Z Z<|wm Z<|dS 4 [(1, .pointer (GG g_1)),(21, .bool true),(29, .bool (decide ((od=0)∨(od=1))))] [(rc 27 4 g_1 [I k,I so,I od,I sz])] ?_ ?_
   ·refine dC 25 Z (fun hc5=> ?_) (fun hc5=> ?_)
    ·refine aP Z Z Z Z<|aP Z Z Z Z<|aP Z Z Z Z<|aC Z Z<|wy (bA Z Z)<|aA ?_
     exact⟨(sc Z (sc Z (Sub.to Z mtA Sub.nil))),fun _ h=>h⟩
    ·refine aC Z Z<|wy (aB (off:=2) (m:=2) underlying27 Z sz3 Z Z Z)<|aC Z Z<|wy (aJ (rdr 0 Z) underlying3 Z Z Z)<|aC Z Z<|wy (bC Z Z)<|aC Z Z<|wy (aS Z Z)<|aA ?_
     exact⟨(sc Z (sc Z (Sub.to Z mbA Sub.nil))),fun _ h=>h⟩
   refine wy (bA Z Z)<|aA ?_
   exact⟨(sc Z (Sub.to Z mbA Sub.nil)),fun _ h=>h⟩
  ·refine aP Z Z Z Z<|aP Z Z Z Z<|aP Z Z Z Z<|aP Z Z Z Z<|dX Z Z Z<|dX Z Z Z<|dX Z Z Z<|aP Z Z Z Z<|wy (aS Z Z)<|aA ?_
   exact⟨(sc Z (Sub.to Z mfA Sub.nil)),fun _ h=>h⟩
 refine wm Z<|dS 4 [(1, .pointer (GG g_1)),(35, .bool (decide ((((((0≤k)∧(k≤3))∧(0≤so))∧(so<3))∧((od=0)∨(od=1)))∧(1≤sz))))] [(rc 27 4 g_1 [I k,I so,I od,I sz])] ?_ ?_
 ·refine dC 31 Z (fun hc6=> ?_) (fun hc6=> ?_)
  ·refine aC Z Z<|wy (aB (off:=3) (m:=3) underlying27 Z sz3 Z Z Z)<|aC Z Z<|wy (aJ (rdr 0 Z) underlying3 Z Z Z)<|aC Z Z<|wy (jG Z Z)<|wy (bA Z Z)<|aA ?_
   exact⟨(sc Z (Sub.to Z mbA Sub.nil)),fun _ h=>h⟩
  ·refine aP Z Z Z Z<|aP Z Z Z Z<|aP Z Z Z Z<|wy (aS Z Z)<|aA ?_
   exact⟨(sc Z (Sub.to Z mfA Sub.nil)),fun _ h=>h⟩
 refine wm Z<|dS 4 [(40, .bool (decide (((((((0≤k)∧(k≤3))∧(0≤so))∧(so<3))∧((od=0)∨(od=1)))∧(1≤sz))∧(sz≤16777216))))] [(rc 27 4 g_1 [I k,I so,I od,I sz])] ?_ ?_
 ·refine dC 36 Z (fun hc7=> ?_) (fun hc7=> ?_)
  ·refine aC Z Z<|wy (aB (off:=3) (m:=3) underlying27 Z sz3 Z Z Z)<|aC Z Z<|wy (aJ (rdr 0 Z) underlying3 Z Z Z)<|aC Z Z<|wy (vZ Z Z)<|wy (bA Z Z)<|aA ?_
   exact⟨(Sub.to Z mbA Sub.nil),fun _ h=>h⟩
  ·refine aP Z Z Z Z<|aP Z Z Z Z<|aP Z Z Z Z<|wy (aS Z Z)<|aA ?_
   exact⟨(Sub.to Z mfA Sub.nil),fun _ h=>h⟩
 refine wn Z<|aT [] 99 (by decide) Z ?_
 refine⟨_,Z,?_⟩
 exact congrArg Value.bool (decide_eq_false (by omega))
theorem aUc (h_u:Rd w A_u n_u c_u 1 (ints .u8 u)) (hno: ¬((0≤k∧k≤3)∧(0≤so∧so≤2)∧(od=0∨od=1)∧(1≤sz∧sz≤16777216))):
  Ct Tryz.prog 36 #[.agg #[.slice A_u u.length c_u, .slice none 0 0], .agg #[I k,I so,I od,I sz]] w.heap.size w [] (fun v R'=>v=I 1):=by
 obtain rfl:=h_u.lenI
 refine fn1 Tryz.func36 Z Z Z ?_
 have m_u:=h_u.max
 refine wq<|wa (bX (sz:=2) Z Z) ?_
 rintro _ _ ⟨g_1,rfl,rfl⟩
 refine wa (bX (sz:=4) Z Z) ?_
 rintro _ _ ⟨g_3,rfl,rfl⟩
 refine wn Z<|wq<|wn Z<|wq<|wy (aB (off:=0) (m:=0) underlying27 Z sz3 Z Z Z)<|wy (aJ (rdr 0 Z) underlying3 Z Z Z)<|wy (bC Z Z)<|wn Z<|aG<|aG ?_
 refine aM<|wy (dG (vs:=[I k,I so,I od,I sz]) (rdr 0 Z) underlying27 Z gI Z Z (Nat.le_of_ble_eq_true Z) Z)<|wa (aF aPl Z (Ct.quiet (fun w hw=>aJe hno))) ?_
 rintro _ _ ⟨rfl,rfl⟩
 refine wy (dI Z)<|wm Z<|aP Z Z Z Z<|aP Z Z Z Z<|aP Z Z Z Z<|dX Z Z Z<|dX Z Z Z<|dX Z Z Z<|dX Z Z Z<|aP Z Z Z Z<|wy (bA Z Z)<|wm Z<|aP Z Z Z Z<|aP Z Z Z Z<|dX Z Z Z ?_
 refine dX Z Z Z<|dX Z Z Z<|dX Z Z Z<|aP Z Z Z Z<|wy (bA Z Z)<|wm Z<|aP Z Z Z Z<|aP Z Z Z Z<|aP Z Z Z Z<|aP Z Z Z Z<|wy (bA Z Z)<|aA<|bO Z<|wq ?_
 refine wn Z<|aT [] 99 (by decide) Z ?_
 refine⟨_,Z,?_⟩
 rfl
theorem aVe (h_u:Rd w A_u n_u c_u 1 (ints .u8 u)) (hno: ¬((0≤k∧k≤3)∧(0≤so∧so≤2)∧(od=0∨od=1)∧(1≤sz∧sz≤16777216))):
  Ct Tryz.prog 16 #[.agg #[.slice A_u u.length c_u, .slice none 0 0], .agg #[I k,I so,I od,I sz]] w.heap.size w [] (fun v R'=>v= .tuple #[.slice none 0 0,I 1]):=by
 obtain rfl:=h_u.lenI
 refine fnV Tryz.func16 Z Z ?_
 have m_u:=h_u.max
 refine fP ?_
 refine aM<|wa (bX (sz:=2) Z Z) ?_
 rintro _ _ ⟨g_1,rfl,rfl⟩
 refine wa (bX (sz:=4) Z Z) ?_
 rintro _ _ ⟨g_3,rfl,rfl⟩
 refine wg Z<|wn Z ?_
 refine fP ?_
 refine wq<|wy (dG (vs:=[.slice A_u u.length c_u, .slice none 0 0]) (rdr 1 Z) underlying25 Z AJ Z Z (Nat.le_of_ble_eq_true Z) Z)<|wy (dG (vs:=[I k,I so,I od,I sz]) (rdr 0 Z) underlying27 Z gI Z Z (Nat.le_of_ble_eq_true Z) Z)<|wa (aF bCk Z (Ct.quiet (fun w hw=>aUc ((h_u.c _) w hw) hno))) ?_
 rintro _ _ ⟨rfl,rfl⟩
 refine wn Z<|wq<|wm Z<|wy (Yl.t (jA Z Z) (by decide))<|aA<|bO Z<|wq<|wm Z<|wg Z<|wn Z<|aT [] 99 (by decide) Z ?_
 refine aOz Z Gd.refl ⟨_,_,Z,Z,?_⟩
 rfl
end Go.Proofs.YtdbebmmhdefgdaaGreat
namespace Go.Eng
open Go Go.RowKit Go.Pure
variable {B e m c k:Nat} {w0 w:World} {R:List Row} {A:Option Addr} {l:List (Int × Int)}
theorem Hp.shrinkP (h:Hp B w0 w (⟨e,2,A,m,c,prs l,false⟩::R)) (hk:k<m):Hp B w0 w (⟨e,2,A,k,c,prs (l.take k),false⟩::R):=by
 have hA:A≠none:=by
  rintro rfl
  have h1:=Row.lies_w (h.own _ (.head _)) rfl
  rcases h1.2 with⟨_,hn⟩|⟨g,cap,cur,hv,_⟩
  ·simp only at hn;omega
  ·simp at hv
 have:=h.cut (k:=k) (by omega) hA
 rwa[aMo] at this
theorem Hp.dropLast {x:Int × Int} (h:Hp B w0 w (⟨e,2,A,m,c,prs (l++[x]),false⟩::R)) (hm:m=l.length+1):Hp B w0 w (⟨e,2,A,l.length,c,prs l,false⟩::R):=by
 have:=h.shrinkP (k:=l.length) (by omega)
 rwa[List.take_left] at this
theorem lN (l:List (Int × Int)) (m:Int × Int):rdp (l++[m]) (l.length:Int)=m:=by
 unfold rdp
 rw[Int.toNat_natCast,List.getD_eq_getElem?_getD,List.getElem?_append_right (Nat.le_refl _),Nat.sub_self]
 rfl
theorem sS {P:Program} {n:Nd} {L:Env} {ty:TypeId} {x:Operand} {t tf:TypeId} {fs:Array Field} {st off:Nat} {i:Int} (hu:P.underlying t=some (.struct fs)) (hf:(fs[k]?).map (fun f=>(f.offset,f.type))=some (off,tf)) (hst:(P.info? tf).map (·.size)=some st) (hs0:Nat.blt 0 st=true)
  (hx:ev L x=some (.pointer (pat A (i.toNat*2)))) (hr:RdC B w0 R A m c 2 (prs l)) (h0:0≤i) (h1:i<l.length):Yl P n B w0 (.fieldAddr t x k) ty L R (.pointer (pat A (i.toNat*2+off))):=by
 obtain⟨f,hf',he⟩:=Option.map_eq_some_iff.1 hf
 simp only[Prod.mk.injEq] at he
 obtain⟨rfl,rfl⟩:=he
 intro a w o ho hty hs hp
 obtain⟨a0,rfl,_⟩:=(hr w hp).at_ _ _ (aDd h0 h1)
 have:=BX (P:=P) (n:=n) (B:=B) (w0:=w0) (R:=R) (ty:=ty) hu hf' hst hs0 (show ev L x=some (.pointer (some (a0.add (i.toNat*2)))) from hx) a w o ho hty hs hp
 rw[add_add] at this
 exact this
end Go.Eng
namespace Go.Proofs.YtdbebmmhdefgdaaGreat
open Go Go.Eng Go.Pure
open Tryz
variable {B g nt ct np cp:Nat} {w0:World} {R:List Row} {At Ap:Option Addr} {l:List (Int × Int)} {k:Int} {s:List Int}
set_option maxRecDepth 100000 in
theorem TZ {w:World}:
  Ct Tryz.prog 29 #[] w.heap.size w [] (fun v R'=> ∃g,v= .pointer (some ⟨g,0,none⟩)∧R'=[⟨102,2,(some ⟨g,0,none⟩),1,1,[.slice none 0 0, .slice none 0 0],false⟩,⟨5,1,none,0,0,ints .u8 ([]),false⟩,⟨106,2,none,0,0,prs ([]),false⟩]):=by
 refine fn1 Tryz.func29 rfl rfl rfl ?_
 refine wq<|wg rfl<|aA<|wq<|wy (dY (v:= .agg #[.slice none 0 0, .slice none 0 0]) rfl (fun w=>by kernel_rfl))<|wa (bX (sz:=2) rfl rfl) ?_
 rintro _ _ ⟨g_1,rfl,rfl⟩
 refine dH (R1:=[⟨102,2,(some ⟨g_1,0,none⟩),1,1,[.slice none 0 0, .slice none 0 0],false⟩,⟨5,1,none,0,0,ints .u8 ([]),false⟩,⟨106,2,none,0,0,prs ([]),false⟩]) (Sub.refl _) (fun _ h=>((h.nilP 106).nil 5 1).sel [2,0,1] (by decide) rfl)<|wg rfl<|aA<|bR (R1:=[⟨102,2,(some ⟨g_1,0,none⟩),1,1,[.slice none 0 0, .slice none 0 0],false⟩,⟨5,1,none,0,0,ints .u8 ([]),false⟩,⟨106,2,none,0,0,prs ([]),false⟩]) (fun _ h=>h) ?_
 refine⟨_,rfl,?_⟩
 exact⟨_,rfl,rfl⟩
set_option maxRecDepth 100000 in
theorem vL {A2:Option Addr} {n2 c2:Nat} {at_:Int} (hnp:np=l.length) (hl:l.length≤1000000):
  Ct Tryz.prog 59 #[.pointer (some ⟨g,0,none⟩), .slice A2 n2 c2, .agg #[.int .i64 k, .int .i64 at_]] B w0 (⟨102,2,(some ⟨g,0,none⟩),1,1,[.slice At nt ct, .slice Ap np cp],false⟩::⟨106,2,Ap,np,cp,prs l,false⟩::R) (fun v R'=> ∃(A7:Option Addr) (c7:Nat),v= .int .i64 0∧R'=⟨102,2,(some ⟨g,0,none⟩),1,1,[.slice A2 n2 c2, .slice A7 ((l++[(k,at_)]).length) c7],false⟩::⟨106,2,A7,(l++[(k,at_)]).length,c7,prs (l++[(k,at_)]),false⟩::R):=by
 subst hnp
 refine fn1 Tryz.func59 rfl rfl rfl ?_
 refine wq<|wa (bX (sz:=2) rfl rfl) ?_
 rintro _ _ ⟨g_1,rfl,rfl⟩
 refine wg rfl<|aA<|wq<|wm rfl<|wm rfl<|wy (aD rfl)<|wy (aB (off:=0) (m:=0) underlying102 rfl dO rfl rfl rfl)<|bY (aY 1 rfl rfl rfl dO rfl rfl rfl rfl (Nat.le_of_ble_eq_true rfl)) ?_
 rintro _ _ rfl
 refine aA<|aG<|bT mixed<|gF 0 rfl (by kernel_rfl) rfl (aN rfl)<|gF 1 rfl (by kernel_rfl) rfl (aN rfl)<|gF 2 rfl (by kernel_rfl) rfl (aD rfl)<|gF 3 rfl (by kernel_rfl) rfl (aB (off:=1) (m:=1) underlying102 rfl fT rfl rfl rfl)<|gF 4 rfl (by kernel_rfl) rfl (aJ (rdR 1 (r:=⟨102,2,(some ⟨g,0,none⟩),1,1,[.slice A2 n2 c2, .slice Ap l.length cp],false⟩) rfl) underlying100 rfl rfl rfl)<|gF 5 rfl (by kernel_rfl) rfl (dG (vs:=[.int .i64 k, .int .i64 at_]) (rdR 0 (r:=⟨106,2,(some ⟨g_1,0,none⟩),1,1,[.int .i64 k, .int .i64 at_],false⟩) rfl) underlying106 rfl jX rfl rfl (Nat.le_of_ble_eq_true rfl) rfl)<|QV 6 rfl (by kernel_rfl) rfl (aRr underlying100 bBj rfl) ?_
 rintro _ _ ⟨g_3,rfl,rfl⟩
 refine⟨.inr fun _ h=>h.right (R':=[_]),?_⟩
 refine QV 7 rfl (by kernel_rfl) rfl (BS 3 rfl underlying100 bBm rfl rfl rfl rfl (rdr 0 rfl) (by omega)) ?_
 rintro _ _ ⟨A_4,c_5,rfl,rfl⟩
 refine⟨.inl (by kernel_rfl),?_⟩
 refine CE (v:= .slice A_4 (l.length+1) c_5) rfl<|gF 8 rfl (by kernel_rfl) rfl (aD rfl)<|gF 9 rfl (by kernel_rfl) rfl (aB (off:=1) (m:=1) underlying102 rfl fT rfl rfl rfl)<|pR 10 rfl (by kernel_rfl) (aY 2 rfl rfl rfl fT rfl rfl rfl rfl (Nat.le_of_ble_eq_true rfl)) ?_
 rintro _ _ rfl
 refine⟨.inl (by kernel_rfl),?_⟩
 refine zX (by kernel_rfl)<|wq<|wg rfl<|aA<|aT [2,3] 4 (by decide) rfl ?_
 refine⟨_,rfl,?_⟩
 have e:l.length+1=(l++[(k,at_)]).length:=by rw[List.length_append];rfl
 rw[e]
 exact⟨_,_,rfl,rfl⟩
set_option maxRecDepth 100000 in
theorem RU (hnt:nt=s.length) (hnp:np=l.length) (bh_s:aO s) (hN:s.length≤100000) (hl:l.length≤1000):
  Ct Tryz.prog 58 #[.pointer (some ⟨g,0,none⟩), .int .i64 1] B w0 (⟨102,2,(some ⟨g,0,none⟩),1,1,[.slice At nt ct, .slice Ap np cp],false⟩::⟨5,1,At,nt,ct,ints .u8 s,false⟩::⟨106,2,Ap,np,cp,prs l,false⟩::R) (fun v R'=> ∃b:List Int,(b.Perm (iota s.length)∧b.Pairwise (bU s))∧ ∃(A8:Option Addr) (c8:Nat) (A7:Option Addr) (c7:Nat),v= .int .i64 0∧R'=⟨102,2,(some ⟨g,0,none⟩),1,1,[.slice A8 ((ofL s b).length) c8, .slice A7 ((l++[(0,zat b)]).length) c7],false⟩::⟨5,1,A8,(ofL s b).length,c8,ints .u8 (ofL s b),false⟩::⟨106,2,A7,(l++[(0,zat b)]).length,c7,prs (l++[(0,zat b)]),false⟩::R):=by
 subst hnt
 subst hnp
 refine fn1 Tryz.func58 rfl rfl rfl ?_
 refine wq<|wg rfl<|aA<|aG<|wq<|wm rfl<|aA<|aI<|wq<|wy (Yl.t (bC rfl rfl) (by decide))<|wg rfl<|aA ?_
 refine bO rfl<|wq<|wm rfl<|wy (aD rfl)<|wy (aB (off:=0) (m:=0) underlying102 rfl dO rfl rfl rfl)<|wy (aJ (rdR 0 (r:=⟨102,2,(some ⟨g,0,none⟩),1,1,[.slice At s.length ct, .slice Ap l.length cp],false⟩) rfl) underlying22 rfl rfl rfl)<|wa (aF bEw rfl (Ct.fresh (fun w hw=>aQz ((rdr 1 rfl) w hw) bh_s hN))) ?_
 rintro _ _ ⟨_,rfl,a1,A_1,c_2,rfl,hp_a1,hs_a1,rfl⟩
 refine wm rfl<|wX rfl rfl<|wX rfl rfl<|wX rfl rfl<|wg rfl<|wg rfl<|wg rfl<|aA<|wq<|wm rfl<|wm rfl<|wm rfl<|wy (dY (v:= .agg #[.int .i64 0, .int .i64 (zat a1)]) rfl (fun w=>by kernel_rfl))<|wa (aF aVg rfl (Ct.pick [1,3,0,2] 4 (by decide) rfl (vL rfl (by omega)))) ?_
 rintro _ _ ⟨A_4,c_5,rfl,rfl⟩
 refine wg rfl<|aA<|aT [0,2,1] 4 (by decide) rfl ?_
 refine⟨_,rfl,?_⟩
 exact⟨a1,⟨hp_a1,hs_a1⟩,_,_,_,_,rfl,rfl⟩
set_option maxRecDepth 100000 in
theorem RS (hnt:nt=s.length) (hnp:np=l.length) (bh_s:aO s) (hN:s.length≤100000) (hl:l.length≤1000):
  Ct Tryz.prog 58 #[.pointer (some ⟨g,0,none⟩), .int .i64 2] B w0 (⟨102,2,(some ⟨g,0,none⟩),1,1,[.slice At nt ct, .slice Ap np cp],false⟩::⟨5,1,At,nt,ct,ints .u8 s,false⟩::⟨106,2,Ap,np,cp,prs l,false⟩::R) (fun v R'=> ∃T:List (Int × Int),(T.Perm (iJ (bws s) (bws s).length)∧T.Pairwise (pU (bws s)))∧ ∃(A8:Option Addr) (c8:Nat) (A7:Option Addr) (c7:Nat),v= .int .i64 0∧R'=⟨102,2,(some ⟨g,0,none⟩),1,1,[.slice A8 T.length c8, .slice A7 ((l++[(1,0)]).length) c7],false⟩::⟨5,1,A8,T.length,c8,ints .u8 (T.map (lastB (bws s))),false⟩::⟨106,2,A7,(l++[(1,0)]).length,c7,prs (l++[(1,0)]),false⟩::R):=by
 subst hnt
 subst hnp
 refine fn1 Tryz.func58 rfl rfl rfl ?_
 refine wq<|wg rfl<|aA<|aG<|wq<|wm rfl<|aA<|aI<|wq<|wy (Yl.f (bC rfl rfl) (by decide))<|wg rfl<|aA ?_
 refine aL rfl<|wq<|wy (Yl.t (bC rfl rfl) (by decide))<|wg rfl<|aA<|bO rfl<|wq<|wm rfl<|wy (aD rfl)<|wy (aB (off:=0) (m:=0) underlying102 rfl dO rfl rfl rfl)<|wy (aJ (rdR 0 (r:=⟨102,2,(some ⟨g,0,none⟩),1,1,[.slice At s.length ct, .slice Ap l.length cp],false⟩) rfl) underlying22 rfl rfl rfl)<|wa (aF aYc rfl (Ct.fresh (fun w hw=>JP ((rdr 1 rfl) w hw) bh_s hN))) ?_
 rintro _ _ ⟨_,rfl,l1,A_1,c_2,rfl,hpt_l1,hst_l1,rfl⟩
 refine wm rfl<|wX rfl rfl<|wX rfl rfl<|wg rfl<|wg rfl<|aA<|wq<|wm rfl<|wm rfl<|wy (dY (v:= .agg #[.int .i64 1, .int .i64 0]) rfl (fun w=>by kernel_rfl))<|wa (aF aVg rfl (Ct.pick [1,3,0,2] 4 (by decide) rfl (vL rfl (by omega)))) ?_
 rintro _ _ ⟨A_4,c_5,rfl,rfl⟩
 refine wg rfl<|aA<|aT [0,2,1] 4 (by decide) rfl ?_
 refine⟨_,rfl,?_⟩
 exact⟨l1,⟨hpt_l1,hst_l1⟩,_,_,_,_,rfl,rfl⟩
set_option maxRecDepth 100000 in
theorem RQ (hnt:nt=s.length) (hnp:np=l.length) (hk:k≠1∧k≠2):
  Ct Tryz.prog 58 #[.pointer (some ⟨g,0,none⟩), .int .i64 k] B w0 (⟨102,2,(some ⟨g,0,none⟩),1,1,[.slice At nt ct, .slice Ap np cp],false⟩::⟨5,1,At,nt,ct,ints .u8 s,false⟩::⟨106,2,Ap,np,cp,prs l,false⟩::R) (fun v R'=>v= .int .i64 1∧R'=⟨102,2,(some ⟨g,0,none⟩),1,1,[.slice At nt ct, .slice Ap np cp],false⟩::⟨5,1,At,nt,ct,ints .u8 s,false⟩::⟨106,2,Ap,np,cp,prs l,false⟩::R):=by
 subst hnt
 subst hnp
 refine fn1 Tryz.func58 rfl rfl rfl ?_
 refine wq<|wg rfl<|aA<|aG<|wq<|wm rfl<|aA<|aI<|wq<|wy (Yl.f (bC rfl rfl) (hk.1))<|wg rfl<|aA ?_
 refine aL rfl<|wq<|wy (Yl.f (bC rfl rfl) (hk.2))<|wg rfl<|aA<|aL rfl<|aK<|wq<|wg rfl<|aA<|bR (R1:=(⟨102,2,(some ⟨g,0,none⟩),1,1,[.slice At s.length ct, .slice Ap l.length cp],false⟩::⟨5,1,At,s.length,ct,ints .u8 s,false⟩::⟨106,2,Ap,l.length,cp,prs l,false⟩::R)) (fun _ h=>h) ?_
 refine⟨_,rfl,?_⟩
 exact⟨rfl,rfl⟩
set_option maxRecDepth 100000 in
theorem wZ (hnt:nt=s.length) (hnp:np=l.length):
  Ct Tryz.prog 33 #[.pointer (some ⟨g,0,none⟩)] B w0 (⟨102,2,(some ⟨g,0,none⟩),1,1,[.slice At nt ct, .slice Ap np cp],false⟩::⟨5,1,At,nt,ct,ints .u8 s,false⟩::⟨106,2,Ap,np,cp,prs l,false⟩::R) (fun v R'=>v= .int .i64 ((l.length:Nat):Int)∧R'=⟨102,2,(some ⟨g,0,none⟩),1,1,[.slice At nt ct, .slice Ap np cp],false⟩::⟨5,1,At,nt,ct,ints .u8 s,false⟩::⟨106,2,Ap,np,cp,prs l,false⟩::R):=by
 subst hnt
 subst hnp
 refine fn1 Tryz.func33 rfl rfl rfl ?_
 refine wq<|wg rfl<|aA<|aG<|wq<|wm rfl<|wy (cZ underlying49 rfl rfl)<|aA<|aL rfl<|aK<|wq<|wm rfl ?_
 refine wy (aD rfl)<|wy (aB (off:=1) (m:=1) underlying102 rfl fT rfl rfl rfl)<|wy (aJ (rdR 0 (r:=⟨102,2,(some ⟨g,0,none⟩),1,1,[.slice At s.length ct, .slice Ap l.length cp],false⟩) rfl) underlying100 rfl rfl rfl)<|wy (aQ underlying100 rfl)<|wg rfl<|aA<|bR (R1:=(⟨102,2,(some ⟨g,0,none⟩),1,1,[.slice At s.length ct, .slice Ap l.length cp],false⟩::⟨5,1,At,s.length,ct,ints .u8 s,false⟩::⟨106,2,Ap,l.length,cp,prs l,false⟩::R)) (fun _ h=>h) ?_
 refine⟨_,rfl,?_⟩
 exact⟨rfl,rfl⟩
set_option maxRecDepth 100000 in
theorem AB (hnt:nt=s.length) (hnp:np=l.length) (hN:s.length≤1000000):
  Ct Tryz.prog 32 #[.pointer (some ⟨g,0,none⟩)] B w0 (⟨102,2,(some ⟨g,0,none⟩),1,1,[.slice At nt ct, .slice Ap np cp],false⟩::⟨5,1,At,nt,ct,ints .u8 s,false⟩::⟨106,2,Ap,np,cp,prs l,false⟩::R) (fun v R'=> ∃(A9:Option Addr) (c9:Nat),v= .slice A9 s.length c9∧R'=⟨5,1,A9,s.length,c9,ints .u8 s,false⟩::⟨102,2,(some ⟨g,0,none⟩),1,1,[.slice At nt ct, .slice Ap np cp],false⟩::⟨5,1,At,nt,ct,ints .u8 s,false⟩::⟨106,2,Ap,np,cp,prs l,false⟩::R):=by
 subst hnt
 subst hnp
 refine fn1 Tryz.func32 rfl rfl rfl ?_
 refine wq<|wg rfl<|aA<|aG<|wq<|wm rfl<|wy (cZ underlying49 rfl rfl)<|aA<|aL rfl<|aK<|wq<|wm rfl ?_
 refine wy (aD rfl)<|wy (aB (off:=0) (m:=0) underlying102 rfl dO rfl rfl rfl)<|wy (aJ (rdR 0 (r:=⟨102,2,(some ⟨g,0,none⟩),1,1,[.slice At s.length ct, .slice Ap l.length cp],false⟩) rfl) underlying22 rfl rfl rfl)<|wa (aF VD rfl (Ct.fresh (fun w hw=>lG ((rdr 1 rfl) w hw) hN))) ?_
 rintro _ _ ⟨_,rfl,A_1,c_2,rfl,rfl⟩
 refine wg rfl<|aA<|bR (R1:=(⟨5,1,A_1,s.length,c_2,ints .u8 s,false⟩::⟨102,2,(some ⟨g,0,none⟩),1,1,[.slice At s.length ct, .slice Ap l.length cp],false⟩::⟨5,1,At,s.length,ct,ints .u8 s,false⟩::⟨106,2,Ap,l.length,cp,prs l,false⟩::R)) (fun _ h=>h) ?_
 refine⟨_,rfl,?_⟩
 exact⟨_,_,rfl,rfl⟩
variable {w w0:World} {A_s At Ap A_k:Option Addr} {n_s c_s B g nt ct np cp n_k c_k:Nat} {s ks s0:List Int} {x at_:Int} {R:List Row} {l:List (Int × Int)}
set_option maxRecDepth 100000 in
theorem aHq (h_s:Rd w A_s n_s c_s 1 (ints .i64 s)) (hN:s.length≤1000000):
  Ct Tryz.prog 181 #[.slice A_s n_s c_s, .int .i64 x] w.heap.size w [] (fun v R'=> ∃j:Int,v= .int .i64 j∧(0≤j↔x∈s)):=by
 obtain rfl:=h_s.lenI
 refine fn1 Tryz.func181 rfl rfl rfl ?_
 have m_s:=h_s.max
 refine wq<|wg rfl<|aA<|aG<|wq<|wm rfl<|wy (aQ underlying52 rfl)<|wm rfl<|aA<|aI ?_
 refine rT (fun(i:Int)=>[(0, .slice A_s s.length c_s),(1, .int .i64 x),(7, .int .i64 ((s.length:Nat):Int)),(8, .int .i64 i)]) (fun(i:Int)=>[]) (fun(i:Int)=>(0≤i)∧(i≤s.length)∧(∀q:Int,0≤q→q<i→rd s q≠x)) (fun(i:Int)=>(s.length-i).toNat) ?_ ?_
 ·exact⟨0,⟨by omega,by omega,(fun q h1 h2=>by omega)⟩,(sc rfl (sc rfl (sc rfl (sc rfl Sub.nil)))),fun _ h=>h⟩
 intro i ⟨hi0,hi1,hn⟩
 refine wq<|wL rfl rfl<|aA<|aG<|bM rfl (fun hc1=> ?_) (fun hc1=> ?_)
 ·refine aK<|aG<|aI<|wq<|wm rfl<|wg rfl<|aA<|wq<|wm rfl<|wm rfl<|wm rfl<|wy (aH underlying52 sz3 rfl rfl (h_s.c _))<|wy (aX underlying3 rfl rfl (h_s.c _)) ?_
  refine wy (bC rfl rfl)<|aA<|bM rfl (fun hc2=> ?_) (fun hc2=> ?_)
  ·refine wq<|wm rfl<|wg rfl<|aA<|dJ ?_
   refine⟨_,rfl,?_⟩
   exact⟨i,rfl,⟨fun _=>by rw[(by assumption:x=rd s i)];exact bH hi0 (by omega),fun _=>hi0⟩⟩
  ·refine aK<|aM<|wA rfl rfl<|wm rfl<|aA ?_
   exact⟨i+1,⟨by omega,by omega,(fun q h1 h2 e=>by
     rcases Int.lt_or_le q i with h|h
     ·exact hn q h1 h e
     ·obtain rfl:q=i:=by omega
      exact absurd e.symm (by assumption))⟩,by omega,(sc rfl (sc rfl (sc rfl (sc rfl Sub.nil)))),fun _ h=>h⟩
 ·refine aZ<|wq<|wg rfl<|aA<|dJ ?_
  refine⟨_,rfl,?_⟩
  exact⟨-1,rfl,⟨fun h=>absurd h (by decide),fun hm=>absurd (YO hm) (hn _ (sF hm).1 (by have:=(sF hm).2;omega))⟩⟩
set_option maxRecDepth 100000 in
theorem lZ (h_s:Rd w A_s n_s c_s 1 (ints .i64 s)) (hN:s.length≤1000000):
  Ct Tryz.prog 108 #[.slice A_s n_s c_s, .int .i64 x] w.heap.size w [] (fun v R'=>v= .bool (decide (x∈s))):=by
 obtain rfl:=h_s.lenI
 refine fn1 Tryz.func108 rfl rfl rfl ?_
 have m_s:=h_s.max
 refine wq<|wg rfl<|aA<|wq<|wm rfl<|wm rfl<|wa (aF bEe rfl (Ct.quiet (fun w hw=>aHq ((h_s.c _) w hw) hN))) ?_
 rintro _ _ ⟨rfl,jx,rfl,hjx⟩
 refine wy (jG rfl rfl)<|wg rfl<|aA<|dJ ?_
 refine⟨_,rfl,?_⟩
 exact congrArg Value.bool (decide_eq_decide.2 hjx)
set_option maxRecDepth 100000 in
set_option maxHeartbeats 1000000 in
theorem RH (hnt:nt=s.length) (hk_:RdC B w0 R A_k n_k c_k 1 (ints .i64 ks)) (hnk:n_k=ks.length) (hnp:np=(l++[(0,at_)]).length) (hin:(0:Int)∈ks) (hl:l.length≤1000∧ks.length≤10) (bh_s:aO s) (hN:s.length≤100000) (hok:aJt s at_) (hb:lI s at_=s0):
  Ct Tryz.prog 62 #[.pointer (some ⟨g,0,none⟩), .slice A_k n_k c_k] B w0 (⟨102,2,(some ⟨g,0,none⟩),1,1,[.slice At nt ct, .slice Ap ((l++[(0,at_)]).length) cp],false⟩::⟨5,1,At,nt,ct,ints .u8 s,false⟩::⟨106,2,Ap,np,cp,prs (l++[(0,at_)]),false⟩::R) (fun v R'=> ∃(A8:Option Addr) (c8:Nat),v= .int .i64 0∧R'=⟨102,2,(some ⟨g,0,none⟩),1,1,[.slice A8 s0.length c8, .slice Ap l.length cp],false⟩::⟨5,1,A8,s0.length,c8,ints .u8 s0,false⟩::⟨106,2,Ap,l.length,cp,prs l,false⟩::R):=by
 subst hnt
 subst hnp
 subst hnk
 have hll:(l++[((0:Int),at_)]).length=l.length+1:=by rw[List.length_append];rfl
 refine fn1 Tryz.func62 rfl rfl rfl ?_
 refine wq<|wg rfl<|aA<|wq<|wm rfl<|wy (aD rfl)<|wy (aB (off:=1) (m:=1) underlying102 rfl fT rfl rfl rfl)<|wy (aJ (rdR 0 (r:=⟨102,2,(some ⟨g,0,none⟩),1,1,[.slice At s.length ct, .slice Ap ((l++[(0,at_)]).length) cp],false⟩) rfl) underlying100 rfl rfl rfl)<|wy (aQ underlying100 rfl)<|wy (Yl.is (jF rfl rfl) (show _=Value.int .i64 ((l.length:Nat):Int) from by rw[hll];congr 1;omega))<|wg rfl<|aA<|aG ?_
 refine wq<|wm rfl<|wy (Yl.f (eP rfl rfl))<|wm rfl<|aC rfl rfl<|wm rfl<|aC rfl rfl<|wm rfl<|aC rfl rfl<|wy (aD rfl)<|aC rfl rfl<|wy (aB (off:=1) (m:=1) underlying102 rfl fT rfl rfl rfl)<|aC rfl rfl<|wy (aJ (rdR 0 (r:=⟨102,2,(some ⟨g,0,none⟩),1,1,[.slice At s.length ct, .slice Ap ((l++[(0,at_)]).length) cp],false⟩) rfl) underlying100 rfl rfl rfl) ?_
 refine aC rfl rfl<|wm rfl<|aC rfl rfl<|wy (jB underlying100 jX rfl rfl (rdr 2 rfl) rfl)<|aC rfl rfl<|wy (sS (off:=0) underlying106 rfl sz3 rfl rfl (rdr 2 rfl) (by omega) (by omega))<|aC rfl rfl<|wy (Yl.is (EP underlying3 rfl rfl (rdr 2 rfl)) (show _=Value.int .i64 0 from by rw[lN]))<|aC rfl rfl<|wa (aF VJ rfl (Ct.quiet (fun w hw=>lZ ((RdC.right hk_ [_,_,_]) w hw) (by omega)))) ?_
 rintro _ _ ⟨rfl,rfl⟩
 refine kK 28 rfl (hin)<|aC rfl rfl<|wy (dI rfl)<|wy (aS rfl rfl)<|aA<|aL rfl<|aK<|wq<|wm rfl<|wy (aD rfl)<|wy (aB (off:=1) (m:=1) underlying102 rfl fT rfl rfl rfl)<|wy (aJ (rdR 0 (r:=⟨102,2,(some ⟨g,0,none⟩),1,1,[.slice At s.length ct, .slice Ap ((l++[(0,at_)]).length) cp],false⟩) rfl) underlying100 rfl rfl rfl)<|wm rfl<|wy (jB underlying100 jX rfl rfl (rdr 2 rfl) rfl) ?_
 refine wy (Yl.is (EQ underlying106 rfl jX rfl (rdr 2 rfl)) (show _=Value.agg #[.int .i64 0, .int .i64 at_] from by rw[lN]))<|wa (iI (sz:=2) aBt rfl) ?_
 rintro _ _ ⟨g_1,rfl,rfl⟩
 refine bY (fQ (vs:=[.int .i64 0, .int .i64 at_]) 0 rfl jX rfl rfl rfl (by intro v hv;simp at hv;rcases hv with rfl|rfl<;>rfl) rfl) ?_
 rintro _ _ rfl
 refine aA<|aG<|wq<|wy (aB (off:=0) (m:=0) underlying106 rfl sz3 rfl rfl rfl)<|wy (aJ (rdR 0 (r:=⟨106,2,(some ⟨g_1,0,none⟩),1,1,[.int .i64 0, .int .i64 at_],false⟩) rfl) underlying3 rfl rfl rfl)<|aA<|aI<|wq<|wy (Yl.t (bC rfl rfl) (by decide))<|wg rfl<|aA<|bO rfl<|bT mixed ?_
 refine gF 0 rfl (by kernel_rfl) rfl (aN rfl)<|gF 1 rfl (by kernel_rfl) rfl (aN rfl)<|gF 2 rfl (by kernel_rfl) rfl (aD rfl)<|gF 3 rfl (by kernel_rfl) rfl (aB (off:=0) (m:=0) underlying102 rfl dO rfl rfl rfl)<|gF 4 rfl (by kernel_rfl) rfl (aJ (rdR 1 (r:=⟨102,2,(some ⟨g,0,none⟩),1,1,[.slice At s.length ct, .slice Ap ((l++[(0,at_)]).length) cp],false⟩) rfl) underlying22 rfl rfl rfl)<|gF 5 rfl (by kernel_rfl) rfl (aB (off:=1) (m:=1) underlying106 rfl sz3 rfl rfl rfl)<|gF 6 rfl (by kernel_rfl) rfl (aJ (rdR 0 (r:=⟨106,2,(some ⟨g_1,0,none⟩),1,1,[.int .i64 0, .int .i64 at_],false⟩) rfl) underlying3 rfl rfl rfl)<|QV 7 rfl (by kernel_rfl) rfl (aF aXz rfl (Ct.fresh (fun w hw=>WT ((rdr 2 rfl) w hw) bh_s hok hN))) ?_
 rintro _ _ ⟨_,rfl,A_2,c_3,rfl,rfl⟩
 refine⟨.inr fun _ h=>h.right (R':=[_]),?_⟩
 refine gF 8 rfl (by kernel_rfl) rfl (aN rfl)<|gF 9 rfl (by kernel_rfl) rfl (jO rfl rfl)<|gF 10 rfl (by kernel_rfl) rfl (jO rfl rfl)<|gF 11 rfl (by kernel_rfl) rfl (aD rfl)<|gF 12 rfl (by kernel_rfl) rfl (aB (off:=0) (m:=0) underlying102 rfl dO rfl rfl rfl)<|pR 13 rfl (by kernel_rfl) (aY 2 rfl rfl rfl dO rfl rfl rfl rfl (Nat.le_of_ble_eq_true rfl)) ?_
 rintro _ _ rfl
 refine⟨.inl (by kernel_rfl),?_⟩
 refine zX (by kernel_rfl)<|wq<|wm rfl<|wm rfl<|wy (aD rfl)<|wy (aB (off:=1) (m:=1) underlying102 rfl fT rfl rfl rfl)<|wy (aJ (rdR 2 (r:=⟨102,2,(some ⟨g,0,none⟩),1,1,[.slice A_2 s.length c_3, .slice Ap ((l++[(0,at_)]).length) cp],false⟩) rfl) underlying100 rfl rfl rfl)<|wm rfl<|wy (gD underlying100 jX rfl rfl (rdr 4 rfl))<|wy (aD rfl)<|wy (aB (off:=1) (m:=1) underlying102 rfl fT rfl rfl rfl)<|bY (aY 2 rfl rfl rfl fT rfl rfl rfl rfl (Nat.le_of_ble_eq_true rfl)) ?_
 rintro _ _ rfl
 refine aA<|wq<|wg rfl<|aA<|bR (R1:=⟨102,2,(some ⟨g,0,none⟩),1,1,[.slice A_2 s.length c_3, .slice Ap l.length cp],false⟩::⟨5,1,A_2,s.length,c_3,ints .u8 (lI s at_),false⟩::⟨106,2,Ap,l.length,cp,prs l,false⟩::R) (fun _ h=>Hp.pickT (R:=⟨106,2,Ap,l.length,cp,prs l,false⟩::⟨102,2,(some ⟨g,0,none⟩),1,1,[.slice A_2 s.length c_3, .slice Ap l.length cp],false⟩::⟨5,1,A_2,s.length,c_3,ints .u8 (lI s at_),false⟩::R) (Hp.dropLast (h.pickT [4,2,0] 5 (by decide) rfl) (by rw[List.length_append];rfl)) [1,2,0] 3 (by decide) rfl) ?_
 refine⟨_,rfl,?_⟩
 have e:s.length=s0.length:=by rw[←hb,rF]
 rw[hb,e]
 exact⟨_,_,rfl,rfl⟩
set_option maxRecDepth 100000 in
set_option maxHeartbeats 1000000 in
theorem RG (hnt:nt=s.length) (hk_:RdC B w0 R A_k n_k c_k 1 (ints .i64 ks)) (hnk:n_k=ks.length) (hnp:np=(l++[(1,at_)]).length) (hin:(1:Int)∈ks) (hl:l.length≤1000∧ks.length≤10) (bh_s:aO s) (hN:s.length≤100000) (hb:backL s (dW (fsL s))=s0):
  Ct Tryz.prog 62 #[.pointer (some ⟨g,0,none⟩), .slice A_k n_k c_k] B w0 (⟨102,2,(some ⟨g,0,none⟩),1,1,[.slice At nt ct, .slice Ap ((l++[(1,at_)]).length) cp],false⟩::⟨5,1,At,nt,ct,ints .u8 s,false⟩::⟨106,2,Ap,np,cp,prs (l++[(1,at_)]),false⟩::R) (fun v R'=> ∃(A8:Option Addr) (c8:Nat),v= .int .i64 0∧R'=⟨102,2,(some ⟨g,0,none⟩),1,1,[.slice A8 s0.length c8, .slice Ap l.length cp],false⟩::⟨5,1,A8,s0.length,c8,ints .u8 s0,false⟩::⟨106,2,Ap,l.length,cp,prs l,false⟩::R):=by
 subst hnt
 subst hnp
 subst hnk
 have hll:(l++[((1:Int),at_)]).length=l.length+1:=by rw[List.length_append];rfl
 refine fn1 Tryz.func62 rfl rfl rfl ?_
 refine wq<|wg rfl<|aA<|wq<|wm rfl<|wy (aD rfl)<|wy (aB (off:=1) (m:=1) underlying102 rfl fT rfl rfl rfl)<|wy (aJ (rdR 0 (r:=⟨102,2,(some ⟨g,0,none⟩),1,1,[.slice At s.length ct, .slice Ap ((l++[(1,at_)]).length) cp],false⟩) rfl) underlying100 rfl rfl rfl)<|wy (aQ underlying100 rfl)<|wy (Yl.is (jF rfl rfl) (show _=Value.int .i64 ((l.length:Nat):Int) from by rw[hll];congr 1;omega))<|wg rfl<|aA<|aG ?_
 refine wq<|wm rfl<|wy (Yl.f (eP rfl rfl))<|wm rfl<|aC rfl rfl<|wm rfl<|aC rfl rfl<|wm rfl<|aC rfl rfl<|wy (aD rfl)<|aC rfl rfl<|wy (aB (off:=1) (m:=1) underlying102 rfl fT rfl rfl rfl)<|aC rfl rfl<|wy (aJ (rdR 0 (r:=⟨102,2,(some ⟨g,0,none⟩),1,1,[.slice At s.length ct, .slice Ap ((l++[(1,at_)]).length) cp],false⟩) rfl) underlying100 rfl rfl rfl) ?_
 refine aC rfl rfl<|wm rfl<|aC rfl rfl<|wy (jB underlying100 jX rfl rfl (rdr 2 rfl) rfl)<|aC rfl rfl<|wy (sS (off:=0) underlying106 rfl sz3 rfl rfl (rdr 2 rfl) (by omega) (by omega))<|aC rfl rfl<|wy (Yl.is (EP underlying3 rfl rfl (rdr 2 rfl)) (show _=Value.int .i64 1 from by rw[lN]))<|aC rfl rfl<|wa (aF VJ rfl (Ct.quiet (fun w hw=>lZ ((RdC.right hk_ [_,_,_]) w hw) (by omega)))) ?_
 rintro _ _ ⟨rfl,rfl⟩
 refine kK 28 rfl (hin)<|aC rfl rfl<|wy (dI rfl)<|wy (aS rfl rfl)<|aA<|aL rfl<|aK<|wq<|wm rfl<|wy (aD rfl)<|wy (aB (off:=1) (m:=1) underlying102 rfl fT rfl rfl rfl)<|wy (aJ (rdR 0 (r:=⟨102,2,(some ⟨g,0,none⟩),1,1,[.slice At s.length ct, .slice Ap ((l++[(1,at_)]).length) cp],false⟩) rfl) underlying100 rfl rfl rfl)<|wm rfl<|wy (jB underlying100 jX rfl rfl (rdr 2 rfl) rfl) ?_
 refine wy (Yl.is (EQ underlying106 rfl jX rfl (rdr 2 rfl)) (show _=Value.agg #[.int .i64 1, .int .i64 at_] from by rw[lN]))<|wa (iI (sz:=2) aBt rfl) ?_
 rintro _ _ ⟨g_1,rfl,rfl⟩
 refine bY (fQ (vs:=[.int .i64 1, .int .i64 at_]) 0 rfl jX rfl rfl rfl (by intro v hv;simp at hv;rcases hv with rfl|rfl<;>rfl) rfl) ?_
 rintro _ _ rfl
 refine aA<|aG<|wq<|wy (aB (off:=0) (m:=0) underlying106 rfl sz3 rfl rfl rfl)<|wy (aJ (rdR 0 (r:=⟨106,2,(some ⟨g_1,0,none⟩),1,1,[.int .i64 1, .int .i64 at_],false⟩) rfl) underlying3 rfl rfl rfl)<|aA<|aI<|wq<|wy (Yl.f (bC rfl rfl) (by decide))<|wg rfl<|aA<|aL rfl<|aG ?_
 refine aM<|wy (Yl.t (bC rfl rfl) (by decide))<|wg rfl<|aA<|bO rfl<|aM<|wm rfl<|wm rfl<|wy (aD rfl)<|wy (aB (off:=0) (m:=0) underlying102 rfl dO rfl rfl rfl)<|wy (aJ (rdR 1 (r:=⟨102,2,(some ⟨g,0,none⟩),1,1,[.slice At s.length ct, .slice Ap ((l++[(1,at_)]).length) cp],false⟩) rfl) underlying22 rfl rfl rfl)<|wa (aF aXy rfl (Ct.fresh (fun w hw=>JQ ((rdr 2 rfl) w hw) bh_s hN))) ?_
 rintro _ _ ⟨_,rfl,A_2,c_3,rfl,rfl⟩
 refine wm rfl<|wX rfl rfl<|wX rfl rfl<|wy (aD rfl)<|wy (aB (off:=0) (m:=0) underlying102 rfl dO rfl rfl rfl)<|bY (aY 2 rfl rfl rfl dO rfl rfl rfl rfl (Nat.le_of_ble_eq_true rfl)) ?_
 rintro _ _ rfl
 refine aA<|wq<|wm rfl<|wm rfl<|wy (aD rfl)<|wy (aB (off:=1) (m:=1) underlying102 rfl fT rfl rfl rfl)<|wy (aJ (rdR 2 (r:=⟨102,2,(some ⟨g,0,none⟩),1,1,[.slice A_2 ((backL s (dW (fsL s))).length) c_3, .slice Ap ((l++[(1,at_)]).length) cp],false⟩) rfl) underlying100 rfl rfl rfl)<|wm rfl<|wy (gD underlying100 jX rfl rfl (rdr 4 rfl))<|wy (aD rfl)<|wy (aB (off:=1) (m:=1) underlying102 rfl fT rfl rfl rfl)<|bY (aY 2 rfl rfl rfl fT rfl rfl rfl rfl (Nat.le_of_ble_eq_true rfl)) ?_
 rintro _ _ rfl
 refine aA<|wq<|wg rfl<|aA<|bR (R1:=⟨102,2,(some ⟨g,0,none⟩),1,1,[.slice A_2 ((backL s (dW (fsL s))).length) c_3, .slice Ap l.length cp],false⟩::⟨5,1,A_2,(backL s (dW (fsL s))).length,c_3,ints .u8 (backL s (dW (fsL s))),false⟩::⟨106,2,Ap,l.length,cp,prs l,false⟩::R) (fun _ h=>Hp.pickT (R:=⟨106,2,Ap,l.length,cp,prs l,false⟩::⟨102,2,(some ⟨g,0,none⟩),1,1,[.slice A_2 ((backL s (dW (fsL s))).length) c_3, .slice Ap l.length cp],false⟩::⟨5,1,A_2,(backL s (dW (fsL s))).length,c_3,ints .u8 (backL s (dW (fsL s))),false⟩::R) (Hp.dropLast (h.pickT [4,2,0] 5 (by decide) rfl) (by rw[List.length_append];rfl)) [1,2,0] 3 (by decide) rfl) ?_
 refine⟨_,rfl,?_⟩
 rw[hb]
 exact⟨_,_,rfl,rfl⟩
set_option maxRecDepth 100000 in
set_option maxHeartbeats 1000000 in
theorem RF (hnt:nt=s.length) (hk_:RdC B w0 R A_k n_k c_k 1 (ints .i64 ks)) (hnk:n_k=ks.length) (hnp:np=(l++[(2,at_)]).length) (hin:(2:Int)∈ks) (hl:l.length≤1000∧ks.length≤10) (bh_s:aO s) (hN:s.length≤100000) (hb:jW aR s=s0):
  Ct Tryz.prog 62 #[.pointer (some ⟨g,0,none⟩), .slice A_k n_k c_k] B w0 (⟨102,2,(some ⟨g,0,none⟩),1,1,[.slice At nt ct, .slice Ap ((l++[(2,at_)]).length) cp],false⟩::⟨5,1,At,nt,ct,ints .u8 s,false⟩::⟨106,2,Ap,np,cp,prs (l++[(2,at_)]),false⟩::R) (fun v R'=> ∃(A8:Option Addr) (c8:Nat),v= .int .i64 0∧R'=⟨102,2,(some ⟨g,0,none⟩),1,1,[.slice A8 s0.length c8, .slice Ap l.length cp],false⟩::⟨5,1,A8,s0.length,c8,ints .u8 s0,false⟩::⟨106,2,Ap,l.length,cp,prs l,false⟩::R):=by
 subst hnt
 subst hnp
 subst hnk
 have hll:(l++[((2:Int),at_)]).length=l.length+1:=by rw[List.length_append];rfl
 refine fn1 Tryz.func62 rfl rfl rfl ?_
 refine wq<|wg rfl<|aA<|wq<|wm rfl<|wy (aD rfl)<|wy (aB (off:=1) (m:=1) underlying102 rfl fT rfl rfl rfl)<|wy (aJ (rdR 0 (r:=⟨102,2,(some ⟨g,0,none⟩),1,1,[.slice At s.length ct, .slice Ap ((l++[(2,at_)]).length) cp],false⟩) rfl) underlying100 rfl rfl rfl)<|wy (aQ underlying100 rfl)<|wy (Yl.is (jF rfl rfl) (show _=Value.int .i64 ((l.length:Nat):Int) from by rw[hll];congr 1;omega))<|wg rfl<|aA<|aG ?_
 refine wq<|wm rfl<|wy (Yl.f (eP rfl rfl))<|wm rfl<|aC rfl rfl<|wm rfl<|aC rfl rfl<|wm rfl<|aC rfl rfl<|wy (aD rfl)<|aC rfl rfl<|wy (aB (off:=1) (m:=1) underlying102 rfl fT rfl rfl rfl)<|aC rfl rfl<|wy (aJ (rdR 0 (r:=⟨102,2,(some ⟨g,0,none⟩),1,1,[.slice At s.length ct, .slice Ap ((l++[(2,at_)]).length) cp],false⟩) rfl) underlying100 rfl rfl rfl) ?_
 refine aC rfl rfl<|wm rfl<|aC rfl rfl<|wy (jB underlying100 jX rfl rfl (rdr 2 rfl) rfl)<|aC rfl rfl<|wy (sS (off:=0) underlying106 rfl sz3 rfl rfl (rdr 2 rfl) (by omega) (by omega))<|aC rfl rfl<|wy (Yl.is (EP underlying3 rfl rfl (rdr 2 rfl)) (show _=Value.int .i64 2 from by rw[lN]))<|aC rfl rfl<|wa (aF VJ rfl (Ct.quiet (fun w hw=>lZ ((RdC.right hk_ [_,_,_]) w hw) (by omega)))) ?_
 rintro _ _ ⟨rfl,rfl⟩
 refine kK 28 rfl (hin)<|aC rfl rfl<|wy (dI rfl)<|wy (aS rfl rfl)<|aA<|aL rfl<|aK<|wq<|wm rfl<|wy (aD rfl)<|wy (aB (off:=1) (m:=1) underlying102 rfl fT rfl rfl rfl)<|wy (aJ (rdR 0 (r:=⟨102,2,(some ⟨g,0,none⟩),1,1,[.slice At s.length ct, .slice Ap ((l++[(2,at_)]).length) cp],false⟩) rfl) underlying100 rfl rfl rfl)<|wm rfl<|wy (jB underlying100 jX rfl rfl (rdr 2 rfl) rfl) ?_
 refine wy (Yl.is (EQ underlying106 rfl jX rfl (rdr 2 rfl)) (show _=Value.agg #[.int .i64 2, .int .i64 at_] from by rw[lN]))<|wa (iI (sz:=2) aBt rfl) ?_
 rintro _ _ ⟨g_1,rfl,rfl⟩
 refine bY (fQ (vs:=[.int .i64 2, .int .i64 at_]) 0 rfl jX rfl rfl rfl (by intro v hv;simp at hv;rcases hv with rfl|rfl<;>rfl) rfl) ?_
 rintro _ _ rfl
 refine aA<|aG<|wq<|wy (aB (off:=0) (m:=0) underlying106 rfl sz3 rfl rfl rfl)<|wy (aJ (rdR 0 (r:=⟨106,2,(some ⟨g_1,0,none⟩),1,1,[.int .i64 2, .int .i64 at_],false⟩) rfl) underlying3 rfl rfl rfl)<|aA<|aI<|wq<|wy (Yl.f (bC rfl rfl) (by decide))<|wg rfl<|aA<|aL rfl<|aG ?_
 refine aM<|wy (Yl.f (bC rfl rfl) (by decide))<|wg rfl<|aA<|aL rfl<|wq<|wy (Yl.t (bC rfl rfl) (by decide))<|wg rfl<|aA<|bO rfl<|aM<|wm rfl<|wm rfl<|wy (aD rfl) ?_
 refine wy (aB (off:=0) (m:=0) underlying102 rfl dO rfl rfl rfl)<|wy (aJ (rdR 1 (r:=⟨102,2,(some ⟨g,0,none⟩),1,1,[.slice At s.length ct, .slice Ap ((l++[(2,at_)]).length) cp],false⟩) rfl) underlying22 rfl rfl rfl)<|wa (aF aXx rfl (Ct.fresh (fun w hw=>OA ((rdr 2 rfl) w hw) bh_s (by omega)))) ?_
 rintro _ _ ⟨_,rfl,A_2,c_3,rfl,rfl⟩
 refine wy (aD rfl)<|wy (aB (off:=0) (m:=0) underlying102 rfl dO rfl rfl rfl)<|bY (aY 2 rfl rfl rfl dO rfl rfl rfl rfl (Nat.le_of_ble_eq_true rfl)) ?_
 rintro _ _ rfl
 refine aA<|wq<|wm rfl<|wm rfl<|wy (aD rfl)<|wy (aB (off:=1) (m:=1) underlying102 rfl fT rfl rfl rfl)<|wy (aJ (rdR 2 (r:=⟨102,2,(some ⟨g,0,none⟩),1,1,[.slice A_2 ((s).length) c_3, .slice Ap ((l++[(2,at_)]).length) cp],false⟩) rfl) underlying100 rfl rfl rfl)<|wm rfl<|wy (gD underlying100 jX rfl rfl (rdr 4 rfl))<|wy (aD rfl)<|wy (aB (off:=1) (m:=1) underlying102 rfl fT rfl rfl rfl)<|bY (aY 2 rfl rfl rfl fT rfl rfl rfl rfl (Nat.le_of_ble_eq_true rfl)) ?_
 rintro _ _ rfl
 refine aA<|wq<|wg rfl<|aA<|bR (R1:=⟨102,2,(some ⟨g,0,none⟩),1,1,[.slice A_2 ((s).length) c_3, .slice Ap l.length cp],false⟩::⟨5,1,A_2,((s).length),c_3,ints .u8 (jW aR s),false⟩::⟨106,2,Ap,l.length,cp,prs l,false⟩::R) (fun _ h=>Hp.pickT (R:=⟨106,2,Ap,l.length,cp,prs l,false⟩::⟨102,2,(some ⟨g,0,none⟩),1,1,[.slice A_2 ((s).length) c_3, .slice Ap l.length cp],false⟩::⟨5,1,A_2,((s).length),c_3,ints .u8 (jW aR s),false⟩::R) (Hp.dropLast (h.pickT [4,2,0] 5 (by decide) rfl) (by rw[List.length_append];rfl)) [1,2,0] 3 (by decide) rfl) ?_
 refine⟨_,rfl,?_⟩
 have e:s.length=s0.length:=by rw[←hb,uY]
 rw[hb,e]
 exact⟨_,_,rfl,rfl⟩
set_option maxRecDepth 100000 in
set_option maxHeartbeats 1000000 in
theorem RD {k so od sz:Int} (hnt:nt=s.length) (hk_:RdC B w0 R A_k n_k c_k 1 (ints .i64 ks)) (hnk:n_k=ks.length) (hnp:np=(l++[(3,at_)]).length) (hin:(3:Int)∈ks) (hl:l.length≤1000∧ks.length≤10) (bh_s:aO s) (hN:s.length≤100000) (hu:s=nR k so od sz s0) (bh_w:aO s0) (hS:s0.length≤400) (hk:k=0∨k=1∨k=2) (hp:(0≤so∧so≤2)∧(od=0∨od=1)∧(1≤sz∧sz≤16777216)):
  Ct Tryz.prog 62 #[.pointer (some ⟨g,0,none⟩), .slice A_k n_k c_k] B w0 (⟨102,2,(some ⟨g,0,none⟩),1,1,[.slice At nt ct, .slice Ap ((l++[(3,at_)]).length) cp],false⟩::⟨5,1,At,nt,ct,ints .u8 s,false⟩::⟨106,2,Ap,np,cp,prs (l++[(3,at_)]),false⟩::R) (fun v R'=> ∃(A8:Option Addr) (c8:Nat),v= .int .i64 0∧R'=⟨102,2,(some ⟨g,0,none⟩),1,1,[.slice A8 s0.length c8, .slice Ap l.length cp],false⟩::⟨5,1,A8,s0.length,c8,ints .u8 s0,false⟩::⟨106,2,Ap,l.length,cp,prs l,false⟩::R):=by
 subst hnt
 subst hnp
 subst hnk
 have hll:(l++[((3:Int),at_)]).length=l.length+1:=by rw[List.length_append];rfl
 refine fn1 Tryz.func62 rfl rfl rfl ?_
 refine wq<|wg rfl<|aA<|wq<|wm rfl<|wy (aD rfl)<|wy (aB (off:=1) (m:=1) underlying102 rfl fT rfl rfl rfl)<|wy (aJ (rdR 0 (r:=⟨102,2,(some ⟨g,0,none⟩),1,1,[.slice At s.length ct, .slice Ap ((l++[(3,at_)]).length) cp],false⟩) rfl) underlying100 rfl rfl rfl)<|wy (aQ underlying100 rfl)<|wy (Yl.is (jF rfl rfl) (show _=Value.int .i64 ((l.length:Nat):Int) from by rw[hll];congr 1;omega))<|wg rfl<|aA<|aG ?_
 refine wq<|wm rfl<|wy (Yl.f (eP rfl rfl))<|wm rfl<|aC rfl rfl<|wm rfl<|aC rfl rfl<|wm rfl<|aC rfl rfl<|wy (aD rfl)<|aC rfl rfl<|wy (aB (off:=1) (m:=1) underlying102 rfl fT rfl rfl rfl)<|aC rfl rfl<|wy (aJ (rdR 0 (r:=⟨102,2,(some ⟨g,0,none⟩),1,1,[.slice At s.length ct, .slice Ap ((l++[(3,at_)]).length) cp],false⟩) rfl) underlying100 rfl rfl rfl) ?_
 refine aC rfl rfl<|wm rfl<|aC rfl rfl<|wy (jB underlying100 jX rfl rfl (rdr 2 rfl) rfl)<|aC rfl rfl<|wy (sS (off:=0) underlying106 rfl sz3 rfl rfl (rdr 2 rfl) (by omega) (by omega))<|aC rfl rfl<|wy (Yl.is (EP underlying3 rfl rfl (rdr 2 rfl)) (show _=Value.int .i64 3 from by rw[lN]))<|aC rfl rfl<|wa (aF VJ rfl (Ct.quiet (fun w hw=>lZ ((RdC.right hk_ [_,_,_]) w hw) (by omega)))) ?_
 rintro _ _ ⟨rfl,rfl⟩
 refine kK 28 rfl (hin)<|aC rfl rfl<|wy (dI rfl)<|wy (aS rfl rfl)<|aA<|aL rfl<|aK<|wq<|wm rfl<|wy (aD rfl)<|wy (aB (off:=1) (m:=1) underlying102 rfl fT rfl rfl rfl)<|wy (aJ (rdR 0 (r:=⟨102,2,(some ⟨g,0,none⟩),1,1,[.slice At s.length ct, .slice Ap ((l++[(3,at_)]).length) cp],false⟩) rfl) underlying100 rfl rfl rfl)<|wm rfl<|wy (jB underlying100 jX rfl rfl (rdr 2 rfl) rfl) ?_
 refine wy (Yl.is (EQ underlying106 rfl jX rfl (rdr 2 rfl)) (show _=Value.agg #[.int .i64 3, .int .i64 at_] from by rw[lN]))<|wa (iI (sz:=2) aBt rfl) ?_
 rintro _ _ ⟨g_1,rfl,rfl⟩
 refine bY (fQ (vs:=[.int .i64 3, .int .i64 at_]) 0 rfl jX rfl rfl rfl (by intro v hv;simp at hv;rcases hv with rfl|rfl<;>rfl) rfl) ?_
 rintro _ _ rfl
 refine aA<|aG<|wq<|wy (aB (off:=0) (m:=0) underlying106 rfl sz3 rfl rfl rfl)<|wy (aJ (rdR 0 (r:=⟨106,2,(some ⟨g_1,0,none⟩),1,1,[.int .i64 3, .int .i64 at_],false⟩) rfl) underlying3 rfl rfl rfl)<|aA<|aI<|wq<|wy (Yl.f (bC rfl rfl) (by decide))<|wg rfl<|aA<|aL rfl<|aG ?_
 refine aM<|wy (Yl.f (bC rfl rfl) (by decide))<|wg rfl<|aA<|aL rfl<|wq<|wy (Yl.f (bC rfl rfl) (by decide))<|wg rfl<|aA<|aL rfl<|wq<|wm rfl<|wy (aD rfl) ?_
 refine wy (aB (off:=0) (m:=0) underlying102 rfl dO rfl rfl rfl)<|wy (aJ (rdR 1 (r:=⟨102,2,(some ⟨g,0,none⟩),1,1,[.slice At s.length ct, .slice Ap ((l++[(3,at_)]).length) cp],false⟩) rfl) underlying22 rfl rfl rfl)<|wa (aF bGf rfl (Ct.fresh (fun w hw=>aVi (w:=s0) (k:=k) (so:=so) (od:=od) (sz:=sz) ((rdr 2 rfl) w hw) bh_s (by omega) hu bh_w hS hk hp (by omega) (.inl (by omega))))) ?_
 rintro _ _ ⟨_,rfl,A_2,c_3,rfl,rfl⟩
 refine wm rfl<|wX rfl rfl<|wX rfl rfl<|wX rfl rfl<|wa (iI (sz:=2) bBe rfl) ?_
 rintro _ _ ⟨g_6,rfl,rfl⟩
 refine wa (iI (sz:=4) bBd rfl) ?_
 rintro _ _ ⟨g_8,rfl,rfl⟩
 refine bY (fQ (vs:=[.slice A_2 ((s0).length) c_3, .slice none 0 0]) 1 rfl AJ rfl rfl rfl (by intro v hv;simp at hv;rcases hv with rfl|rfl<;>rfl) rfl) ?_
 rintro _ _ rfl
 refine bY (fQ (vs:=[.int .i64 k, .int .i64 so, .int .i64 od, .int .i64 sz]) 0 rfl gI rfl rfl rfl (by intro v hv;simp at hv;rcases hv with rfl|rfl|rfl|rfl<;>rfl) rfl) ?_
 rintro _ _ rfl
 refine wg rfl<|aA<|aM<|wm rfl<|wy (aB (off:=0) (m:=0) underlying25 rfl dO rfl rfl rfl)<|wy (aJ (rdR 1 (r:=⟨25,2,(some ⟨g_6,0,none⟩),1,1,[.slice A_2 ((s0).length) c_3, .slice none 0 0],false⟩) rfl) underlying22 rfl rfl rfl)<|wy (aD rfl)<|wy (aB (off:=0) (m:=0) underlying102 rfl dO rfl rfl rfl)<|bY (aY 4 rfl rfl rfl dO rfl rfl rfl rfl (Nat.le_of_ble_eq_true rfl)) ?_
 rintro _ _ rfl
 refine aA<|wq<|wm rfl<|wm rfl<|wy (aD rfl)<|wy (aB (off:=1) (m:=1) underlying102 rfl fT rfl rfl rfl)<|wy (aJ (rdR 4 (r:=⟨102,2,(some ⟨g,0,none⟩),1,1,[.slice A_2 ((s0).length) c_3, .slice Ap ((l++[(3,at_)]).length) cp],false⟩) rfl) underlying100 rfl rfl rfl)<|wm rfl<|wy (gD underlying100 jX rfl rfl (rdr 6 rfl))<|wy (aD rfl)<|wy (aB (off:=1) (m:=1) underlying102 rfl fT rfl rfl rfl)<|bY (aY 4 rfl rfl rfl fT rfl rfl rfl rfl (Nat.le_of_ble_eq_true rfl)) ?_
 rintro _ _ rfl
 refine aA<|wq<|wg rfl<|aA<|bR (R1:=⟨102,2,(some ⟨g,0,none⟩),1,1,[.slice A_2 ((s0).length) c_3, .slice Ap l.length cp],false⟩::⟨5,1,A_2,(s0).length,c_3,ints .u8 s0,false⟩::⟨106,2,Ap,l.length,cp,prs l,false⟩::R) (fun _ h=>Hp.pickT (R:=⟨106,2,Ap,l.length,cp,prs l,false⟩::⟨102,2,(some ⟨g,0,none⟩),1,1,[.slice A_2 ((s0).length) c_3, .slice Ap l.length cp],false⟩::⟨5,1,A_2,(s0).length,c_3,ints .u8 s0,false⟩::R) (Hp.dropLast (h.pickT [6,4,2] 7 (by decide) rfl) (by rw[List.length_append];rfl)) [1,2,0] 3 (by decide) rfl) ?_
 refine⟨_,rfl,?_⟩
 exact⟨_,_,rfl,rfl⟩
set_option maxRecDepth 100000 in
theorem sZ {K:Int} (hnt:nt=s.length) (hk_:RdC B w0 R A_k n_k c_k 1 (ints .i64 ks)) (hnk:n_k=ks.length) (hnp:np=(l++[(K,at_)]).length) (hin:K∉ks) (hl:l.length≤1000∧ks.length≤10):
  Ct Tryz.prog 62 #[.pointer (some ⟨g,0,none⟩), .slice A_k n_k c_k] B w0 (⟨102,2,(some ⟨g,0,none⟩),1,1,[.slice At nt ct, .slice Ap ((l++[(K,at_)]).length) cp],false⟩::⟨5,1,At,nt,ct,ints .u8 s,false⟩::⟨106,2,Ap,np,cp,prs (l++[(K,at_)]),false⟩::R) (fun v R'=>v= .int .i64 6∧R'=⟨102,2,(some ⟨g,0,none⟩),1,1,[.slice At nt ct, .slice Ap np cp],false⟩::⟨5,1,At,nt,ct,ints .u8 s,false⟩::⟨106,2,Ap,np,cp,prs (l++[(K,at_)]),false⟩::R):=by
 subst hnt
 subst hnp
 subst hnk
 have hll:(l++[(K,at_)]).length=l.length+1:=by rw[List.length_append];rfl
 refine fn1 Tryz.func62 rfl rfl rfl ?_
 refine wq<|wg rfl<|aA<|wq<|wm rfl<|wy (aD rfl)<|wy (aB (off:=1) (m:=1) underlying102 rfl fT rfl rfl rfl)<|wy (aJ (rdR 0 (r:=⟨102,2,(some ⟨g,0,none⟩),1,1,[.slice At s.length ct, .slice Ap ((l++[(K,at_)]).length) cp],false⟩) rfl) underlying100 rfl rfl rfl)<|wy (aQ underlying100 rfl)<|wy (Yl.is (jF rfl rfl) (show _=Value.int .i64 ((l.length:Nat):Int) from by rw[hll];congr 1;omega))<|wg rfl<|aA<|aG ?_
 refine wq<|wm rfl<|wy (Yl.f (eP rfl rfl))<|wm rfl<|aC rfl rfl<|wm rfl<|aC rfl rfl<|wm rfl<|aC rfl rfl<|wy (aD rfl)<|aC rfl rfl<|wy (aB (off:=1) (m:=1) underlying102 rfl fT rfl rfl rfl)<|aC rfl rfl<|wy (aJ (rdR 0 (r:=⟨102,2,(some ⟨g,0,none⟩),1,1,[.slice At s.length ct, .slice Ap ((l++[(K,at_)]).length) cp],false⟩) rfl) underlying100 rfl rfl rfl) ?_
 refine aC rfl rfl<|wm rfl<|aC rfl rfl<|wy (jB underlying100 jX rfl rfl (rdr 2 rfl) rfl)<|aC rfl rfl<|wy (sS (off:=0) underlying106 rfl sz3 rfl rfl (rdr 2 rfl) (by omega) (by omega))<|aC rfl rfl<|wy (Yl.is (EP underlying3 rfl rfl (rdr 2 rfl)) (show _=Value.int .i64 K from by rw[lN]))<|aC rfl rfl<|wa (aF VJ rfl (Ct.quiet (fun w hw=>lZ ((RdC.right hk_ [_,_,_]) w hw) (by omega)))) ?_
 rintro _ _ ⟨rfl,rfl⟩
 refine uX 28 rfl (hin)<|aC rfl rfl<|wy (dI rfl)<|wy (aS rfl rfl)<|aA<|bO rfl<|wq<|wg rfl<|aA<|bR (R1:=(⟨102,2,(some ⟨g,0,none⟩),1,1,[.slice At s.length ct, .slice Ap ((l++[(K,at_)]).length) cp],false⟩::⟨5,1,At,s.length,ct,ints .u8 s,false⟩::⟨106,2,Ap,(l++[(K,at_)]).length,cp,prs (l++[(K,at_)]),false⟩::R)) (fun _ h=>h) ?_
 refine⟨_,rfl,?_⟩
 exact⟨rfl,rfl⟩
set_option maxRecDepth 100000 in
theorem tC (hk_:RdC B w0 R A_k n_k c_k 1 (ints .i64 ks)) (hnk:n_k=ks.length):
  Ct Tryz.prog 62 #[.pointer (some ⟨g,0,none⟩), .slice A_k n_k c_k] B w0 (⟨102,2,(some ⟨g,0,none⟩),1,1,[.slice At nt ct, .slice Ap 0 cp],false⟩::⟨5,1,At,nt,ct,ints .u8 s,false⟩::⟨106,2,Ap,0,cp,prs ([]),false⟩::R) (fun v R'=>v= .int .i64 6∧R'=⟨102,2,(some ⟨g,0,none⟩),1,1,[.slice At nt ct, .slice Ap 0 cp],false⟩::⟨5,1,At,nt,ct,ints .u8 s,false⟩::⟨106,2,Ap,0,cp,prs ([]),false⟩::R):=by
 subst hnk
 refine fn1 Tryz.func62 rfl rfl rfl ?_
 refine wq<|wg rfl<|aA<|wq<|wm rfl<|wy (aD rfl)<|wy (aB (off:=1) (m:=1) underlying102 rfl fT rfl rfl rfl)<|wy (aJ (rdR 0 (r:=⟨102,2,(some ⟨g,0,none⟩),1,1,[.slice At nt ct, .slice Ap 0 cp],false⟩) rfl) underlying100 rfl rfl rfl)<|wy (aQ underlying100 rfl)<|wy (Yl.is (jF rfl rfl) rfl)<|wg rfl<|aA<|aG ?_
 refine wq<|wm rfl<|wy (Yl.t (eP rfl rfl) (by decide))<|wm rfl<|aP rfl rfl rfl rfl<|aP rfl rfl rfl rfl<|aP rfl rfl rfl rfl<|aP rfl rfl rfl rfl<|aP rfl rfl rfl rfl<|aP rfl rfl rfl rfl<|aP rfl rfl rfl rfl<|aP rfl rfl rfl rfl<|aP rfl rfl rfl rfl<|aP rfl rfl rfl rfl ?_
 refine aP rfl rfl rfl rfl<|wy (bA rfl rfl)<|aA<|bO rfl<|wq<|wg rfl<|aA<|bR (R1:=(⟨102,2,(some ⟨g,0,none⟩),1,1,[.slice At nt ct, .slice Ap 0 cp],false⟩::⟨5,1,At,nt,ct,ints .u8 s,false⟩::⟨106,2,Ap,0,cp,prs ([]),false⟩::R)) (fun _ h=>h) ?_
 refine⟨_,rfl,?_⟩
 exact⟨rfl,rfl⟩
end Go.Proofs.YtdbebmmhdefgdaaGreat
