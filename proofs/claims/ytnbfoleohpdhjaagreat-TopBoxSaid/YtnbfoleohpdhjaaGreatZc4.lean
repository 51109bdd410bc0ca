/- Own work. -/
import Derived.Lib.AppendZeros
import Derived.Maps.AppendAt
import Derived.Tactics
import Derived.Tactics2
import Derived.Defers
import Derived.Laws.Pointers
import Derived.Laws.LoneSync
import Derived.RegionTactic
import Derived.RegionCalls
import Derived.ChangeAlike
import Derived.Test.YtnbfoleohpdhjaaGreatZc3
set_option linter.unusedVariables false
set_option linter.unusedSimpArgs false
set_option maxHeartbeats 8000000
namespace Go.Eng
open Go Go.RowKit Go.Pure
section
variable {P:Program} {n:Nd} {B:Nat} {w0:World} {L:Env} {R:List Row} {ty:TypeId}
theorem wrap32 {x:Int} (h:0<=x/\x<4294967296):IntKind.u32.wrap x=x:=by
 simp[IntKind.wrap,IntKind.bits,IntKind.signed];omega
theorem AR {p:Int} (h:0<=p/\p<4294967296):(BitVec.ofInt 32 p).toNat=p.toNat:=by
 rw[zq];have e:((2^32:Nat):Int)=4294967296:=rfl;rw[e,kz h.1 h.2]
theorem CK {x:Operand} {s d:TypeId} {j:IntKind} {p:Int} {td:TypeDesc} (en:P.underlying s=some td) (hd:P.underlying d=some (.int .u32)) (hx:ev L x=some (.int j p)) (h:0<=p/\p<4294967296):Yl P n B w0 (.convert s d x) ty L R (.int .u32 p):=by
 have:=nR (P:=P) (n:=n) (B:=B) (w0:=w0) (R:=R) (ty:=ty) en hd hx;rwa[wrap32 h] at this
theorem aOg (x m:Int) (h:0<=x*m/\x*m<4294967296) (j:IntKind) (k:Nat) (hk:k<=32) (hm:(2:Int)^k=m) (w:World):(Op.shift .shl .u32 x j (k:Int)).run P w= .ok (.int .u32 (x*m)) w:=by
 have hn: ¬((k:Int)<0):=G
 have hb:min (k:Int).toNat (IntKind.bits .u32)=k:=by
  have:IntKind.bits .u32=32:=rfl;omega
 unfold Op.shift;simp only[hn,hb,yj,hm,wrap32 h];rfl
theorem KY {x y:Operand} {t u:TypeId} {a m:Int} {j:IntKind} {k:Nat} (hx:ev L x=some (.int .u32 a)) (hy:ev L y=some (.int j (k:Int))) (hm:(2:Int)^k=m) (h:0<=a*m/\a*m<4294967296) (hk:Nat.ble k 32=true):Yl P n B w0 (.binOp .shl t x y u) ty L R (.int .u32 (a*m)):=by
 intro a' w o ho _ hs _;simp[execOp,ho,hs.ev hx,hs.ev hy,binOp,eqGuard,aOg a m h j k (ak hk) hm]
theorem aUd (p q:Int) (k:Nat) (m:Int) (hm:(2:Int)^k=m) (h:0<=p/\p*m+q<4294967296) (hq:0<=q/\q<m) (w:World):(Op.intBits .or .u32 q (p*m)).run P w= .ok (.int .u32 (q+p*m)) w:=by
 show Result.ok (Value.int .u32 (IntKind.u32.wrap ((BitVec.ofInt 32 q|||BitVec.ofInt 32 (p*m)).toNat:Int))) w=_;have hpm:0<=p*m:=Ar h.1 G;rw[BitVec.or_comm,Kj,AR G,AR G]
 have e1:(p*m).toNat=2^k*p.toNat:=by
  have:p*m=((2^k*p.toNat:Nat):Int):=by
   rw[Bi,mg h.1,Gm,<-hm,Ea];rfl
  rw[this,dh]
 have e2:q.toNat<2^k:=by
  have:((2^k:Nat):Int)=m:=by rw[<-hm,Gm];rfl
  omega
 rw[e1,<-Gv e2,<-e1];rw[show(((p*m).toNat+q.toNat:Nat):Int)=q+p*m by omega,wrap32 G]
theorem WC {x y:Operand} {t u:TypeId} {p q m:Int} (k:Nat) (hx:ev L x=some (.int .u32 q)) (hy:ev L y=some (.int .u32 (p*m))) (hm:(2:Int)^k=m) (h:0<=p/\p*m+q<4294967296) (hq:0<=q/\q<m):Yl P n B w0 (.binOp .or t x y u) ty L R (.int .u32 (q+p*m)):=by
 intro a w o ho _ hs _;simp[execOp,ho,binOp,eqGuard,hs.ev hx,hs.ev hy,aUd p q k m hm h hq]
theorem xK {w:World} (base:Nat) (t tn ty e:TypeId) (kn:IntKind) (i:TypeInfo) (z:Value) (bytes:Nat) (ht:P.underlying t=some (.slice e)) (Sp:P.underlying tn=some (.int kn)) (hi:P.info? e=some i) (hz:i.zero=some z)
  (Ql:i.size=1) (Nl:i.bytes=bytes) (Tw:z.cells= #[z]) (c5:z.oneCell'=true) (v:Value) (n:Nat) (xs:AG) (fk:w.ownsRow base e 1 v n xs) (m:Nat) (h0:0<m) (h63:n+m<=maxLen) (kj:(n+m)*bytes<=140737488355328) (Vq:base<=w.heap.size):
  ∃v' w',(Builtin.append_ #[t,tn] ty #[v, .int .i64 (m:Int)]).run P w= .ok v' w'/\w'.ownsRow base e 1 v' (n+m) (xs++List.replicate m z)/\w.grownBy w' v.ownBlock/\(v'.ownBlock=v.ownBlock\/v'.ownBlock=some w.heap.size):=by
 subst Nl;have sq:n+m<=9223372036854775807:=by simp only[maxLen] at h63;omega
 have hl:(List.replicate m z).length=m:=bz;have hlen:(xs++List.replicate m z).length=(n+m)*1:=by rw[ah,fk.1,hl];omega
 have Zr: ∀q,(Builtin.zeroCells z.cells q).toList=List.replicate q z:=λq=>by
  rw[Tw];refine ul (by simp[Builtin.zeroCells]) λi h1 h2=> ?_;simp[Builtin.zeroCells,Nat.mod_one]
 have j6:Builtin.zeroCells z.cells m=(List.replicate m z).toArray:=by rw[<-Zr m]
 have qn:m≠0:=G
 have hw:IntKind.i64.wrap (m:Int)=m:=by rw[Ca];omega
 have Oy: ¬((m:Int)<0):=G
 have Qh:m*i.bytes<=(n+m)*i.bytes:=vg _ G
 have Uq: ¬(281474976710656<(m:Int)*(i.bytes:Int)):=by
  rw[<-Bi];omega
 have grown: ∀(old:Nat),old<n+m-> ∀(row:Option Nat),
   (w.drew.alloc (.cells (xs.toArray++Builtin.zeroCells z.cells m++Builtin.zeroCells z.cells (grownCap w (n+m) old e-(n+m))) e)).ownsRow base e 1 (.slice (some ⟨w.heap.size,0,none⟩) (n+m) (grownCap w (n+m) old e)) (n+m) (xs++List.replicate m z)/\
   w.grownBy (w.drew.alloc (.cells (xs.toArray++Builtin.zeroCells z.cells m++Builtin.zeroCells z.cells (grownCap w (n+m) old e-(n+m))) e)) row:=by
  intro old ho row;have Ly:=grownCap_ge w (n+m) old e;have sp:grownCap w (n+m) old e<=maxLen:=Ig w (n+m) old e h63;have g7:=fk.1;refine⟨⟨hlen, .inr ⟨w.heap.size,_,_,rfl,Vq,heap_alloc_new w.drew _,Ly,sp,?_,?_⟩⟩,⟨rfl,rfl,rfl,cD,λk hk _=>by first|exact heap_alloc_old w.drew _ k hk|exact heap_alloc_old w.drew _ hk⟩⟩
  ·rw [<-jq,wh,wh,ah,ah,Zr,Zr,bz,bz];show xs.length+m+_=_;omega
  ·rw [wh,wh,Zr,<-hlen];exact Ef
 rcases fk.2 with⟨rfl,rfl⟩|⟨g,cap,cur,rfl,hbg,hg,hnc,sp,jp,htake⟩
 ·have hx:xs=[]:=dw (by simpa using fk.1);subst hx;have hr:=Lib.run_append_nil_zeros (P:=P) w t tn ty e i z .i64 kn ht Sp hi hz m h0 G G G;have Tb:=grown 0 G (Value.ownBlock (.slice none 0 0));simp only[ny,iv,Array.empty_append] at Tb ⊢;exact⟨_,_,hr,Tb.1,Tb.2,Or.inr rfl⟩
 ·by_cases qv:n+m<=cap
  ·have m8:n*1+(List.replicate m z).length<=cur.size:=by rw[hl,jp];omega
   have gd:=run_storeCells_at P g (n*1) e (List.replicate m z) 0 cur w hg (by simpa using m8) (λu hu=>by rw[Cr hu];exact c5);simp only[rq] at gd
   have hr:(Builtin.append_ #[t,tn] ty #[.slice (some ⟨g,0,none⟩) n cap, .int .i64 (m:Int)]).run P w= .ok (.slice (some ⟨g,0,none⟩) (n+m) cap) (w.setRow g (cur.toList.take (n*1)++List.replicate m z++cur.toList.drop (n*1+(List.replicate m z).length)).toArray):=by
    simp only[qp] at gd;simp[Builtin.append_,ou ht,ou Sp,sizeOf,typeInfo,zeroValue,hi,hz,asInt,asIntOf,hw,qn,Oy,Uq,Ql,qv,j6,Addr.add_lit,gd]
   refine⟨_,_,hr,⟨hlen, .inr ⟨g,cap,_,rfl,hbg,Lb w g cur _ e _ hg,qv,sp,?_,?_⟩⟩,⟨rfl,rfl,rfl,cD,λk _ hk=>Ki w g k _ (λe=>hk (by simp[Value.ownBlock,e]))⟩,Or.inl rfl⟩
   ·simp only[qx,ah,ax,bn,jq];omega
   ·rw [htake,<-hlen];exact Ef
  ·have holds: ∀j u,xs[j]? =some u->w.cell? ((⟨g,0,none⟩:Addr).add j)=some u:=fk.cells (g:=g) rfl;have hfo:=run_firstCells_some (P:=P) w.drew 1 n ⟨g,0,none⟩ n cap xs fk.1 (by simpa using holds);have hn: ¬(n+m<=cap):=qv;have h63': ¬(9223372036854775807<((n:Int)+(m:Int))):=G
   have hfits:=growslice_fits (old:=cap) G kj;have h48': ¬(281474976710656<Builtin.nextslicecap (n+m) cap*i.bytes):=G
   have hr:(Builtin.append_ #[t,tn] ty #[.slice (some ⟨g,0,none⟩) n cap, .int .i64 (m:Int)]).run P w= .ok (.slice (some ⟨w.heap.size,0,none⟩) (n+m) (grownCap w (n+m) cap e)) (w.drew.alloc (.cells (xs.toArray++Builtin.zeroCells z.cells m++Builtin.zeroCells z.cells (grownCap w (n+m) cap e-(n+m))) e)):=by
    simp[Builtin.append_,ou ht,ou Sp,sizeOf,typeInfo,zeroValue,hi,hz,asInt,asIntOf,hw,qn,Oy,Uq,Ql,hn,h63',h48',Question.forced,hfo,newRow,grownCap]
   have Tb:=grown cap G (Value.ownBlock (.slice (some ⟨g,0,none⟩) n cap));exact⟨_,_,hr,Tb.1,Tb.2,Or.inr rfl⟩
theorem bBn {s x:Operand} {t tn e:TypeId} {bytes m:Nat} {kn k:IntKind} {A:AF} {c q:Nat} {l:AH} (i:Nat) (hi:R[i]? =some ⟨e,1,A,q,c,ints k l,false⟩) (ht:P.underlying t=some (.slice e)) (Sp:P.underlying tn=some (.int kn)) (ee:(P.info? e).map (λi=>(i.zero,i.size,i.bytes))=some (some (.int k 0),1,bytes))
  (hs:ev L s=some (.slice A q c)) (hx:ev L x=some (.int .i64 (m:Int))) (h0:0<m) (h63:q+m<=1000000) (kj:(q+m)*bytes<=140737488355328):
  Ac P n B w0 (.call {callee:= .builtin .append,args:= #[s,x],argTypes:= #[t,tn]}) ty L R (λv R'=> ∃A' c',v= .slice A' (q+m) c'/\R'=R.set i ⟨e,1,A',q+m,c',ints k (l++List.replicate m 0),false⟩):=by
 intro a w o K Q ho _ en hp hk;obtain⟨i0,aw,j6⟩:=je.1 ee;simp only[Ao] at j6;obtain⟨zc,c5,Hb⟩:=j6;have hr:=hp.own _ (gq hi);have fk:=Row.lies_w hr rfl;obtain⟨v',w',h2,h3,h4,h5⟩:=xK (P:=P) B t tn o.type e kn i0 (.int k 0) bytes ht Sp aw zc c5 Hb rfl rfl _ q (ints k l) fk m h0 (by unfold maxLen;omega) kj hp.base
 have Lv: ∃A' c',v'= .slice A' (q+m) c':=by
  rcases h3.2 with⟨rfl,hn⟩|⟨g,cap,cur,rfl,_⟩
  ·exact⟨none,0,by rw[hn]⟩
  ·exact⟨_,cap,rfl⟩
 obtain⟨A',c',rfl⟩:=Lv;have hrep:ints k l++List.replicate m (.int k 0)=ints k (l++List.replicate m 0):=by simp[ints]
 rw[hrep] at h3;unfold Oper.wp execOp;simp only[ho,resolve,invoke,builtin,jw,pu,kg,um,jm,rz,en.ev hs,en.ev hx,h2,Oper.upon];refine hk _ w' _ ?_ ⟨A',c',rfl,rfl⟩;refine hp.upd hi h4 (NS _ _ _ _ h2) (λk hk=> ?_) ?_ (λa' oe=> ?_)
 ·cases hA:A with
  |none=>rw[hA] at hk;simp[Value.ownBlock] at hk
  |some a1=>rw[hA] at hk;simp only[Value.ownBlock,mr] at hk;exact⟨a1,rfl,hk⟩
 ·exact h3
 ·have Oi:A'=some a':=oe;subst Oi;rcases h5 with h5|h5
  ·cases hA:A with
   |none=>rw[hA] at h5;simp[Value.ownBlock] at h5
   |some a1=>rw[hA] at h5;simp only[Value.ownBlock,mr] at h5;exact .inl ⟨a1,rfl,h5.symm⟩
  ·simp only[Value.ownBlock,mr] at h5;exact .inr G
end
theorem bFh {x:Int} (h:0<=x/\x<4294967296):0+x/1%256*1+x/256%256*256+x/65536%256*65536+x/16777216%256*16777216=x:=G
section
variable {P:Program} {n:Nd} {B:Nat} {w0:World} {L:Env} {R:List Row} {ty:TypeId}
def CellIs (L:Env) (R:List Row) (p sz:Nat) (xs:AG):Prop:= ∃(g i:Nat) (r:Row),lk L p=some (.pointer (some ⟨g,0,none⟩))/\R[i]? =some r/\r.ro=false/\r.A=some ⟨g,0,none⟩/\r.n=1/\r.c=1/\r.sz=sz/\r.xs=xs
theorem CellIs.load {m:Nat} {p sz:Nat} {xs:AG} {a:Act} {w:World} (h:CellIs L R p sz xs) (hs:Sat (m:Nd) L a) (hp:Hp B w0 w R): ∃g e,a.tmps[p]?.getD undef= .pointer (some ⟨g,0,none⟩)/\w.heap[g]? =some (.cells xs.toArray e (0,0))/\xs.length=sz:=by
 obtain⟨g,i,r,h1,h2,h3,h4,h5,h6,h7,h8⟩:=h;have fk:=Row.lies_w (hp.own r (gq h2)) h3;rcases fk.2 with⟨hn,_⟩|⟨g',cap,cur,hv,_,hg,_,_,jp,ht⟩
 ·rw[h4] at hn;cases hn
 ·rw [h4] at hv;simp only[ko,mr,Am,Aj,zw] at hv;obtain⟨rfl,rfl⟩:=hv;rw[h5,h7,Ah] at ht;rw[h6,h7,Ah] at jp
  have e:cur=r.xs.toArray:=by
   rw[<-ht,bg (by rw[jq];omega)]
  rw[h8] at e;subst e;exact⟨g,_,by have:=hs.getD h1;simpa using this,hg,by simpa using jp⟩
theorem aYm {f:FuncId} {fn:Func} {c:Code} {args:AG} {R:List Row} {Post:Value->List Row->Prop} {p1 p2 r3:Nat} {t1 t2:TypeId} {d1 d2:TypeDesc} {s1 s2:Nat} (hf:P.funcs[f]? =some fn) (hb:fn.body=some c) (hr:fn.results= #[.cell p1 t1, .cell p2 t2, .tmp r3]) (hl:Nat.ble args.length fn.ntmps=true)
  (hu1:P.underlying t1=some d1) (Ls:(match d1 with| .struct _| .array _ _=>true|_=>false)=true) (ff:(P.info? t1).map (·.size)=some s1)
  (Nq:P.underlying t2=some d2) (Ro:(match d2 with| .struct _| .array _ _=>true|_=>false)=true) (Ou:(P.info? t2).map (·.size)=some s2)
  (h:W P fn.ntmps B w0 c ⟨λL R'=> ∃xs ys u,CellIs L R' p1 s1 xs/\CellIs L R' p2 s2 ys/\lk L r3=some u/\ ∃R1,(∀w,Hp B w0 w R'->Hp B w0 w R1)/\Post (.tuple #[.agg xs.toArray, .agg ys.toArray,u]) R1,
   λL R'=> ∃xs ys u,CellIs L R' p1 s1 xs/\CellIs L R' p2 s2 ys/\lk L r3=some u/\ ∃R1,(∀w,Hp B w0 w R'->Hp B w0 w R1)/\Post (.tuple #[.agg xs.toArray, .agg ys.toArray,u]) R1,λ_ _ _=>False⟩ (ini 0 args) R):Ct P f args.toArray B w0 R Post:=by
 intro w hw;have Sa:args.length<=fn.ntmps:=ak hl
 have fin: ∀(L':Env) (R':List Row) (a':Act) (w':World),Sat fn.ntmps L' a'->Hp B w0 w' R'->(∃xs ys u,CellIs L' R' p1 s1 xs/\CellIs L' R' p2 s2 ys/\lk L' r3=some u/\ ∃R1,(∀w,Hp B w0 w R'->Hp B w0 w R1)/\Post (.tuple #[.agg xs.toArray, .agg ys.toArray,u]) R1)->
   ∃v R1,(results fn a'.tmps).run P w'= .ok v w'/\Hp B w0 w' R1/\Post v R1:=by
  rintro L' R' a' w' en cr ⟨xs,ys,u,h1,h2,h3,R1,h8,h9⟩;obtain⟨g,e,a1,b1,l1⟩:=h1.load en cr;obtain⟨g',e',a2,b2,l2⟩:=h2.load en cr;have hu3:=en.val r3 u h3
  have kx:(results fn a'.tmps).run P w'= .ok (.tuple #[.agg xs.toArray, .agg ys.toArray,u]) w':=by
   simp[results,hr,a1,a2,hu3,asAddr,Kl w' g e t1 xs.toArray (0,0) d1 b1 hu1 Ls (by rw[ff];simp[l1]),Kl w' g' e' t2 ys.toArray (0,0) d2 b2 Nq Ro (by rw[Ou];simp[l2])]
  exact⟨_,R1,kx,h8 _ cr,h9⟩
 refine calls_of_wp hf hb (wp_mono (wpIn_wide.1 (h _ w ⟨cH,rfl,λt v ht=> ?_⟩ hw)) ?_)
 ·obtain ⟨_,h2⟩:=XN args 0 t v ht;simp only[yg] at h2;have br:=(fw.1 h2).1;rw[<-h2];simp[zx,br]
 ·intro e a' w' hq;cases e with
  |normal=>
   obtain⟨L',R',en,cr,hx⟩:=hq;obtain⟨v,R1,kx,hh,mn⟩:=fin L' R' _ _ en cr hx;exact⟨en.defers,v,kx,v,R1,rfl,hh,mn⟩
  |ret=>
   obtain⟨L',R',en,cr,hx⟩:=hq;obtain⟨v,R1,kx,hh,mn⟩:=fin L' R' _ _ en cr hx;exact⟨en.defers,v,kx,v,R1,rfl,hh,mn⟩
  |exit id=>obtain⟨_,_,_,_,h⟩:=hq;exact h.elim
  |goto l=>exact hq
  |panic ch=>exact hq.elim
  |outgrown=>exact hq.elim
end
section
variable {P:Program} {n:Nd} {B:Nat} {w0:World}
theorem aTd {σ0 σ1 σ2 σ3 σ4 σ5 σ6 σ7 σ8 σ9 σ10 σ11 σ12 σ13 σ14 σ15:Type} {c:Code} {Q:gF} {L:Env} {R:List Row} (Lx:σ0->σ1->σ2->σ3->σ4->σ5->σ6->σ7->σ8->σ9->σ10->σ11->σ12->σ13->σ14->σ15->Env) (Rx:σ0->σ1->σ2->σ3->σ4->σ5->σ6->σ7->σ8->σ9->σ10->σ11->σ12->σ13->σ14->σ15->List Row) (J:σ0->σ1->σ2->σ3->σ4->σ5->σ6->σ7->σ8->σ9->σ10->σ11->σ12->σ13->σ14->σ15->Prop) (μ:σ0->σ1->σ2->σ3->σ4->σ5->σ6->σ7->σ8->σ9->σ10->σ11->σ12->σ13->σ14->σ15->Nat)
  (h0: ∃x0 x1 x2 x3 x4 x5 x6 x7 x8 x9 d4 d5 d6 d7 Ns Nt,J x0 x1 x2 x3 x4 x5 x6 x7 x8 x9 d4 d5 d6 d7 Ns Nt/\Sub (Lx x0 x1 x2 x3 x4 x5 x6 x7 x8 x9 d4 d5 d6 d7 Ns Nt) L/\ ∀w,Hp B w0 w R->Hp B w0 w (Rx x0 x1 x2 x3 x4 x5 x6 x7 x8 x9 d4 d5 d6 d7 Ns Nt))
  (round: ∀x0 x1 x2 x3 x4 x5 x6 x7 x8 x9 d4 d5 d6 d7 Ns Nt,J x0 x1 x2 x3 x4 x5 x6 x7 x8 x9 d4 d5 d6 d7 Ns Nt->W P n B w0 c {Q with nrm:=λL' R'=> ∃y0 y1 y2 y3 y4 y5 y6 y7 y8 y9 Hh Hi Hj Hk Ty Tz,J y0 y1 y2 y3 y4 y5 y6 y7 y8 y9 Hh Hi Hj Hk Ty Tz/\μ y0 y1 y2 y3 y4 y5 y6 y7 y8 y9 Hh Hi Hj Hk Ty Tz<μ x0 x1 x2 x3 x4 x5 x6 x7 x8 x9 d4 d5 d6 d7 Ns Nt/\Sub (Lx y0 y1 y2 y3 y4 y5 y6 y7 y8 y9 Hh Hi Hj Hk Ty Tz) L'/\ ∀w,Hp B w0 w R'->Hp B w0 w (Rx y0 y1 y2 y3 y4 y5 y6 y7 y8 y9 Hh Hi Hj Hk Ty Tz)} (Lx x0 x1 x2 x3 x4 x5 x6 x7 x8 x9 d4 d5 d6 d7 Ns Nt) (Rx x0 x1 x2 x3 x4 x5 x6 x7 x8 x9 d4 d5 d6 d7 Ns Nt)):W P n B w0 (.loop c) Q L R:=by
 obtain⟨x0,x1,x2,x3,x4,x5,x6,x7,x8,x9,d4,d5,d6,d7,Ns,Nt,h1,h2,h3⟩:=h0;refine qN (σ:=σ0 × σ1 × σ2 × σ3 × σ4 × σ5 × σ6 × σ7 × σ8 × σ9 × σ10 × σ11 × σ12 × σ13 × σ14 × σ15) (λp=>Lx p.1 p.2.1 p.2.2.1 p.2.2.2.1 p.2.2.2.2.1 p.2.2.2.2.2.1 p.2.2.2.2.2.2.1 p.2.2.2.2.2.2.2.1 p.2.2.2.2.2.2.2.2.1 p.2.2.2.2.2.2.2.2.2.1 p.2.2.2.2.2.2.2.2.2.2.1 p.2.2.2.2.2.2.2.2.2.2.2.1 p.2.2.2.2.2.2.2.2.2.2.2.2.1 p.2.2.2.2.2.2.2.2.2.2.2.2.2.1 p.2.2.2.2.2.2.2.2.2.2.2.2.2.2.1 p.2.2.2.2.2.2.2.2.2.2.2.2.2.2.2) (λp=>Rx p.1 p.2.1 p.2.2.1 p.2.2.2.1 p.2.2.2.2.1 p.2.2.2.2.2.1 p.2.2.2.2.2.2.1 p.2.2.2.2.2.2.2.1 p.2.2.2.2.2.2.2.2.1 p.2.2.2.2.2.2.2.2.2.1 p.2.2.2.2.2.2.2.2.2.2.1 p.2.2.2.2.2.2.2.2.2.2.2.1 p.2.2.2.2.2.2.2.2.2.2.2.2.1 p.2.2.2.2.2.2.2.2.2.2.2.2.2.1 p.2.2.2.2.2.2.2.2.2.2.2.2.2.2.1 p.2.2.2.2.2.2.2.2.2.2.2.2.2.2.2) (λp=>J p.1 p.2.1 p.2.2.1 p.2.2.2.1 p.2.2.2.2.1 p.2.2.2.2.2.1 p.2.2.2.2.2.2.1 p.2.2.2.2.2.2.2.1 p.2.2.2.2.2.2.2.2.1 p.2.2.2.2.2.2.2.2.2.1 p.2.2.2.2.2.2.2.2.2.2.1 p.2.2.2.2.2.2.2.2.2.2.2.1 p.2.2.2.2.2.2.2.2.2.2.2.2.1 p.2.2.2.2.2.2.2.2.2.2.2.2.2.1 p.2.2.2.2.2.2.2.2.2.2.2.2.2.2.1 p.2.2.2.2.2.2.2.2.2.2.2.2.2.2.2) (λp=>μ p.1 p.2.1 p.2.2.1 p.2.2.2.1 p.2.2.2.2.1 p.2.2.2.2.2.1 p.2.2.2.2.2.2.1 p.2.2.2.2.2.2.2.1 p.2.2.2.2.2.2.2.2.1 p.2.2.2.2.2.2.2.2.2.1 p.2.2.2.2.2.2.2.2.2.2.1 p.2.2.2.2.2.2.2.2.2.2.2.1 p.2.2.2.2.2.2.2.2.2.2.2.2.1 p.2.2.2.2.2.2.2.2.2.2.2.2.2.1 p.2.2.2.2.2.2.2.2.2.2.2.2.2.2.1 p.2.2.2.2.2.2.2.2.2.2.2.2.2.2.2) ⟨(x0,x1,x2,x3,x4,x5,x6,x7,x8,x9,d4,d5,d6,d7,Ns,Nt),h1,h2,h3⟩ λp hp=>jA (round p.1 p.2.1 p.2.2.1 p.2.2.2.1 p.2.2.2.2.1 p.2.2.2.2.2.1 p.2.2.2.2.2.2.1 p.2.2.2.2.2.2.2.1 p.2.2.2.2.2.2.2.2.1 p.2.2.2.2.2.2.2.2.2.1 p.2.2.2.2.2.2.2.2.2.2.1 p.2.2.2.2.2.2.2.2.2.2.2.1 p.2.2.2.2.2.2.2.2.2.2.2.2.1 p.2.2.2.2.2.2.2.2.2.2.2.2.2.1 p.2.2.2.2.2.2.2.2.2.2.2.2.2.2.1 p.2.2.2.2.2.2.2.2.2.2.2.2.2.2.2 hp) ?_ (λ_ _ h=>h) (λ_ _ _ h=>h);rintro L' R' ⟨y0,y1,y2,y3,y4,y5,y6,y7,y8,y9,Hh,Hi,Hj,Hk,Ty,Tz,g1,g2,g3,g4⟩;exact⟨(y0,y1,y2,y3,y4,y5,y6,y7,y8,y9,Hh,Hi,Hj,Hk,Ty,Tz),⟨g1,g2⟩,g3,g4⟩
def encS (r:RC):Value:= .slice r.A r.root.length r.c
theorem SlR.toRg {Rs:List Row} {vals:AG} {ls:AD} (h:SlR .u8 Rs vals ls) (hb: ∀l∈ls,aO l): ∃lr:List RC,vals=lr.map encS/\lr.map RC.root=ls/\RgR Rs lr:=by
 obtain⟨hl,h⟩:=h
 induction ls generalizing vals with
 |nil=>exact⟨[],by simpa using hl,rfl,RgR.nil _⟩
 | cons l ls ih=>
  rcases vals with _|⟨v,vals⟩
  ·simp at hl
  obtain⟨A,c,h1,h2⟩:=h 0 cD
  obtain⟨lr,e1,e2,e3⟩:=ih (vals:=vals) (λq hq=>hb q (.tail _ hq)) (by simpa using hl) (λj hj=>by
   obtain⟨A,c,h1,h2⟩:=h (j+1) cH
   exact⟨A,c,by simpa using h1,by simpa using h2⟩)
  simp only[List.getElem?_cons_zero,mr,List.getD_cons_zero] at h1 h2;refine⟨⟨A,c,l,0⟩::lr,by rw[h1,e1];rfl,by rw[<-e2];rfl,λr hr=> ?_⟩;rcases jd.1 hr with rfl|hr
  ·exact⟨hb _ (.head _),h2⟩
  ·exact e3 r hr
theorem RgR.toSl {Rs:List Row} {lr:List RC} (h:RgR Rs lr):SlR .u8 Rs (lr.map encS) (lr.map RC.root):=by
 refine⟨cD,λj hj=> ?_⟩;rw[bu] at hj;refine⟨lr[j].A,lr[j].c,?_,?_⟩
 ·rw [lq,av hj,ai,lq,av hj];rfl
 ·rw [ai,lq,av hj];exact(h _ (lu hj)).2
theorem encS_one (x:RC):(encS x).oneCell'=true:=rfl
theorem bAi:Go.Sort.SWO (Go.Proofs.ltOf λx y:RC=>cmpL x.root y.root):=by
 have e: ∀x y:RC,Go.Proofs.ltOf (λx y:RC=>cmpL x.root y.root) x y=true↔cmpL x.root y.root<0:=λx y=>by simp[Go.Proofs.ltOf]
 have e': ∀x y:RC,Go.Proofs.ltOf (λx y:RC=>cmpL x.root y.root) x y=false↔cmpL y.root x.root<=0:=λx y=>by
  rw[<-Bool.not_eq_true,e,lW x.root y.root];omega
 refine⟨λx=> ?_,λx y z h1 h2=> ?_,λx y z h1 h2=> ?_⟩
 ·rw[e',(cmpL_eq x.root x.root).2 rfl];omega
 ·rw [e] at h1 h2 ⊢;have h3:=MF x.root y.root z.root G G;rcases Be h3 with g|g
  ·exact g
  ·have g2:=(cmpL_eq _ _).1 g;rw[g2,lW y.root z.root] at h1;omega
 ·rw [e'] at h1 h2 ⊢;exact MF _ _ _ h2 h1
theorem bAj {a b:AD} (hp:a.Perm b) (ha:a.Pairwise λx y=>cmpL x y<=0) (hb:b.Pairwise λx y=>cmpL x y<=0):a=b:=
 hp.eq_of_pairwise (λx y _ _ h1 h2=>(cmpL_eq x y).1 (by rw[lW x y] at h2;omega)) ha hb
end
end Go.Eng
namespace Go.Eng
open Go Go.RowKit
section
variable {P:Program} {n:Nd} {B:Nat} {w0:World} {ops:Array Oper} {K:Env->List Row->Prop} {L:Env} {R R1:List Row}
theorem MQ {bo:Nat} {ab:AI} (h: ∀w,Hp B w0 w R↔Hp B w0 w R1) (k:WD P n B w0 ops K bo ab L R1):WD P n B w0 ops K bo ab L R:=by
 intro a w Q hs hp kl hq;have e:(λw=>Hp B w0 w R)=(λw=>Hp B w0 w R1):=funext λw=>propext (h w);rw[e];exact k a w Q hs ((h w).1 hp) kl hq
theorem Hp.toTailI {w:World} {X Rs Y T:List Row}:Hp B w0 w ((X++Rs)++(Y++T))↔Hp B w0 w (X++(Y++(Rs++T))):=by
 have hp:((X++Rs)++(Y++T)).Perm (X++(Y++(Rs++T))):=by
  rw[dx];refine wz X ?_;rw[<-dx,<-dx];exact zl T rf
 exact⟨λh=>h.perm hp,λh=>h.perm hp.symm⟩
theorem Hp.toTailI0 {w:World} {X Rs Y:List Row}:Hp B w0 w ((X++Rs)++Y)↔Hp B w0 w (X++(Y++Rs)):=by
 have hp:((X++Rs)++Y).Perm (X++(Y++Rs)):=by
  rw[dx];exact wz X rf
 exact⟨λh=>h.perm hp,λh=>h.perm hp.symm⟩
end
end Go.Eng
namespace Go.Proofs.YtnbfoleohpdhjaaGreat
open Go Go.Eng Go.Pure
open Tryz
set_option maxRecDepth 100000
section
variable {w:World} {x0 x n:Int}
theorem bDp (hv:0<=x0/\x0<18446744073709551616):
  CF 31 #[.int .u64 x0] w (λv R'=> ∃A c,v=sl A ((aV x0).length) c/\R'=[(ru 5 A ((aV x0).length) c (aV x0))]):=by
 refine fn1 Tryz.func31 Z Z Z ?_;have hlen:=bU 9 x0 G;refine wq<|wn Z<|wq<|eZ (ru 5 none 0 0 ([]))<|wn Z<|aD<|aG ?_;refine fE (λ(A1:AF) (n1:Nat) (c1:Nat) (acc:AH) (x:Int)=>[(0, .int .u64 x),(3,sl A1 n1 c1)]) (λA1 n1 c1 acc x=>[(ru 5 A1 n1 c1 acc)]) (λA1 n1 c1 acc x=>(n1=acc.length)/\(0<=x/\x<18446744073709551616)/\(aV x0=acc++aV x)) (λA1 n1 c1 acc x=>x.toNat) ?_ ?_
 ·exact⟨none,0,0,[],x0,⟨(Z),G,(Z)⟩,KP⟩
 intro A1 n1 c1 acc x ⟨cj,Xq,hT⟩;have tk:=bq List.length hT;rw[ah] at tk;refine aD<|wq<|wm Z<|wy (iL Z Z)<|aA<|aX Z (λar=> ?_) (λar=> ?_)
 ·refine aI<|aG<|wq<|wm Z<|wm Z<|wy (dZ gy az Z)<|wy (bMg Z Z G)<|wa (bF .u8 [(x%256)%128+128] af zs5 Z Z Z) ?_;rintro _ _⟨db,rfl,rfl⟩;refine wa (aQ 1 Z af zb5 Z Z Z (rdr 0 Z)) ?_;rintro _ _⟨dv,dy,rfl,rfl⟩;refine bC (v:=sl dv (n1+1) dy) Z<|wn Z<|aK<|wm Z<|wy (pX (k:=7) (m:=128) Z Z Z G Z)<|wn Z ?_;exact⟨dv,n1+1,dy,acc++([(x%256)%128+128]),x/128,⟨(by rw[ah,cj];try rfl),G,(UI hT G G G)⟩,G,SA,λ_ h=>h.sel [1] cC Z⟩
 ·refine aR<|wq<|wm Z<|wm Z<|wy (dZ gy az Z)<|wa (bF .u8 [x%256] af zs5 Z Z Z) ?_;rintro _ _⟨mt,rfl,rfl⟩;refine wa (aQ 1 Z af zb5 Z Z Z (rdr 0 Z)) ?_;rintro _ _⟨iz,fj,rfl,rfl⟩;refine bC (v:=sl iz (n1+1) fj) Z<|wn Z<|aU [1] 99 ?_;refine⟨_,Z,?_⟩;have e:acc++[x%256]=aV x0:=by rw[hT,kN G,kz G G]
  have e2:n1+1=(aV x0).length:=by rw[<-e,ah,cj];rfl
  rw[e,e2];exact⟨_,_,Z,Z⟩
theorem aUf (hv:0<=x0/\x0<18446744073709551616):
  CF 42 #[.int .u64 x0] w (λv R'=> ∃A c,v=sl A ((aV x0).length) c/\R'=[(ru 5 A ((aV x0).length) c (aV x0))]):=by
 refine fn1 Tryz.func42 Z Z Z ?_;have hlen:=bU 9 x0 G;refine wq<|wn Z<|wq<|eZ (ru 5 none 0 0 ([]))<|wn Z<|aD<|aG ?_;refine fE (λ(A1:AF) (n1:Nat) (c1:Nat) (acc:AH) (x:Int)=>[(0, .int .u64 x),(3,sl A1 n1 c1)]) (λA1 n1 c1 acc x=>[(ru 5 A1 n1 c1 acc)]) (λA1 n1 c1 acc x=>(n1=acc.length)/\(0<=x/\x<18446744073709551616)/\(aV x0=acc++aV x)) (λA1 n1 c1 acc x=>x.toNat) ?_ ?_
 ·exact⟨none,0,0,[],x0,⟨(Z),G,(Z)⟩,KP⟩
 intro A1 n1 c1 acc x ⟨cj,Xq,hT⟩;have tk:=bq List.length hT;rw[ah] at tk;refine aD<|wq<|wm Z<|wy (iL Z Z)<|aA<|aX Z (λar=> ?_) (λar=> ?_)
 ·refine aI<|aG<|wq<|wm Z<|wm Z<|wy (KZ (m:=128) 7 Z Z Z Z G Z)<|wy (bMe (m:=128) 7 Z Z Z G G)<|wy (dZ gy az Z)<|wa (bF .u8 [((x%128)+128)%256] af zs5 Z Z Z) ?_;rintro _ _⟨db,rfl,rfl⟩;refine wa (aQ 1 Z af zb5 Z Z Z (rdr 0 Z)) ?_;rintro _ _⟨dv,dy,rfl,rfl⟩;refine bC (v:=sl dv (n1+1) dy) Z<|wn Z<|aK<|wm Z<|wy (pX (k:=7) (m:=128) Z Z Z G Z)<|wn Z ?_;exact⟨dv,n1+1,dy,acc++([((x%128)+128)%256]),x/128,⟨(by rw[ah,cj];try rfl),G,(UI hT G G G)⟩,G,SA,λ_ h=>h.sel [1] cC Z⟩
 ·refine aR<|wq<|wm Z<|wm Z<|wy (dZ gy az Z)<|wa (bF .u8 [x%256] af zs5 Z Z Z) ?_;rintro _ _⟨mt,rfl,rfl⟩;refine wa (aQ 1 Z af zb5 Z Z Z (rdr 0 Z)) ?_;rintro _ _⟨iz,fj,rfl,rfl⟩;refine bC (v:=sl iz (n1+1) fj) Z<|wn Z<|aU [1] 99 ?_;refine⟨_,Z,?_⟩;have e:acc++[x%256]=aV x0:=by rw[hT,kN G,kz G G]
  have e2:n1+1=(aV x0).length:=by rw[<-e,ah,cj];rfl
  rw[e,e2];exact⟨_,_,Z,Z⟩
theorem FH (hx:0<=x/\x<4294967296):
  CF 38 #[.int .u32 x] w (λv R'=> ∃A c,v=sl A 4 c/\R'=[(ru 5 A 4 c (eG x))]):=by
 refine fn1 Tryz.func38 Z Z Z ?_;refine wq<|wn Z<|wq<|wa (dK af zb5 Z Z) ?_;rintro _ _⟨ap,rfl,rfl⟩;refine bC (v:=sl (GG ap) 4 4) Z<|wn Z<|aD<|wq<|wm Z<|wy (aL af Z)<|wm Z<|aA<|aG<|iZ 5<|dN<|wq ?_;refine wy (Yl.t (eQ Z Z) cC)<|aA<|aD<|dG Z<|aI<|aD<|aG<|wq<|wm Z<|wn Z<|aK<|wm Z<|wm Z ?_;refine wm Z<|wm Z<|wy (Yl.is (jT Z Z) Z)<|wy (BA (k:=0) (m:=1) Z Z Z G Z)<|wy (dZ tq az Z)<|wy (aF af sz5 Z Z (rdr 0 Z))<|bZ (bE 0 Z sz5 Z Z) ?_;rintro _ _ rfl;refine aA<|aK<|wy (Yl.is (bT Z Z) Z)<|wm Z<|aA<|dN<|wq<|wy (Yl.t (eQ Z Z) cC)<|aA<|aD<|dG Z<|aI<|aD<|aG ?_;refine wq<|wm Z<|wn Z<|aK<|wm Z<|wm Z<|wm Z<|wm Z<|wy (Yl.is (jT Z Z) Z)<|wy (BA (k:=8) (m:=256) Z Z Z G Z)<|wy (dZ tq az Z)<|wy (aF af sz5 Z Z (rdr 0 Z))<|bZ (bE 0 Z sz5 Z Z) ?_;rintro _ _ rfl;refine aA<|aK<|wy (Yl.is (bT Z Z) Z)<|wm Z<|aA<|dN<|wq<|wy (Yl.t (eQ Z Z) cC)<|aA<|aD<|dG Z<|aI<|aD<|aG ?_;refine wq<|wm Z<|wn Z<|aK<|wm Z<|wm Z<|wm Z<|wm Z<|wy (Yl.is (jT Z Z) Z)<|wy (BA (k:=16) (m:=65536) Z Z Z G Z)<|wy (dZ tq az Z)<|wy (aF af sz5 Z Z (rdr 0 Z))<|bZ (bE 0 Z sz5 Z Z) ?_;rintro _ _ rfl;refine aA<|aK<|wy (Yl.is (bT Z Z) Z)<|wm Z<|aA<|dN<|wq<|wy (Yl.t (eQ Z Z) cC)<|aA<|aD<|dG Z<|aI<|aD<|aG ?_;refine wq<|wm Z<|wn Z<|aK<|wm Z<|wm Z<|wm Z<|wm Z<|wy (Yl.is (jT Z Z) Z)<|wy (BA (k:=24) (m:=16777216) Z Z Z G Z)<|wy (dZ tq az Z)<|wy (aF af sz5 Z Z (rdr 0 Z))<|bZ (bE 0 Z sz5 Z Z) ?_;rintro _ _ rfl;refine aA<|aK<|wy (Yl.is (bT Z Z) Z)<|wm Z<|aA<|dN<|wq<|wy (Yl.f (eQ Z Z) cC)<|aA<|aD<|aP Z<|aR<|wq ?_;refine wm Z<|wn Z<|aU [0] 99 ?_;exact⟨_,Z,_,_,Z,Z⟩
theorem aOp (hx:0<=x/\x<4294967296):
  CF 90 #[.int .u32 x] w (λv R'=> ∃A c,v=sl A 4 c/\R'=[(ru 5 A 4 c (eG x))]):=by
 refine fn1 Tryz.func90 Z Z Z ?_;refine wq<|wn Z<|wq<|wm Z<|wy (dZ tq az Z)<|wm Z<|wy (BA (k:=8) (m:=256) Z Z Z G Z)<|wy (dZ tq az Z)<|wm Z<|wy (BA (k:=16) (m:=65536) Z Z Z G Z)<|wy (dZ tq az Z)<|wm Z ?_;refine wy (BA (k:=24) (m:=16777216) Z Z Z G Z)<|wy (dZ tq az Z)<|wa (bF .u8 [x%256,(x/256)%256,(x/65536)%256,(x/16777216)%256] af zs5 Z Z Z) ?_;rintro _ _⟨db,rfl,rfl⟩;refine wn Z<|aU [0] 99 ?_;refine⟨_,Z,?_⟩;unfold eG;rw[Int.ediv_one];exact⟨_,_,Z,Z⟩
theorem iH (hv:0<=n/\n<9223372036854775808):
  CF 11 #[I n] w (λv R'=> ∃A c,v=sl A ((aV n).length) c/\R'=[(ru 5 A ((aV n).length) c (aV n))]):=by
 refine fn1 Tryz.func11 Z Z Z ?_;refine wq<|wn Z<|wq<|wm Z<|wy (iM au gy Z)<|wa (aC bSo Z (Ct.fresh (λw hw=>bDp G))) ?_;rintro _ _⟨_,rfl,cm,ci,rfl,rfl⟩;refine wn Z<|aU [0] 99 ?_;exact⟨_,Z,_,_,Z,Z⟩
theorem iE (hv:0<=n/\n<9223372036854775808):
  CF 17 #[I n] w (λv R'=> ∃A c,v=sl A ((aV n).length) c/\R'=[(ru 5 A ((aV n).length) c (aV n))]):=by
 refine fn1 Tryz.func17 Z Z Z ?_;refine wq<|wn Z<|wq<|wm Z<|wy (iM au gy Z)<|wa (aC bSm Z (Ct.fresh (λw hw=>aUf G))) ?_;rintro _ _⟨_,rfl,cm,ci,rfl,rfl⟩;refine wn Z<|aU [0] 99 ?_;exact⟨_,Z,_,_,Z,Z⟩
end
theorem xD {w:World} {an:AF} {ba am:Nat} {u:AH} {i:Int} (ac:Rd w an ba am 1 (ints .u8 u)) (hi:0<=i/\i<=u.length) (hN:u.length<=1000000):
  CF 57 #[sl an ba am,I i] w (λv R'=> ∃A c,v=sl A (u.drop i.toNat++u.take i.toNat).length c/\R'=[(ru 5 A ((u.drop i.toNat++u.take i.toNat).length) c (u.drop i.toNat++u.take i.toNat))]):=by
 obtain rfl:=ac.lenI;refine fn1 Tryz.func57 Z Z Z ?_;have ia:=ac.max;refine wq<|wn Z<|aD<|bD mixed<|wD 1 Z (aJ Z)<|wD 2 Z (aJ Z)<|wD 3 Z (dH af sz5 Z Z)<|wD 5 Z (aJ Z)<|wD 6 Z (aJ Z)<|wD 7 Z (eD af sz5 Z Z (ac.c _))<|wC 0 Z (bF .u8 [] af zs5 Z Z Z) ?_;rintro _ _⟨db,rfl,rfl⟩;refine⟨.inr hrZ,?_⟩;refine wC 4 Z (aQ 0 Z af zb5 Z Z Z (RdC.fromI (ac.c _) G)) ?_;rintro _ _⟨dv,dy,rfl,rfl⟩;refine⟨.inl cA,?_⟩;refine fM (v:=sl dv (0+(u.length-(i).toNat)) dy) Z<|wC 8 Z (aQ 0 Z af zb5 Z Z Z (RdC.toI (ac.c _) G)) ?_;rintro _ _⟨gv,jn,rfl,rfl⟩;refine⟨.inl cA,?_⟩;refine fM (v:=sl gv ((0+(u.length-(i).toNat))+((i).toNat)) jn) Z<|wD 9 Z (aW Z)<|wN<|aU [0] 99 ?_;refine⟨_,Z,?_⟩;have e:(0+(u.length-i.toNat)+i.toNat)=(u.drop i.toNat++u.take i.toNat).length:=by rw[ah,bn,ax];omega
 simp only[iv,e];exact⟨_,_,Z,Z⟩
section
variable {u:AH} {w:World} {ws:AD}
theorem LA.init0:LA u (jD u u.length) 0 1 0:=LA.init _
theorem bLp {an:AF} {ba am:Nat} (ac:Rd w an ba am 1 (ints .u8 u)) (hN:u.length<=1000000):
  CF 114 #[sl an ba am] w (λv R'=>v=I (oL u)):=by
 obtain rfl:=ac.lenI;refine fn1 Tryz.func114 Z Z Z ?_;have ia:=ac.max;refine wq<|wn Z<|wq<|wm Z<|wy (aL af Z)<|wn Z<|wq<|wg Z<|wg Z<|wg Z ?_;refine aA<|aD<|aG ?_;refine fZ (λ(i:Int) (j:Int) (k:Int)=>[(0,sl an u.length am),(3,I (u.length:Int)),(4,I i),(5,I j),(6,I k)]) (λi j k=>[]) (λi j k=>(LA u (jD u u.length) i j k)/\(i<=2*u.length+2)/\(j<=2*u.length+3)/\(k<=u.length)/\(u.length=0->i=0/\j=1)) (λi j k=>(3*u.length+3-(i+j+k)).toNat) ?_ ?_
 ·exact⟨0,1,0,⟨(LA.init0),G,G,G,G⟩,KP⟩
 intro i j k ⟨Lj,Is,hjb,hkb,hz⟩;have aw:=Lj.i0;have tj:=Lj.j0;have iu:=Lj.k0;refine aD<|wq<|wm Z<|wm Z<|wL Z Z<|wm Z<|bR 4 [(0,sl an u.length am),(3,I (u.length:Int)),(4,I i),(5,I j),(6,I k),(18, .bool (decide ((i<(u.length:Int))/\(j<(u.length:Int)))))] [] ?_ ?_
 ·refine bJ 14 Z (λar=> ?_) (λar=> ?_)
  ·refine aB Z Z<|wm Z<|aB Z Z<|wm Z<|aB Z Z<|wL Z Z<|wy (aS Z Z)<|aA ?_;exact KP
  ·refine aM Z Z Z Z<|aM Z Z Z Z<|aM Z Z Z Z<|wy (aN Z Z)<|aA ?_;exact KP
 refine wm Z<|bR 4 [(0,sl an u.length am),(3,I (u.length:Int)),(4,I i),(5,I j),(6,I k),(23, .bool (decide (((i<(u.length:Int))/\(j<(u.length:Int)))/\(k<(u.length:Int)))))] [] ?_ ?_
 ·refine bJ 19 Z (λbx=> ?_) (λbx=> ?_)
  ·refine aB Z Z<|wm Z<|aB Z Z<|wm Z<|aB Z Z<|wL Z Z<|wy (aS Z Z)<|aA ?_;exact KP
  ·refine aM Z Z Z Z<|aM Z Z Z Z<|aM Z Z Z Z<|wy (aN Z Z)<|aA ?_;exact KP
 refine aA<|aX Z (λef=> ?_) (λef=> ?_)
 ·have mu:=jv (i+k) (show(u.length:Int)≠0 by omega);have Tk:=jf (i+k) (show(0:Int)<u.length by omega);have hm3:=jv (j+k) (show(u.length:Int)≠0 by omega);have hm4:=jf (j+k) (show(0:Int)<u.length by omega);have fl:=zP (s:=u) G;have ei:=aUj (s:=u) Lj.i0 Lj.k0;have ej:=aUj (s:=u) Lj.j0 Lj.k0;refine aI<|aG<|aD<|bD mixed<|wD 0 Z (aJ Z)<|wD 1 Z (aJ Z)<|wD 2 Z (aJ Z)<|wD 3 Z (bT Z Z)<|wD 4 Z (aJ Z)<|wD 5 Z (tC Z Z)<|wD 6 Z (aF af sz5 Z Z (ac.c _))<|wD 7 Z (aT az Z Z (ac.c _))<|wD 8 Z (aJ Z)<|wD 9 Z (aJ Z)<|wD 10 Z (aJ Z) ?_;refine wD 11 Z (bT Z Z)<|wD 12 Z (aJ Z)<|wD 13 Z (tC Z Z)<|wD 14 Z (aF af sz5 Z Z (ac.c _))<|wD 15 Z (aT az Z Z (ac.c _))<|wD 16 Z (aW Z)<|wD 17 Z (aW Z)<|wN<|aD<|aG<|wq<|wm Z<|wm Z<|wy (eT Z Z) ?_;refine wn Z<|aX Z (λfm=> ?_) (λfm=> ?_)
  ·have gd:=Lj.eq (by rw[<-ei,<-ej];exact fm);refine wq<|wm Z<|wA Z Z<|wn Z<|aR ?_;exact⟨i,j,k+1,⟨(gd),G,G,G,G⟩,G,KP⟩
  ·refine wq<|wm Z<|wm Z<|wy (bW Z Z)<|wn Z<|aX Z (λjt=> ?_) (λjt=> ?_)
   ·have gd:=Lj.gt fl (by rw[<-ei,<-ej];exact jt);refine aK<|wm Z<|wm Z<|wA Z Z<|wA Z Z<|wn Z<|wq<|wn Z<|wq<|wm Z<|wm Z ?_;refine wy (eT Z Z)<|aA<|aX Z (λwi=> ?_) (λwi=> ?_)
    ·refine aK<|wm Z<|wA Z Z<|wn Z ?_;exact⟨i+(k+1),j+1,0,⟨(gd.2 G),G,G,G,G⟩,G,KP⟩
    ·refine aI ?_;exact⟨i+(k+1),j,0,⟨(gd.1 G),G,G,G,G⟩,G,KP⟩
   ·have gd:=Lj.lt fl (by rw[<-ei,<-ej];omega);refine aK<|wm Z<|wm Z<|wA Z Z<|wA Z Z<|wn Z<|wq<|wn Z<|wq<|wm Z<|wm Z ?_;refine wy (eT Z Z)<|aA<|aX Z (λEk=> ?_) (λEk=> ?_)
    ·refine aK<|wm Z<|wA Z Z<|wn Z ?_;exact⟨i,(j+(k+1))+1,0,⟨(gd.2 G),G,G,G,G⟩,G,KP⟩
    ·refine aI ?_;exact⟨i,j+(k+1),0,⟨(gd.1 G),G,G,G,G⟩,G,KP⟩
 ·refine aR<|wq<|wm Z<|wm Z<|wy (rV Z Z)<|wn Z<|bK ?_;refine⟨_,Z,?_⟩;rcases fo u.length with z|z
  ·obtain ⟨rfl,rfl⟩:=hz z;have e:oL u=0:=by unfold oL;rw[z];rfl
   rw[e];rfl
  ·exact bq (Value.int .i64) (Lj.done (zP z) G)
theorem aYf {m:Int} (h0:0<=m) (hN:m<=1000000):
  CF 32 #[sl none 0 0,I m] w (λv R'=> ∃A c,v=sl A 0 c/\R'=[(ru 5 A 0 c ([]))]):=by
 refine fn1 Tryz.func32 Z Z Z ?_;refine wq<|eZ (ru 5 none 0 0 ([]))<|wn Z<|aD<|wq<|wm Z<|wy (Yl.f (eQ Z Z))<|aA<|aP Z<|aI<|aD<|aD ?_;refine aK<|wm Z<|wm Z<|wy (bHd af Z)<|wm Z<|wy (aL af Z)<|wS Z Z<|wS Z Z<|wn Z<|wq<|wm Z<|wy (bW Z Z)<|aA ?_;refine aX Z (λar=> ?_) (λar=> ?_)
 ·refine aK<|wm Z<|wm Z<|wy (bHd af Z)<|wy (ZA af sz5 Z Z)<|wy (Yl.is (aJ Z) (by rw[show m-(((0:Nat):Int)-((0:Nat):Int))=(m.toNat:Int) by omega])) ?_;refine wa (bGq af au zb5 Z Z Z G G G) ?_;rintro _ _⟨ap,ci,rfl,rfl⟩;refine iU (R1:=[(ru 5 (GG ap) 0 ci ([])),(ru 5 none 0 0 ([]))]) (Sub.refl _) (λ_ h=>h.cut (k:=0) (oz _) cD) ?_;refine wm Z<|wy (aL af Z)<|wy (ZA af sz5 Z Z)<|wn Z<|wq<|wm Z<|wn Z<|aU [0] 99 ?_;exact⟨_,Z,_,_,Z,Z⟩
 ·refine aI<|wq<|wm Z<|wn Z<|aU [0] 99 ?_;exact⟨_,Z,_,_,Z,Z⟩
theorem FI (i:Nat):((ws.take i).flatten).length<=ws.flatten.length:=by
 conv=>rhs;rw[<-gz i ws]
 rw[mh,ah];omega
theorem iR {bc:AF} {bw bl:Nat} {ao:AG} (aq:Rd w bc bw bl 1 ao) (bm:SlW .u8 w ao ws) (hN:ws.flatten.length<=1000000/\ws.length<=1000000):
  CF 12 #[sl bc bw bl] w (λv R'=> ∃A c,v=sl A (ws.flatten).length c/\R'=[(ru 5 A ((ws.flatten).length) c (ws.flatten))]):=by
 obtain rfl:bw=ws.length:=by have:=aq.len;have:=bm.1;omega
 refine fn1 Tryz.func12 Z Z Z ?_;have km:=aq.max;refine wq<|wn Z<|wq<|wn Z<|aD<|wq<|wm Z<|wy (aL ay Z)<|wm Z<|aA ?_;refine aG ?_;refine dI (λ(i:Int) (z:Int)=>[(0,sl bc ws.length bl),(3,I z),(9,sl bc ws.length bl),(10,I (ws.length:Int)),(11,I i)]) (λi z=>[]) (λi z=>(0<=i)/\(i<=ws.length)/\(z=((ws.take i.toNat).flatten.length:Int))) (λi z=>(ws.length-i).toNat) ?_ ?_
 ·exact⟨0,0,⟨G,G,(Z)⟩,KP⟩
 intro i z ⟨aw,ff,hz⟩;have th:=FI (ws:=ws) i.toNat;refine wq<|wL Z Z<|aA<|aD<|aX Z (λar=> ?_) (λar=> ?_)
 ·have Rr:=FI (ws:=ws) (i+1).toNat;rw[fC aw G,ah] at Rr;refine aI<|aD<|aG<|wq<|wy (aF ay cZ Z Z (aq.c _)) ?_;refine bm.elim (i:=i) G G (λcm ci pr tx xv ub=> ?_);refine wy (kH af Z Z Z (aq.c _) pr)<|wn Z<|wq<|wm Z<|wm Z<|wy (aL af Z)<|wA Z Z<|wn Z<|wq<|wm Z<|wy (Yl.f (eQ Z Z)) ?_;refine aA<|aP Z<|aI<|aK<|wA Z Z<|wm Z<|aA ?_;exact⟨i+1,z+(((rdl ws i).length:Nat):Int),⟨G,G,(by rw[fC aw G,ah,hz];omega)⟩,G,KP⟩
 ·refine aR<|wq<|wm Z<|wa (aC bSn Z (Ct.fresh (λw hw=>aYf G G))) ?_;rintro _ _⟨_,rfl,go,jj,rfl,rfl⟩;refine wn Z<|aD<|wq<|wm Z<|wy (aL ay Z)<|wm Z<|aA<|aG ?_;refine fE (λ(q:Int) (A1:AF) (n1:Nat) (c1:Nat) (acc:AH)=>[(6,sl A1 n1 c1),(25,sl bc ws.length bl),(26,I (ws.length:Int)),(27,I q)]) (λq A1 n1 c1 acc=>[(ru 5 A1 n1 c1 acc)]) (λq A1 n1 c1 acc=>(0<=q)/\(q<=ws.length)/\(n1=acc.length)/\(acc=(ws.take q.toNat).flatten)) (λq A1 n1 c1 acc=>(ws.length-q).toNat) ?_ ?_
  ·exact⟨0,go,0,jj,[],⟨G,G,(Z),(Z)⟩,KP⟩
  intro q A1 n1 c1 acc ⟨ij,yi,cj,bb⟩;have mw:acc.length<=ws.flatten.length:=by rw[bb];exact FI _
  refine wq<|wL Z Z<|aA<|aD<|aX Z (λbx=> ?_) (λbx=> ?_)
  ·have Rr:=FI (ws:=ws) (q+1).toNat;rw[fC ij G,ah] at Rr;refine aI<|aD<|aG<|wq<|wy (aF ay cZ Z Z (aq.c _)) ?_;refine bm.elim (i:=q) G G (λvq vu Xs Wz hb_12 mhr_11=> ?_);refine wy (kH af Z Z Z (aq.c _) Xs)<|wn Z<|aK<|wm Z<|wm Z<|wa (aQ 0 Z af zb5 Z Z Z (Wz.c _)) ?_;rintro _ _⟨fc,fd,rfl,rfl⟩;refine bC (v:=sl fc (n1+((rdl ws q).length)) fd) Z<|wn Z<|aK<|wA Z Z<|wm Z<|aA ?_;exact⟨q+1,fc,n1+((rdl ws q).length),fd,acc++(rdl ws q),⟨G,G,(by rw[ah,cj]),(by rw[fC ij G,bb])⟩,G,KP⟩
  ·refine aR<|wq<|wm Z<|wn Z<|aU [0] 99 ?_;refine⟨_,Z,?_⟩;rw[bg G] at bb;subst bb;obtain rfl:=cj;exact⟨_,_,Z,Z⟩
end
section
variable {w:World} {x:Int} {an pe:AF} {ba am se pj:Nat} {u t:AH}
theorem UZ:
  CF 118 #[I x] w (λv R'=>v=bf):=by
 refine fn1 Jz Z Z Z ?_;refine wq<|wn Z<|wq<|wm Z<|wm Z<|wy (Yl.f (fQ Z Z))<|wn Z<|bK ?_;refine⟨_,Z,?_⟩;rfl
theorem qK {y:Int}:
  CF 68 #[I x,I y] w (λv R'=>v=I (iW x y)):=by
 refine fn1 Tryz.func68 Z Z Z ?_;refine wq<|wn Z<|wq<|wm Z<|wa (aC bIl Z (Ct.quiet (λw hw=>UZ))) ?_;rintro _ _⟨rfl,rfl⟩;refine wn Z<|wq<|wm Z<|wa (aC bIl Z (Ct.quiet (λw hw=>UZ))) ?_;rintro _ _⟨rfl,rfl⟩;refine wn Z<|aD<|wq<|wm Z<|aA<|aP Z<|aI<|aD<|wq<|wm Z<|aA<|aP Z ?_;refine aI<|aD<|wq<|wm Z<|wm Z<|wL Z Z<|aA<|aX Z (λar=> ?_) (λar=> ?_)
 ·refine wq<|wn Z<|bK ?_;refine⟨_,Z,?_⟩;exact bq (Value.int .i64) (by unfold iW;rw[dm G])
 ·refine aI<|aD<|wq<|wm Z<|wm Z<|wy (bW Z Z)<|aA<|aX Z (λbx=> ?_) (λbx=> ?_)
  ·refine wq<|wn Z<|bK ?_;refine⟨_,Z,?_⟩;exact bq (Value.int .i64) (by unfold iW;rw[df G,dm G])
  ·refine aI<|wq<|wn Z<|bK ?_;refine⟨_,Z,?_⟩;exact bq (Value.int .i64) (by unfold iW;rw[df G,df G])
theorem yY (ac:Rd w an ba am 1 (ints .u8 u)) (sd:Rd w pe se pj 1 (ints .u8 t)):
  CF 60 #[sl an ba am,sl pe se pj] w (λv R'=>v=I (cmpL u t)):=by
 obtain rfl:=ac.lenI;obtain rfl:=sd.lenI;refine fn1 Tryz.func60 Z Z Z ?_;have ia:=ac.max;have Yc:=sd.max;refine wq<|wn Z<|aD<|wq<|wn Z<|aG ?_;refine fG (λ(i:Int)=>[(0,sl an u.length am),(1,sl pe t.length pj),(5,I i)]) (λi=>[]) (λi=>(0<=i)/\(i<=u.length)/\(i<=t.length)/\(cmpL u t=cmpL (u.drop i.toNat) (t.drop i.toNat))) (λi=>(u.length-i).toNat) ?_ ?_
 ·exact⟨0,⟨G,G,G,cD⟩,KP⟩
 intro i ⟨aw,Rz,hit,hc⟩;refine aD<|wq<|wm Z<|wm Z<|wy (aL af Z)<|wL Z Z<|wm Z<|bR 5 [(0,sl an u.length am),(1,sl pe t.length pj),(5,I i),(15, .bool (decide ((i<(u.length:Int))/\(i<(t.length:Int)))))] [] ?_ ?_
 ·refine bJ 10 Z (λar=> ?_) (λar=> ?_)
  ·refine aB Z Z<|wm Z<|aB Z Z<|wm Z<|aB Z Z<|wy (aL af Z)<|aB Z Z<|wL Z Z<|wy (aS Z Z)<|aA ?_;exact KP
  ·refine aM Z Z Z Z<|aM Z Z Z Z<|aM Z Z Z Z<|aM Z Z Z Z<|wy (aN Z Z)<|aA ?_;exact KP
 refine aA<|aX Z (λbx=> ?_) (λbx=> ?_)
 ·refine aI<|aD<|aG<|aD<|bD mixed<|wD 0 Z (aJ Z)<|wD 1 Z (aJ Z)<|wD 2 Z (aF af sz5 Z Z (ac.c _))<|wD 3 Z (aT az Z Z (ac.c _))<|wD 4 Z (aJ Z)<|wD 5 Z (aJ Z)<|wD 6 Z (aF af sz5 Z Z (sd.c _))<|wD 7 Z (aT az Z Z (sd.c _))<|wD 8 Z (fQ Z Z)<|wN ?_;refine aX Z (λef=> ?_) (λef=> ?_)
  ·refine aD<|aD<|bD mixed<|wD 0 Z (aJ Z)<|wD 1 Z (aJ Z)<|wD 2 Z (aF af sz5 Z Z (ac.c _))<|wD 3 Z (aT az Z Z (ac.c _))<|wD 4 Z (aJ Z)<|wD 5 Z (aJ Z)<|wD 6 Z (aF af sz5 Z Z (sd.c _))<|wD 7 Z (aT az Z Z (sd.c _))<|wD 8 Z (eQ Z Z)<|wN<|aX Z (λfm=> ?_) (λfm=> ?_)
   ·refine wq<|wn Z<|bK ?_;refine⟨_,Z,?_⟩;exact bq (Value.int .i64) (by rw[hc,rR aw G G,dm G])
   ·refine aI<|wq<|wn Z<|bK ?_;refine⟨_,Z,?_⟩;exact bq (Value.int .i64) (by rw[hc,rR aw G G,df G,dm G])
  ·refine aI<|aK<|wm Z<|wA Z Z<|wn Z ?_;exact⟨i+1,⟨G,G,G,(by rw[hc,rR aw G G,df G,df G])⟩,G,KP⟩
 ·refine aR<|aD<|aG<|wq<|wm Z<|wy (aL af Z)<|wm Z<|wy (aL af Z)<|wL Z Z<|wn Z<|aX Z (λjt=> ?_) (λjt=> ?_)
  ·refine wq<|wn Z<|bK ?_;refine⟨_,Z,?_⟩;exact bq (Value.int .i64) (by rw[hc,uX aw Rz hit G,dm G])
  ·refine wq<|wm Z<|wy (aL af Z)<|wm Z<|wy (aL af Z)<|wy (bW Z Z)<|wn Z<|aX Z (λwi=> ?_) (λwi=> ?_)
   ·refine wq<|wn Z<|bK ?_;refine⟨_,Z,?_⟩;exact bq (Value.int .i64) (by rw[hc,uX aw Rz hit G,df G,dm G])
   ·refine aI<|wq<|wn Z<|bK ?_;refine⟨_,Z,?_⟩;exact bq (Value.int .i64) (by rw[hc,uX aw Rz hit G,df G,df G])
theorem YG (ac:Rd w an ba am 1 (ints .u8 u)) (sd:Rd w pe se pj 1 (ints .u8 t)) (Tj:u.length<=1000000) (br:t.length<=1000000):
  CF 187 #[sl an ba am,sl pe se pj] w (λv R'=>v=I (QR u t)):=by
 obtain rfl:=ac.lenI;obtain rfl:=sd.lenI;refine fn1 Tryz.func187 Z Z Z ?_;have ia:=ac.max;have Yc:=sd.max;refine wq<|wn Z<|aD<|wq<|wm Z<|wy (aL af Z)<|wy (eT Z Z)<|wm Z<|bR 4 [(0,sl an u.length am),(1,sl pe t.length pj),(15, .bool (decide (((u.length:Int)=0)\/((t.length:Int)=0))))] [] ?_ ?_
 ·refine bJ 11 Z (λar=> ?_) (λar=> ?_)
  ·refine aM Z Z Z Z<|aM Z Z Z Z<|aM Z Z Z Z<|wy (aS Z Z)<|aA ?_;exact KP
  ·refine aB Z Z<|wm Z<|aB Z Z<|wy (aL af Z)<|aB Z Z<|wy (eT Z Z)<|wy (aN Z Z)<|aA ?_;exact KP
 refine aA<|aX Z (λbx=> ?_) (λbx=> ?_)
 ·refine aD<|bD mixed<|wD 0 Z (aJ Z)<|wD 1 Z (aJ Z)<|wD 2 Z (aL af Z)<|wD 3 Z (rV Z Z)<|wD 4 Z (eD af sz5 Z Z (ac.c _) (by first|omega|exact jv _ G|exact jf _ G) (by first|omega|exact jv _ G|exact jf _ G)) ?_;refine wD 5 Z (aJ Z)<|wD 6 Z (aJ Z)<|wD 7 Z (aL af Z)<|wD 8 Z (rV Z Z)<|wD 9 Z (eD af sz5 Z Z (sd.c _) (by first|omega|exact jv _ G|exact jf _ G) (by first|omega|exact jv _ G|exact jf _ G)) ?_;refine wC 10 Z (aC bFn Z (Ct.quiet (λw hw=>yY ((RdC.toI (ac.c _) G) w hw) ((RdC.toI (sd.c _) G) w hw)))) ?_;rintro _ _⟨rfl,rfl⟩;refine⟨.inr hiZ,?_⟩;refine wD 11 Z (aW Z)<|wN<|bK ?_;refine⟨_,Z,?_⟩;exact bq (Value.int .i64) (by rw[aIf u t G];unfold QR;rw[dm G])
 ·refine aI<|aD<|wq<|wn Z<|aG ?_;refine fG (λ(k:Int)=>[(0,sl an u.length am),(1,sl pe t.length pj),(5,I k)]) (λk=>[]) (λk=>(0<=k)/\(k<=u.length+t.length)/\(QR u t=QQ u t ((u.length:Int)+t.length-k).toNat k)) (λk=>((u.length:Int)+t.length-k).toNat) ?_ ?_
  ·exact⟨0,⟨G,G,(by unfold QR;rw[df G];congr 1<;>omega)⟩,KP⟩
  intro k ⟨iu,vd,hO⟩;refine aD<|wq<|wm Z<|wm Z<|wy (aL af Z)<|wm Z<|wy (aL af Z)<|wy (bT Z Z (by first|omega|exact jv _ G|exact jf _ G)) ?_;refine wL Z Z<|aA<|aX Z (λef=> ?_) (λef=> ?_)
  ·refine aI<|aD<|aG<|aD<|bD mixed<|wD 0 Z (aJ Z)<|wD 1 Z (aJ Z)<|wD 2 Z (aJ Z)<|wD 3 Z (aL af Z)<|wD 4 Z (tC Z Z (by first|omega|exact jv _ G|exact jf _ G) (by first|omega|exact jv _ G|exact jf _ G)) ?_;refine wD 5 Z (aF af sz5 Z Z (ac.c _) (by first|omega|exact jv _ G|exact jf _ G) (by first|omega|exact jv _ G|exact jf _ G)) ?_;refine wD 6 Z (aT az Z Z (ac.c _) (by first|omega|exact jv _ G|exact jf _ G) (by first|omega|exact jv _ G|exact jf _ G)) ?_;refine wD 7 Z (aJ Z)<|wD 8 Z (aJ Z)<|wD 9 Z (aJ Z)<|wD 10 Z (aL af Z)<|wD 11 Z (tC Z Z (by first|omega|exact jv _ G|exact jf _ G) (by first|omega|exact jv _ G|exact jf _ G)) ?_;refine wD 12 Z (aF af sz5 Z Z (sd.c _) (by first|omega|exact jv _ G|exact jf _ G) (by first|omega|exact jv _ G|exact jf _ G)) ?_;refine wD 13 Z (aT az Z Z (sd.c _) (by first|omega|exact jv _ G|exact jf _ G) (by first|omega|exact jv _ G|exact jf _ G)) ?_;refine wD 14 Z (aW Z)<|wD 15 Z (aW Z)<|wN<|aD<|wq<|wm Z<|wm Z<|wL Z Z<|aA<|aX Z (λfm=> ?_) (λfm=> ?_)
   ·refine wq<|wn Z<|bK ?_;refine⟨_,Z,?_⟩;exact bq (Value.int .i64) (by rw[hO,QP G (by unfold iW;rw[dm G];decide)];unfold iW;rw[dm G])
   ·refine aI<|wq<|wm Z<|wm Z<|wy (bW Z Z)<|aA<|aX Z (λjt=> ?_) (λjt=> ?_)
    ·refine wq<|wn Z<|bK ?_;refine⟨_,Z,?_⟩;exact bq (Value.int .i64) (by rw[hO,QP G (by unfold iW;rw[df G,dm G];decide)];unfold iW;rw[df G,dm G])
    ·refine aI<|aK<|wm Z<|wy (bT Z Z (by first|omega|exact jv _ G|exact jf _ G)) ?_;refine wn Z ?_;exact⟨k+1,⟨G,G,(by rw[hO,bFy G (by unfold iW;rw[df G,df G])];congr 1<;>omega)⟩,G,KP⟩
  ·refine aR<|wq<|wn Z<|bK ?_;refine⟨_,Z,?_⟩;exact bq (Value.int .i64) (by rw[hO,show((u.length:Int)+t.length-k).toNat=0 by omega];rfl)
end
section
variable {u:AH} {i k:Int} {w:World} {an:AF} {ba am:Nat}
theorem PS (s:AH): ∀n:Nat,0<n->jD s n<n
 | 1,_=>by
  have e:jD s 1=0:=by
   rw[jD,jD];split<;>rfl
  omega
 |n+2,_=>by
  have ih:=PS s (n+1) G;rw[jD];split<;>omega
theorem aPm (i1:1<=i) (hk:k=jD u i.toNat) (h:cmpL (lH u i) (lH u k)<0):i=jD u (i+1).toNat:=by
 rw[show(i+1).toNat=i.toNat+1 by omega,jD,dm (by rw[<-hk,mg G];exact h)];omega
theorem aXb (i1:1<=i) (hk:k=jD u i.toNat) (h: ¬cmpL (lH u i) (lH u k)<0):k=jD u (i+1).toNat:=by
 rw[show(i+1).toNat=i.toNat+1 by omega,jD,df (by rw[<-hk,mg G];exact h),hk]
theorem bKd (ac:Rd w an ba am 1 (ints .u8 u)) (al:aO u) (hN:u.length<=1000000):
  CF 63 #[sl an ba am] w (λv R'=> ∃A c,v=sl A (lw u).length c/\R'=[(ru 5 A ((lw u).length) c (lw u))]):=by
 obtain rfl:=ac.lenI;refine fn1 Tryz.func63 Z Z Z ?_;have ia:=ac.max;have Mf:=XM u;have hfe:([u.drop (oL u).toNat,u.take (oL u).toNat]:AD).flatten=lw u:=by simp[lw,lH]
 have hlw:=kQ u;refine wq<|wn Z<|wq<|wm Z<|wa (aC bQc Z (Ct.quiet (λw hw=>bLp ((ac.c _) w hw) cE))) ?_;rintro _ _⟨rfl,rfl⟩;refine wn Z<|aD<|bD mixed<|wD 0 Z (aJ Z)<|wD 1 Z (aJ Z)<|wD 2 Z (dH af sz5 Z Z)<|wD 3 Z (aJ Z)<|wD 4 Z (aJ Z)<|wD 5 Z (eD af sz5 Z Z (ac.c _)) ?_;have w7:SlW .u8 w [sl (jO an (oL u).toNat am 1) (u.length-(oL u).toNat) (am-(oL u).toNat),sl an ((oL u).toNat) am] [u.drop (oL u).toNat,u.take (oL u).toNat]:=((fA _ _).snoc (ac.fromI (l:=(oL u).toNat) G) (λx hx=>dV (al x (nu hx))) (by rw[bn];omega)).snoc (ac.toI G) (λx hx=>dV (al x (ll hx))) (by rw[ax];omega);refine wC 6 Z (iK [Value.slice (jO an (oL u).toNat am 1) (u.length-(oL u).toNat) (am-(oL u).toNat),Value.slice an ((oL u).toNat) am] ay mW Z Z Z Z) ?_;rintro _ _⟨db,rfl,rfl⟩;refine⟨.inr hrZ,?_⟩;refine wC 7 Z (aC zY Z (Ct.fresh (λw hw=>iR ((rdr 0 Z) w hw) (w7.c hw) (by rw[hfe];exact⟨G,cD⟩)))) ?_;rintro _ _⟨_,rfl,dv,dy,rfl,rfl⟩;refine⟨.inr hrZ,?_⟩;refine wD 8 Z (aW Z)<|wN<|aU [0] 99 ?_;refine⟨_,Z,?_⟩;rw[hfe];exact⟨_,_,Z,Z⟩
theorem rT (ac:Rd w an ba am 1 (ints .u8 u)) (hN:u.length<=1000000):
  CF 52 #[sl an ba am] w (λv R'=> ∃A c,v=sl A (u).length c/\R'=[(ru 5 A ((u).length) c (u))]):=by
 obtain rfl:=ac.lenI;refine fn1 Tryz.func52 Z Z Z ?_;have ia:=ac.max;refine wq<|eZ (ru 5 none 0 0 ([]))<|wn Z<|aD<|wq<|wm Z<|wy (aJn af Z Z)<|aA<|MS Z (λar=> ?_) (λar=> ?_)
 ·refine wq<|wn Z<|aU [0] 99 ?_;refine⟨_,Z,?_⟩;obtain rfl:=aOt ac ar;exact⟨_,_,Z,Z⟩
 ·refine aI<|wq<|wa (bF .u8 [] af zs5 Z Z Z) ?_;rintro _ _⟨db,rfl,rfl⟩;refine wm Z<|wa (aQ 0 Z af zb5 Z Z Z (ac.c _)) ?_;rintro _ _⟨dv,dy,rfl,rfl⟩;refine bC (v:=sl dv (0+u.length) dy) Z<|wn Z<|aU [0] 99 ?_;refine⟨_,Z,?_⟩;simp only[iv,ny];exact⟨_,_,Z,Z⟩
theorem FU {pe:AF} {se pj:Nat} {t:AH} (ac:Rd w an ba am 1 (ints .u8 u)) (sd:Rd w pe se pj 1 (ints .u8 t)) (al:aO u) (Ld:aO t):
  CF 67 #[sl an ba am,sl pe se pj] w (λv R'=>v=I (cmpL u t)):=by
 obtain rfl:=ac.lenI;obtain rfl:=sd.lenI;refine fn1 Tryz.func67 Z Z Z ?_;have ia:=ac.max;have Yc:=sd.max;refine wq<|wn Z<|wq<|wm Z<|wm Z<|wa (bQr Tryz.func117 cA cA cA cA Z Z (ac.c _) (sd.c _) al Ld) ?_;rintro _ _⟨rfl,rfl⟩;refine wn Z<|bK ?_;refine⟨_,Z,?_⟩;rfl
theorem aNh (ac:Rd w an ba am 1 (ints .u8 u)) (hi:0<=i/\i<u.length) (hk:0<=k/\k<u.length) (hN:u.length<=1000000):
  CF 111 #[sl an ba am,I i,I k] w (λv R'=>v=I (cmpL (lH u i) (lH u k))):=by
 obtain rfl:=ac.lenI;refine fn1 Tryz.func111 Z Z Z ?_;have ia:=ac.max;refine wq<|wn Z<|aD<|wq<|wm Z<|wy (Yl.f (eQ Z Z))<|wm Z<|aB Z Z<|wm Z<|aB Z Z<|wm Z<|aB Z Z ?_;refine wy (aL af Z)<|aB Z Z<|wy (Yl.f (iL Z Z))<|wy (aN Z Z)<|wm Z<|aB Z Z<|wm Z<|aB Z Z<|wy (Yl.f (eQ Z Z))<|wy (aN Z Z)<|wm Z<|aB Z Z<|wm Z<|aB Z Z<|wm Z ?_;refine aB Z Z<|wy (aL af Z)<|aB Z Z<|wy (Yl.f (iL Z Z))<|wy (aN Z Z)<|aA<|aP Z<|aI<|wq<|wm Z<|wm Z<|wa (aC aZa Z (Ct.fresh (λw hw=>xD ((ac.c _) w hw) ⟨hi.1,G⟩ cE))) ?_;rintro _ _⟨_,rfl,cm,ci,rfl,rfl⟩;refine wm Z<|wm Z<|wa (aC aZa Z (Ct.fresh (λw hw=>xD ((ac.c _) w hw) ⟨hk.1,G⟩ cE))) ?_;rintro _ _⟨_,rfl,kt,lj,rfl,rfl⟩;refine wa (aC bFn Z (Ct.quiet (λw hw=>yY ((rdr 1 Z) w hw) ((rdr 0 Z) w hw)))) ?_;rintro _ _⟨rfl,rfl⟩;refine wn Z<|aU [] 99 ?_;refine⟨_,Z,?_⟩;rfl
theorem bGn (ac:Rd w an ba am 1 (ints .u8 u)) (hN:u.length<=1000000):
  CF 58 #[sl an ba am] w (λv R'=>v=I (oL u)):=by
 obtain rfl:=ac.lenI;refine fn1 Tryz.func58 Z Z Z ?_;have ia:=ac.max;refine wq<|wn Z<|wq<|wn Z<|aD<|wq<|wn Z<|aG ?_;refine dI (λ(i:Int) (k:Int)=>[(0,sl an u.length am),(3,I k),(4,I i)]) (λi k=>[]) (λi k=>(1<=i)/\(i<=u.length\/i=1)/\(k=jD u i.toNat)) (λi k=>(u.length-i).toNat) ?_ ?_
 ·exact⟨1,0,⟨G,G,(by have:=PS u 1 cC;show(0:Int)=((jD u 1:Nat):Int);omega)⟩,KP⟩
 intro i k ⟨ff,Ou,hk⟩;have Qf:=PS u i.toNat G;refine aD<|wq<|wm Z<|wm Z<|wy (aL af Z)<|wL Z Z<|aA<|aX Z (λar=> ?_) (λar=> ?_)
 ·refine aI<|aD<|aG<|wq<|wm Z<|wm Z<|wm Z<|wa (aC bQf Z (Ct.quiet (λw hw=>aNh ((ac.c _) w hw) cE cE cE))) ?_;rintro _ _⟨rfl,rfl⟩;refine wL Z Z<|aA<|aX Z (λbx=> ?_) (λbx=> ?_)
  ·refine aK<|wm Z<|wn Z<|aK<|wm Z<|wA Z Z<|wn Z ?_;exact⟨i+1,i,⟨G,G,(aPm ff hk cF)⟩,G,KP⟩
  ·refine aI<|aK<|wm Z<|wA Z Z<|wn Z ?_;exact⟨i+1,k,⟨G,G,(aXb ff hk cF)⟩,G,KP⟩
 ·refine aR<|wq<|wm Z<|wn Z<|bK ?_;refine⟨_,Z,?_⟩;rcases fo u.length with z|z
  ·obtain rfl:k=0:=G
   have e:oL u=0:=by unfold oL;rw[z];rfl
   rw[e]
  ·obtain rfl:i=u.length:=G
   rw[hk,dh];rfl
theorem bKe (ac:Rd w an ba am 1 (ints .u8 u)) (hN:u.length<=1000000):
  CF 26 #[sl an ba am] w (λv R'=> ∃A c,v=sl A (lw u).length c/\R'=[(ru 5 A ((lw u).length) c (lw u))]):=by
 obtain rfl:=ac.lenI;refine fn1 Tryz.func26 Z Z Z ?_;have ia:=ac.max;have Mf:=XM u;refine wq<|wn Z<|wq<|wm Z<|wm Z<|wa (aC bSg Z (Ct.quiet (λw hw=>bGn ((ac.c _) w hw) cE))) ?_;rintro _ _⟨rfl,rfl⟩;refine wa (aC aZa Z (Ct.fresh (λw hw=>xD ((ac.c _) w hw) ⟨Mf.1,Mf.2.1⟩ cE))) ?_;rintro _ _⟨_,rfl,cm,ci,rfl,rfl⟩;refine wn Z<|aU [0] 99 ?_;exact⟨_,Z,_,_,Z,Z⟩
theorem VT {L:AH} {z:Int} (i1:1<=i) (hi:i<u.length) (hl:L.length=u.length) (hM: ∀j:Int,0<=j->j<i->j<u.length->MB u (j+1).toNat (rd L j)) (h:MB u (i.toNat+1) z): ∀j:Int,0<=j->j<i+1->j<u.length->MB u (j+1).toNat (rd (upd L i z) j):=λj h0 h1 h2=>by
 by_cases e:j=i
 ·subst e;rw[fO G G,show(j+1).toNat=j.toNat+1 by omega];exact h
 ·rw [gN G h0 (λq=>e q.symm)];exact hM j h0 G h2
theorem aIs (ac:Rd w an ba am 1 (ints .u8 u)) (hN:u.length<=1000000):
  CF 168 #[sl an ba am] w (λv R'=> ∃(A:AF) (c:Nat) (L:AH),v=sl A L.length c/\L.length=u.length/\(∀j:Int,0<=j->j<u.length->j<u.length->MB u (j+1).toNat (rd L j))/\R'=[(ri 3 A L.length c L)]):=by
 obtain rfl:=ac.lenI;refine fn1 Tryz.func168 Z Z Z ?_;have ia:=ac.max;refine wq<|wn Z<|wq<|wm Z<|wy (aL af Z)<|wa (dK aa zb3 Z Z) ?_;rintro _ _⟨ap,rfl,rfl⟩;refine gJ (R1:=[(ri 3 (GG ap) u.length u.length (List.replicate u.length (0:Int)))]) Z<|bC (v:=sl (GG ap) u.length u.length) Z<|wn Z<|wq<|wn Z<|aD<|wq<|wn Z<|aG ?_;refine fZ (λ(i:Int) (z:Int) (L:AH)=>[(0,sl an u.length am),(3,sl (GG ap) u.length u.length),(4,I z),(5,I i)]) (λi z L=>[(ri 3 (GG ap) u.length u.length L)]) (λi z L=>(1<=i)/\(i<=u.length\/i=1)/\(L.length=u.length)/\(∀j:Int,0<=j->j<i->j<u.length->MB u (j+1).toNat (rd L j))/\(MB u i.toNat z)) (λi z L=>(u.length-i).toNat) ?_ ?_
 ·exact⟨1,0,List.replicate u.length (0:Int),⟨G,G,(by rw[bz]),(λj h0 h1 h2=>by obtain rfl:j=0:=G;have e:rd (List.replicate u.length (0:Int)) 0=0:=(by unfold rd;rw[ai,zf];split<;>rfl);rw[e];exact MB.one),(MB.one)⟩,KP⟩
 intro i z L ⟨ff,Ou,Hs,hM,hn⟩;refine aD<|wq<|wm Z<|wm Z<|wy (aL af Z)<|wL Z Z<|aA<|aX Z (λar=> ?_) (λar=> ?_)
 ·refine aI<|aD<|aG<|aD<|aG ?_;refine fG (λ(m:Int)=>[(0,sl an u.length am),(3,sl (GG ap) u.length u.length),(4,I m),(5,I i)]) (λm=>[(ri 3 (GG ap) u.length u.length L)]) (λm=>(KI u i.toNat m)) (λm=>m.toNat) ?_ ?_
  ·exact⟨z,(KI.init hn),KP⟩
  intro m hK;have hKb:=hK.bd;refine aD ?_;refine mO [(0,sl an u.length am),(3,sl (GG ap) u.length u.length),(4,I m),(5,I i),(27, .bool (decide ((0<m)/\((rd u i)≠(rd u m)))))] [(ri 3 (GG ap) u.length u.length L)] ?_ ?_
  ·refine bD mixed<|wD 0 Z (aJ Z)<|wD 1 Z (bW Z Z)<|wD 2 Z (aJ Z)<|jH 17 Z (λbx=> ?_) (λbx=> ?_)
   ·refine wG 3 Z Z Z (aJ Z)<|wG 4 Z Z Z (aJ Z)<|wG 5 Z Z Z (aF af sz5 Z Z (ac.c _))<|wG 6 Z Z Z (aT az Z Z (ac.c _))<|wG 7 Z Z Z (aJ Z)<|wG 8 Z Z Z (aJ Z)<|wG 9 Z Z Z (aF af sz5 Z Z (ac.c _))<|wG 10 Z Z Z (aT az Z Z (ac.c _))<|wG 11 Z Z Z (fQ Z Z)<|wD 12 Z (aS Z Z)<|wN ?_;exact KP
   ·refine wO 3 Z Z Z<|wO 4 Z Z Z<|wO 5 Z Z Z<|wO 6 Z Z Z<|wO 7 Z Z Z<|wO 8 Z Z Z<|wO 9 Z Z Z<|wO 10 Z Z Z<|wO 11 Z Z Z<|wD 12 Z (aN Z Z)<|wN ?_;exact KP
  refine aX Z (λef=> ?_) (λef=> ?_)
  ·have gd:rd u m≠rd u i:=λe=>ef.2 e.symm;have hMm:=hM (m-1) G G G;rw[show(m-1+1).toNat=m.toNat by omega] at hMm;refine aI<|aG<|aK<|wm Z<|wm Z<|wS Z Z<|wy (aF aa sz3 Z Z (rdr 0 Z))<|wy (aT au Z Z (rdr 0 Z))<|wn Z ?_;exact⟨rd L (m-1),(hK.step (by rw[<-PP,<-PP];exact gd) hMm),(by have:=hMm.bd;omega),KP⟩
  ·refine aR<|aD<|aD<|bD mixed<|wD 0 Z (aJ Z)<|wD 1 Z (aJ Z)<|wD 2 Z (aF af sz5 Z Z (ac.c _))<|wD 3 Z (aT az Z Z (ac.c _))<|wD 4 Z (aJ Z)<|wD 5 Z (aJ Z)<|wD 6 Z (aF af sz5 Z Z (ac.c _))<|wD 7 Z (aT az Z Z (ac.c _))<|wD 8 Z (eT Z Z)<|wN<|aX Z (λfm=> ?_) (λfm=> ?_)
   ·have Qh:=hK.hit (by rw[<-PP,<-PP];exact fm.symm);refine aK<|wm Z<|wA Z Z<|wn Z<|aK<|wm Z<|wm Z<|wm Z<|wy (aF aa sz3 Z Z (rdr 0 Z))<|bZ (bE 0 Z sz3 Z Z) ?_;rintro _ _ rfl;refine gJ (R1:=[(ri 3 (GG ap) u.length u.length (upd L i (m+1)))]) Z<|aA<|aK<|wm Z<|wA Z Z<|wn Z ?_;exact⟨i+1,m+1,upd L i (m+1),⟨G,G,(by rw[aY];exact Hs),(VT ff G Hs hM Qh),(by rw[show(i+1).toNat=i.toNat+1 by omega];exact Qh)⟩,G,KP⟩
   ·have Qh:=hK.miss G (by rw[<-PP,<-PP];exact λe=>fm e.symm);refine aI<|aK<|wm Z<|wm Z<|wm Z<|wy (aF aa sz3 Z Z (rdr 0 Z))<|bZ (bE 0 Z sz3 Z Z) ?_;rintro _ _ rfl;refine gJ (R1:=[(ri 3 (GG ap) u.length u.length (upd L i m))]) Z<|aA<|aK<|wm Z<|wA Z Z<|wn Z ?_;exact⟨i+1,m,upd L i m,⟨G,G,(by rw[aY];exact Hs),(VT ff G Hs hM Qh),(by rw[show(i+1).toNat=i.toNat+1 by omega];exact Qh)⟩,G,KP⟩
 ·refine aR<|wq<|wm Z<|wn Z<|bO (R1:=[(ri 3 (GG ap) u.length u.length L)]) (λ_ h=>h.sel [0] cC Z) ?_;exact⟨_,Z,_,_,L,by rw[Hs],Hs,λj h0 h1 _=>hM j h0 G h1,by rw[Hs]⟩
theorem aPp (ac:Rd w an ba am 1 (ints .u8 u)) (hN:u.length<=1000000):
  CF 113 #[sl an ba am] w (λv R'=>v=I (lp u)):=by
 obtain rfl:=ac.lenI;refine fn1 Tryz.func113 Z Z Z ?_;have ia:=ac.max;refine wq<|wn Z<|aD<|wq<|wm Z<|wy (aL af Z)<|wy (eT Z Z)<|aA<|aX Z (λar=> ?_) (λar=> ?_)
 ·refine wq<|wn Z<|bK ?_;refine⟨_,Z,?_⟩;exact bq (Value.int .i64) (by rw[dw (show u.length=0 by omega)];rfl)
 ·refine aI<|wq<|wm Z<|wy (aL af Z)<|wm Z<|wa (aC bOx Z (Ct.fresh (λw hw=>aIs ((ac.c _) w hw) cE))) ?_;rintro _ _⟨_,rfl,cm,ci,L_3,rfl,Hs,hLM,rfl⟩;refine wm Z<|wy (aL af Z)<|wS Z Z<|wy (aF aa sz3 Z Z (rdr 0 Z))<|wy (aT au Z Z (rdr 0 Z))<|wy (kY Z Z (by have hq:=(hLM (u.length-1) G G G).bd;omega)) ?_;refine wn Z<|aU [] 99 ?_;refine⟨_,Z,?_⟩;exact bq (Value.int .i64) (MB.least G (by have:=hLM (u.length-1) G G G;rw[show((u.length:Int)-1+1).toNat=u.length by omega] at this;exact this))
theorem aUn (ac:Rd w an ba am 1 (ints .u8 u)) (hN:u.length<=1000000):
  CF 62 #[sl an ba am] w (λv R'=> ∃(A:AF) (c:Nat),v= .tuple #[sl A (jX u).length c,I (gM u)]/\R'=[(ru 5 A ((jX u).length) c (jX u))]):=by
 obtain rfl:=ac.lenI;refine fn2 Tryz.func62 Z Z Z ?_;have ia:=ac.max;refine wq<|eZ (ru 5 none 0 0 ([]))<|wg Z<|wn Z<|aD<|wq<|wm Z<|wy (aL af Z)<|wy (eT Z Z)<|aA<|aX Z (λar=> ?_) (λar=> ?_)
 ·refine wq<|wg Z<|wn Z<|aU [0] 99 ?_;refine⟨_,_,Z,Z,?_⟩;obtain rfl:=dw (show u.length=0 by omega);exact⟨_,_,Z,Z⟩
 ·have Ow:=PT (u:=u) G;refine aI<|wq<|wm Z<|wa (aC bQd Z (Ct.quiet (λw hw=>aPp ((ac.c _) w hw) cE))) ?_;rintro _ _⟨rfl,rfl⟩;refine wn Z<|aD<|wq<|wm Z<|wy (aL af Z)<|wm Z<|wy (tC Z Z)<|wy (fQ Z Z)<|aA<|aX Z (λbx=> ?_) (λbx=> ?_)
  ·refine aK<|wm Z<|wy (aL af Z)<|wn Z<|aD<|bD mixed<|wD 0 Z (aJ Z)<|wD 1 Z (aJ Z)<|wD 2 Z (eD af sz5 Z Z (ac.c _))<|wD 4 Z (aJ Z)<|wD 5 Z (aL af Z)<|wD 6 Z (aJ Z)<|wD 7 Z (wW Z Z G G G)<|wC 3 Z (aC aRc Z (Ct.fresh (λw hw=>rT ((RdC.toI (ac.c _) G) w hw) (by rw[ax];omega)))) ?_;rintro _ _⟨_,rfl,cm,ci,rfl,rfl⟩;refine⟨.inr hrZ,?_⟩;refine wD 8 Z (aW Z)<|wD 9 Z (aW Z)<|wN<|aU [0] 99 ?_;refine⟨_,_,Z,Z,?_⟩;have e:rl u=u.length:=by unfold rl;rw[dm cF]
   unfold jX gM;rw[e];exact⟨_,_,Z,Z⟩
  ·refine aI<|aD<|bD mixed<|wD 0 Z (aJ Z)<|wD 1 Z (aJ Z)<|wD 2 Z (eD af sz5 Z Z (ac.c _))<|wD 4 Z (aJ Z)<|wD 5 Z (aL af Z)<|wD 6 Z (aJ Z)<|wD 7 Z (wW Z Z G G G)<|wC 3 Z (aC aRc Z (Ct.fresh (λw hw=>rT ((RdC.toI (ac.c _) G) w hw) (by rw[ax];omega)))) ?_;rintro _ _⟨_,rfl,kt,lj,rfl,rfl⟩;refine⟨.inr hrZ,?_⟩;refine wD 8 Z (aW Z)<|wD 9 Z (aW Z)<|wN<|aU [0] 99 ?_;refine⟨_,_,Z,Z,?_⟩;have e:rl u=lp u:=by unfold rl;rw[df cF]
   unfold jX gM;rw[e];exact⟨_,_,Z,Z⟩
end
section
variable {w:World} {k:Int}
theorem qJ {Kp:AF} {Yf Lf:Nat} {ks:AH} (Og:Rd w Kp Yf Lf 1 (ints .i64 ks)) (dq:(0<=k/\k<=1048576)/\ ∀x∈ks,0<=x/\x<k):
  CF 198 #[sl Kp Yf Lf,I k] w (λv R'=> ∃A c,v= .tuple #[sl A k.toNat c,bt]/\R'=[(ri 3 A k.toNat c (fI ks k))]):=by
 obtain rfl:=Og.lenI;refine fn2 Tryz.func198 Z Z Z ?_;have m_ks:=Og.max;have hk:=dq.1;refine wq<|wg Z<|wn Z<|aD<|wq<|wm Z<|wL Z Z<|wm Z<|bR 3 [(0,sl Kp ks.length Lf),(1,I k),(14, .bool (decide ((k<0)\/(1048576<k))))] [] ?_ ?_
 ·refine bJ 11 Z (λar=> ?_) (λar=> ?_)
  ·refine aM Z Z Z Z<|aM Z Z Z Z<|wy (aS Z Z)<|aA ?_;exact KP
  ·refine aB Z Z<|wm Z<|aB Z Z<|wy (bW Z Z)<|wy (aN Z Z)<|aA ?_;exact KP
 refine qV 14 Z G<|aA<|aP Z<|aI<|wq<|wm Z<|wa (dK aa zb3 Z Z) ?_;rintro _ _⟨ap,rfl,rfl⟩;refine bC (v:=sl (GG ap) ((k).toNat) ((k).toNat)) Z<|wn Z<|aD<|wq<|wm Z<|wy (aL aa Z)<|wm Z<|aA<|aG ?_;refine dI (λ(m:Int) (V:AH)=>[(1,I k),(6,sl (GG ap) ((k).toNat) ((k).toNat)),(17,sl Kp ks.length Lf),(18,I (ks.length:Int)),(19,I m)]) (λm V=>[(ri 3 (GG ap) ((k).toNat) ((k).toNat) V)]) (λm V=>(0<=m)/\(m<=ks.length)/\(V=fI (ks.take m.toNat) k)) (λm V=>(ks.length-m).toNat) ?_ ?_
 ·exact⟨0,List.replicate ((k).toNat) (0:Int),⟨G,G,((aDp k).symm)⟩,KP⟩
 intro m V ⟨qn,mu,hV⟩;refine wq<|wL Z Z<|aA<|aD<|aX Z (λbx=> ?_) (λbx=> ?_)
 ·have hx:=dq.2 _ (bG (L:=ks) qn G)
  have hb:0<=rd V (rd ks m)/\rd V (rd ks m)<=m:=by
   have a:=QN (ks:=ks.take m.toNat) (k:=k) (x:=rd ks m);rw[<-hV,ax] at a;omega
  refine aI<|aD<|aG<|wq<|wy (aF aa sz3 Z Z (Og.c _))<|wy (aT au Z Z (Og.c _))<|wn Z<|aD<|wq<|wm Z<|wL Z Z<|wm Z ?_;refine bR 4 [(1,I k),(6,sl (GG ap) ((k).toNat) ((k).toNat)),(8,I (rd ks m)),(17,sl Kp ks.length Lf),(18,I (ks.length:Int)),(19,I m),(29, .bool (decide (((rd ks m)<0)\/(k<=(rd ks m)))))] [(ri 3 (GG ap) ((k).toNat) ((k).toNat) V)] ?_ ?_
  ·refine bJ 25 Z (λef=> ?_) (λef=> ?_)
   ·refine aM Z Z Z Z<|aM Z Z Z Z<|aM Z Z Z Z<|wy (aS Z Z)<|aA ?_;exact KP
   ·refine aB Z Z<|wm Z<|aB Z Z<|wm Z<|aB Z Z<|wy (iL Z Z)<|wy (aN Z Z)<|aA ?_;exact KP
  refine qV 29 Z G<|aA<|aP Z<|aI<|aK<|wm Z<|wm Z<|wy (aF aa sz3 Z Z (rdr 0 Z))<|wy (aT au Z Z (rdr 0 Z))<|wA Z Z<|wy (aF aa sz3 Z Z (rdr 0 Z))<|bZ (bE 0 Z sz3 Z Z) ?_;rintro _ _ rfl;refine aA<|aK<|wA Z Z<|wm Z<|aA ?_;exact⟨m+1,upd V (rd ks m) ((rd V (rd ks m))+1),⟨G,G,(by rw[dJ qn G,<-VK hx.1 hx.2,<-hV])⟩,G,KP⟩
 ·refine aR<|wq<|wm Z<|wg Z<|wn Z<|aU [0] 99 ?_;refine⟨_,_,Z,Z,?_⟩;have e:ks.take m.toNat=ks:=bg G;rw[e] at hV;subst hV;exact⟨_,_,Z,Z⟩
theorem zA {Qv:AF} {Ye Ra:Nat} {cs:AH} (Of:Rd w Qv Ye Ra 1 (ints .i64 cs)) (jp: ∀x∈cs,0<=x) (Mv:cs.sum<=1000000000) (kf:cs.length<=1048576):
  CF 237 #[sl Qv Ye Ra] w (λv R'=> ∃A c,v=sl A (dO cs).length c/\R'=[(ri 3 A ((dO cs).length) c (dO cs))]):=by
 obtain rfl:=Of.lenI;refine fn1 Tryz.func237 Z Z Z ?_;have m_cs:=Of.max;refine wq<|wn Z<|wq<|wm Z<|wy (aL aa Z)<|wa (dK aa zb3 Z Z) ?_;rintro _ _⟨ap,rfl,rfl⟩;refine bC (v:=sl (GG ap) cs.length cs.length) Z<|wn Z<|wq<|wn Z<|aD<|wq<|wm Z<|wy (aL aa Z)<|wm Z<|aA<|aG ?_;refine fZ (λ(i:Int) (n:Int) (V:AH)=>[(3,sl (GG ap) cs.length cs.length),(4,I n),(10,sl Qv cs.length Ra),(11,I (cs.length:Int)),(12,I i)]) (λi n V=>[(ri 3 (GG ap) cs.length cs.length V)]) (λi n V=>(0<=i)/\(i<=cs.length)/\(n=ps cs i)/\(V.length=cs.length)/\(∀j:Int,0<=j->j<i->rd V j=ps cs j)) (λi n V=>(cs.length-i).toNat) ?_ ?_
 ·exact⟨0,0,List.replicate cs.length (0:Int),⟨G,G,(Z),(by rw[bz]),(λj h1 h2=>G)⟩,KP⟩
 intro i n V ⟨aw,ff,hn,hl,hV⟩;refine wq<|wL Z Z<|aA<|aD<|aX Z (λar=> ?_) (λar=> ?_)
 ·have xa:=xQ jp i;have vx:=xQ jp (i+1);rw[mP aw G] at vx;refine aI<|aD<|aG<|wq<|wm Z<|wy (aF aa sz3 Z Z (Of.c _))<|wy (aT au Z Z (Of.c _))<|wg Z<|wn Z<|wq<|wm Z<|wm Z ?_;refine wm Z<|wy (aF aa sz3 Z Z (rdr 0 Z))<|bZ (bE 0 Z sz3 Z Z) ?_;rintro _ _ rfl;refine aA<|aK<|wm Z<|wm Z<|wA Z Z<|wn Z<|aK<|wA Z Z<|wm Z<|aA ?_;exact⟨i+1,n+(rd cs i),upd V i n,⟨G,G,(by rw[mP aw G,hn]),(by rw[aY];exact hl),(fH aw G hV hn)⟩,G,KP⟩
 ·refine aR<|wq<|wm Z<|wn Z<|aU [0] 99 ?_;refine⟨_,Z,?_⟩;obtain rfl:V=dO cs:=bI (hl.trans (gH cs).symm) λj h1 h2=>by rw[oW h1 G];exact hV j h1 G
  rw[gH];exact⟨_,_,Z,Z⟩
theorem vS {pd:AF} {z6 pi:Nat} {order:AH} {xj:AF} {Nf xl:Nat} {keys:AH} (rg:Rd w pd z6 pi 1 (ints .i64 order)) (pn:Rd w xj Nf xl 1 (ints .i64 keys)) (hk:0<=k/\k<=1048576) (Qe: ∀x∈keys,0<=x/\x<k) (ho: ∀i∈order,0<=i/\i<keys.length) (hlen:order.length<=1000000):
  CF 234 #[sl pd z6 pi,sl xj Nf xl,I k] w (λv R'=> ∃A c,v= .tuple #[sl A order.length c,bt]/\R'=[(ri 3 A order.length c (dD order keys k.toNat))]):=by
 obtain rfl:=rg.lenI;obtain rfl:=pn.lenI;refine fn2 Tryz.func234 Z Z Z ?_;have Zt:=rg.max;have m_keys:=pn.max;have Ti: ∀i∈order,0<=rd keys i/\rd keys i<k:=λi hi=>Qe _ (bG (ho i hi).1 (ho i hi).2);refine wq<|wg Z<|wn Z<|aD<|wq<|wm Z<|wm Z<|wa (aC aCz Z (Ct.fresh (λw hw=>qJ ((pn.c _) w hw) ⟨hk,Qe⟩))) ?_;rintro _ _⟨_,rfl,cm,ci,rfl,rfl⟩;refine wm Z<|wX Z Z<|wX Z Z<|wg Z<|wn Z<|wq<|wm Z<|wy (dC Z)<|aA<|aP Z<|aI<|wq ?_;refine wm Z<|wa (dK aa zb3 Z Z) ?_;rintro _ _⟨ir,rfl,rfl⟩;refine bC (v:=sl (GG ir) ((k).toNat) ((k).toNat)) Z<|wn Z<|aD<|wq<|wm Z<|wy (aL aa Z)<|wm Z<|aA<|aG ?_;refine dI (λ(m:Int) (V:AH)=>[(0,sl pd order.length pi),(1,sl xj keys.length xl),(10,sl (GG ir) ((k).toNat) ((k).toNat)),(27,sl pd order.length pi),(28,I (order.length:Int)),(29,I m)]) (λm V=>[(ri 3 (GG ir) ((k).toNat) ((k).toNat) V),(ri 3 cm ((k).toNat) ci (fI keys k))]) (λm V=>(0<=m)/\(m<=order.length)/\(V=fI ((order.take m.toNat).map (rd keys)) k)) (λm V=>(order.length-m).toNat) ?_ ?_
 ·exact⟨0,List.replicate ((k).toNat) (0:Int),⟨G,G,((aDp k).symm)⟩,KP⟩
 intro m V ⟨qn,mu,hV⟩;refine wq<|wL Z Z<|aA<|aD<|aX Z (λar=> ?_) (λar=> ?_)
 ·have hi:=ho _ (bG (L:=order) qn G);have hx:=Ti _ (bG (L:=order) qn G)
  have hb:0<=rd V (rd keys (rd order m))/\rd V (rd keys (rd order m))<=m:=by
   have a:=QN (ks:=(order.take m.toNat).map (rd keys)) (k:=k) (x:=rd keys (rd order m));rw[<-hV,bu,ax] at a;omega
  have kc:V.length=k.toNat:=by rw[hV,eO]
  refine aI<|aD<|aG<|wq<|wy (aF aa sz3 Z Z (rg.c _))<|wy (aT au Z Z (rg.c _))<|wn Z<|aD<|wq<|wm Z<|wL Z Z<|wm Z ?_;refine bR 5 [(0,sl pd order.length pi),(1,sl xj keys.length xl),(10,sl (GG ir) ((k).toNat) ((k).toNat)),(12,I (rd order m)),(27,sl pd order.length pi),(28,I (order.length:Int)),(29,I m),(40, .bool (decide (((rd order m)<0)\/((keys.length:Int)<=(rd order m)))))] [(ri 3 (GG ir) ((k).toNat) ((k).toNat) V),(ri 3 cm ((k).toNat) ci (fI keys k))] ?_ ?_
  ·refine bJ 35 Z (λbx=> ?_) (λbx=> ?_)
   ·refine aM Z Z Z Z<|aM Z Z Z Z<|aM Z Z Z Z<|aM Z Z Z Z<|wy (aS Z Z)<|aA ?_;exact KP
   ·refine aB Z Z<|wm Z<|aB Z Z<|wm Z<|aB Z Z<|wy (aL aa Z)<|aB Z Z<|wy (iL Z Z)<|wy (aN Z Z)<|aA ?_;exact KP
  refine qV 40 Z G<|aA<|aP Z<|aI<|aK<|wm Z<|wm Z<|wm Z<|wy (aF aa sz3 Z Z (pn.c _))<|wy (aT au Z Z (pn.c _))<|wy (aF aa sz3 Z Z (rdr 0 Z))<|wy (aT au Z Z (rdr 0 Z))<|wA Z Z<|wy (aF aa sz3 Z Z (rdr 0 Z))<|bZ (bE 0 Z sz3 Z Z) ?_;rintro _ _ rfl;refine aA<|aK<|wA Z Z<|wm Z<|aA ?_;exact⟨m+1,upd V (rd keys (rd order m)) ((rd V (rd keys (rd order m)))+1),⟨G,G,(by rw[dJ qn G,jc,List.map_singleton,<-VK hx.1 hx.2,<-hV])⟩,G,KP⟩
 ·have Ll:V=(fI (order.map (rd keys)) k):=by rw[hV,bg G]
  have Oe:(dO V).length=k.toNat:=by rw[gH,hV,eO]
  refine aR<|wq<|wm Z<|wa (aC aLt Z (Ct.fresh (λw hw=>zA ((rdr 0 Z) w hw) (by rw[Ll];exact nJ _ _) (by rw[Ll,QM G Ti];omega) (by rw[Ll,eO];omega)))) ?_;rintro _ _⟨_,rfl,gv,jn,rfl,rfl⟩;refine wn Z<|wq<|wm Z<|wy (aL aa Z)<|wa (dK aa zb3 Z Z) ?_;rintro _ _⟨nd,rfl,rfl⟩;refine bC (v:=sl (GG nd) order.length order.length) Z<|wn Z<|aD<|wq<|wm Z<|wy (aL aa Z)<|wm Z<|aA<|aG ?_;refine fZ (λ(q:Int) (S:AH) (Lr:AH)=>[(1,sl xj keys.length xl),(13,sl gv ((dO V).length) jn),(14,sl (GG nd) order.length order.length),(56,sl pd order.length pi),(57,I (order.length:Int)),(58,I q)]) (λq S Lr=>[(ri 3 (GG nd) order.length order.length Lr),(ri 3 gv ((dO V).length) jn S),(ri 3 (GG ir) ((k).toNat) ((k).toNat) V),(ri 3 cm ((k).toNat) ci (fI keys k))]) (λq S Lr=>(0<=q)/\(q<=order.length)/\(GM order keys S Lr k q)) (λq S Lr=>(order.length-q).toNat) ?_ ?_
  ·exact⟨0,dO V,List.replicate order.length (0:Int),⟨G,G,(by rw[Ll];exact aGl)⟩,KP⟩
  intro q S Lr ⟨ij,yi,hP⟩;refine wq<|wL Z Z<|aA<|aD<|aX Z (λef=> ?_) (λef=> ?_)
  ·have hi:=ho _ (bG (L:=order) ij G);have hx:=Ti _ (bG (L:=order) ij G);have br:=hP.lt Ti ij G;have b7:=hP.len;have xd:=hP.alen;refine aI<|aD<|aG<|wq<|wy (aF aa sz3 Z Z (rg.c _))<|wy (aT au Z Z (rg.c _))<|wn Z<|wq<|wm Z<|wm Z<|wm Z<|wm Z ?_;refine wy (aF aa sz3 Z Z (pn.c _))<|wy (aT au Z Z (pn.c _))<|wy (aF aa sz3 Z Z (rdr 1 Z))<|wy (aT au Z Z (rdr 1 Z))<|wm Z<|wy (aF aa sz3 Z Z (rdr 0 Z))<|bZ (bE 0 Z sz3 Z Z) ?_;rintro _ _ rfl;refine aA<|aK<|wm Z<|wm Z<|wm Z<|wy (aF aa sz3 Z Z (pn.c _))<|wy (aT au Z Z (pn.c _))<|wy (aF aa sz3 Z Z (rdr 1 Z))<|wy (aT au Z Z (rdr 1 Z))<|wA Z Z<|wy (aF aa sz3 Z Z (rdr 1 Z))<|bZ (bE 1 Z sz3 Z Z) ?_;rintro _ _ rfl;refine aA<|aK<|wA Z Z<|wm Z<|aA ?_;exact⟨q+1,upd S (rd keys (rd order q)) ((rd S (rd keys (rd order q)))+1),upd Lr (rd S (rd keys (rd order q))) (rd order q),⟨G,G,(hP.step Ti ij G)⟩,G,KP⟩
  ·refine aR<|wq<|wm Z<|wg Z<|wn Z<|aU [0] 99 ?_;refine⟨_,_,Z,Z,?_⟩;have e:=hP.done Ti G;subst e;exact⟨_,_,Z,Z⟩
end
section
variable {w:World} {n i j k:Int} {dj:AF} {ie dg:Nat} {s:AH}
theorem nE {r:Int} (hr:0<=r/\r<=2) (hn:0<=n/\n<=1000000):
  CF 232 #[I n,I r] w (λv R'=> ∃A c,v=sl A (plc n.toNat r.toNat).length c/\R'=[(ri 3 A ((plc n.toNat r.toNat).length) c (plc n.toNat r.toNat))]):=by
 refine fn1 Tryz.func232 Z Z Z ?_;refine wq<|wn Z<|wq<|eZ (ri 3 none 0 0 ([]))<|wn Z<|aD<|wq<|wm Z<|wn Z ?_;refine aG ?_;refine nT (λ(A1:AF) (n1:Nat) (c1:Nat) (a1:AH) (i:Int) (k:Nat)=>[(0,I n),(5,sl A1 n1 c1),(6,I i)]) (λA1 n1 c1 a1 i k=>[(ri 3 A1 n1 c1 a1)]) (λA1 n1 c1 a1 i k=>(n1=a1.length)/\(i=r+3*k)/\(a1=SK r.toNat k)/\(r+3*(k:Int)<n+3)) (λA1 n1 c1 a1 i k=>(n-i).toNat) ?_ ?_
 ·exact⟨none,0,0,[],r,0,⟨(Z),G,(Z),G⟩,KP⟩
 intro A1 n1 c1 a1 i k ⟨cj,hi,bb,hk⟩;have mw:=bq List.length bb;rw[aAu] at mw;refine aD<|wq<|wm Z<|wm Z<|wL Z Z<|aA<|aX Z (λar=> ?_) (λar=> ?_)
 ·refine aI<|aD<|aG<|aK<|wm Z<|wm Z<|wa (bF .i64 [i] aa zs3 Z Z Z) ?_;rintro _ _⟨db,rfl,rfl⟩;refine wa (aQ 1 Z aa zb3 Z Z Z (rdr 0 Z)) ?_;rintro _ _⟨dv,dy,rfl,rfl⟩;refine bC (v:=sl dv (n1+1) dy) Z<|wn Z<|aK<|wm Z<|wA Z Z<|wn Z ?_;exact⟨dv,n1+1,dy,a1++([i]),i+3,(k+1),⟨(by simp only[ah,cj];try rfl),G,(by rw[aOx,<-bb,show(r.toNat:Int)+3*(k:Int)=i by omega]),G⟩,G,SA,λ_ h=>h.sel [1] cC Z⟩
 ·refine aR<|wq<|wm Z<|wn Z<|aU [0] 99 ?_;refine⟨_,Z,?_⟩;obtain rfl:k=(n.toNat+2-r.toNat)/3:=G
  subst bb;obtain rfl:=cj;exact⟨_,_,Z,Z⟩
theorem aAf (hn:0<=n/\n<=100000):
  CF 265 #[I n] w (λv R'=> ∃A c,v=sl A (smp n.toNat).length c/\R'=[(ri 3 A ((smp n.toNat).length) c (smp n.toNat))]):=by
 refine fn1 Tryz.func265 Z Z Z ?_;refine wq<|wn Z<|aD<|wq<|wm Z<|wL Z Z<|wm Z<|bR 3 [(0,I n),(8, .bool (decide ((n<0)\/(100000<n))))] [] ?_ ?_
 ·refine bJ 5 Z (λar=> ?_) (λar=> ?_)
  ·refine aM Z Z Z Z<|aM Z Z Z Z<|wy (aS Z Z)<|aA ?_;exact KP
  ·refine aB Z Z<|wm Z<|aB Z Z<|wy (bW Z Z)<|wy (aN Z Z)<|aA ?_;exact KP
 refine qV 8 Z G<|aA<|aP Z<|aI<|wq<|wm Z<|wa (aC VG Z (Ct.fresh (λw hw=>nE cE G))) ?_;rintro _ _⟨_,rfl,cm,ci,rfl,rfl⟩;refine gJ (R1:=[(ri 3 cm ((plc n.toNat 1).length) ci (plc n.toNat 1))]) Z<|bC (v:=sl cm ((plc n.toNat 1).length) ci) Z<|wm Z<|wa (aC VG Z (Ct.fresh (λw hw=>nE cE G))) ?_;rintro _ _⟨_,rfl,kt,lj,rfl,rfl⟩;refine gJ (R1:=[(ri 3 kt ((plc n.toNat 2).length) lj (plc n.toNat 2)),(ri 3 cm ((plc n.toNat 1).length) ci (plc n.toNat 1))]) Z<|bC (v:=sl kt ((plc n.toNat 2).length) lj) Z<|wa (aQ 1 Z aa zb3 Z Z Z (rdr 0 Z) (by have:=kP n.toNat 1;have:=kP n.toNat 2;omega)) ?_;rintro _ _⟨iz,fj,rfl,rfl⟩;refine gJ (R1:=[(ri 3 kt ((plc n.toNat 2).length) lj (plc n.toNat 2)),(ri 3 iz (((plc n.toNat 1).length)+((plc n.toNat 2).length)) fj ((plc n.toNat 1)++(plc n.toNat 2)))]) Z<|bC (v:=sl iz (((plc n.toNat 1).length)+((plc n.toNat 2).length)) fj) Z<|wn Z<|aU [1] 99 ?_;refine⟨_,Z,?_⟩;have e:(plc n.toNat 1).length+(plc n.toNat 2).length=(smp n.toNat).length:=(ah ..).symm;rw[e];exact⟨_,_,Z,Z⟩
theorem yB {s:AH} (co:Rd w dj ie dg 1 (ints .i64 s)) (hi:0<=i) (hs: ∀x∈s,0<=x/\x<=1000000):
  CF 267 #[sl dj ie dg,I i] w (λv R'=>v=I (jM s i)):=by
 obtain rfl:=co.lenI;refine fn1 Tryz.func267 Z Z Z ?_;have l3:=co.max;refine wq<|wn Z<|aD<|wq<|wm Z<|wm Z<|wy (aL aa Z)<|wy (iL Z Z)<|aA<|aX Z (λar=> ?_) (λar=> ?_)
 ·refine wq<|wn Z<|bK ?_;refine⟨_,Z,?_⟩;exact bq (Value.int .i64) (by unfold jM;rw[dm G])
 ·have hm:=hs _ (bG (L:=s) hi G);refine aI<|wq<|wm Z<|wm Z<|wy (aF aa sz3 Z Z (co.c _))<|wy (aT au Z Z (co.c _))<|wA Z Z<|wn Z<|bK ?_;refine⟨_,Z,?_⟩;exact bq (Value.int .i64) (by unfold jM;rw[df G])
theorem UX {s:AH} {b:Int} (co:Rd w dj ie dg 1 (ints .i64 s)) (hb:0<=b/\b<=2) (hs: ∀x∈s,0<=x/\x<=1000000) (hN:s.length<=1000000):
  CF 235 #[sl dj ie dg,I b] w (λv R'=> ∃A c,v=sl A (s.length) c/\R'=[(ri 3 A s.length c (iA s b))]):=by
 obtain rfl:=co.lenI;refine fn1 Tryz.func235 Z Z Z ?_;have l3:=co.max;refine wq<|wn Z<|wq<|wm Z<|wy (aL aa Z)<|wa (dK aa zb3 Z Z) ?_;rintro _ _⟨ap,rfl,rfl⟩;refine bC (v:=sl (GG ap) s.length s.length) Z<|wn Z<|aD<|wq<|wm Z<|wy (aL aa Z)<|wm Z<|aA<|aG ?_;refine dI (λ(i:Int) (V:AH)=>[(0,sl dj s.length dg),(1,I b),(5,sl (GG ap) s.length s.length),(11,I (s.length:Int)),(12,I i)]) (λi V=>[(ri 3 (GG ap) s.length s.length V)]) (λi V=>(0<=i)/\(i<=s.length)/\(V.length=s.length)/\(∀j:Int,0<=j->j<i->rd V j=jM s (j+b))) (λi V=>(s.length-i).toNat) ?_ ?_
 ·exact⟨0,List.replicate s.length (0:Int),⟨G,G,(by rw[bz]),(λj h1 h2=>G)⟩,KP⟩
 intro i V ⟨aw,ff,kc,hV⟩;refine wq<|wL Z Z<|aA<|aD<|aX Z (λar=> ?_) (λar=> ?_)
 ·refine aI<|aD<|aG<|wq<|wm Z<|wn Z<|aK<|wm Z<|wm Z<|wm Z<|wm Z<|wm Z<|wA Z Z ?_;refine wa (aC aCx Z (Ct.quiet (λw hw=>yB ((co.c _) w hw) G cE))) ?_;rintro _ _⟨rfl,rfl⟩;refine wy (aF aa sz3 Z Z (rdr 0 Z))<|bZ (bE 0 Z sz3 Z Z) ?_;rintro _ _ rfl;refine aA<|aK<|wA Z Z<|wm Z<|aA ?_;exact⟨i+1,upd V i (jM s (i+b)),⟨G,G,(by rw[aY];exact kc),(fH (f:=λj=>jM s (j+b)) aw G hV Z)⟩,G,KP⟩
 ·refine aR<|wq<|wm Z<|wn Z<|aU [0] 99 ?_;refine⟨_,Z,?_⟩;obtain rfl:V=iA s b:=aXp kc (λj h1 h2=>hV j h1 G);exact⟨_,_,Z,Z⟩
theorem aJd {s:AH} (co:Rd w dj ie dg 1 (ints .i64 s)) (hi:0<=i/\i<=1000000) (hj:0<=j/\j<=1000000) (hs: ∀x∈s,0<=x/\x<=1000000):
  CF 266 #[sl dj ie dg,I i,I j] w (λv R'=>v= .bool (decide (SS s i j))):=by
 obtain rfl:=co.lenI;refine fn1 Tryz.func266 Z Z Z ?_;have l3:=co.max;refine wq<|wn Z<|aD<|wq<|wm Z<|aA<|aG ?_;refine fG (λ(b:Int)=>[(0,sl dj s.length dg),(1,I i),(2,I j),(8,I b)]) (λb=>[]) (λb=>(0<=b)/\(b<=3)/\(∀c:Int,0<=c->c<b->jM s (i+c)=jM s (j+c))) (λb=>(3-b).toNat) ?_ ?_
 ·exact⟨0,⟨G,G,(λc h1 h2=>G)⟩,KP⟩
 intro b ⟨a8,Om,hk⟩;refine wq<|wL Z Z<|aA<|aD<|aX Z (λar=> ?_) (λar=> ?_)
 ·refine aI<|aD<|aG<|wq<|wm Z<|wn Z<|wq<|wm Z<|wm Z<|wm Z<|wA Z Z<|wa (aC aCx Z (Ct.quiet (λw hw=>yB ((co.c _) w hw) G cE))) ?_;rintro _ _⟨rfl,rfl⟩;refine wm Z<|wm Z<|wm Z<|wA Z Z<|wa (aC aCx Z (Ct.quiet (λw hw=>yB ((co.c _) w hw) G cE))) ?_;rintro _ _⟨rfl,rfl⟩;refine wy (fQ Z Z)<|aA<|aX Z (λbx=> ?_) (λbx=> ?_)
  ·refine wq<|wn Z<|bK ?_;refine⟨_,Z,?_⟩;exact bq Value.bool (nk (bBj a8 G bx)).symm
  ·refine aI<|aK<|wA Z Z<|wm Z<|aA ?_;exact⟨b+1,⟨G,G,(λc h1 h2=>(cz c b).elim (hk c h1) λg=>by rw[show c=b by omega];exact uy.1 bx)⟩,G,KP⟩
 ·refine aR<|wq<|wn Z<|bK ?_;refine⟨_,Z,?_⟩;exact bq Value.bool (ky (bGp λc h1 h2=>hk c h1 G)).symm
theorem aPo {s:AH} {rn:AF} {j8 rx:Nat} {rk:AH} {o:AH} (co:Rd w dj ie dg 1 (ints .i64 s)) (nf:Rd w rn j8 rx 1 (ints .i64 rk)) (hR:RkO s o rk) (hi:(0<=i/\i<s.length)/\i%3≠0) (hj:(0<=j/\j<s.length)/\j%3=0) (hs: ∀x∈s,0<=x/\x<=1000000) (hN:s.length<=1000000):
  CF 236 #[sl dj ie dg,sl rn j8 rx,I i,I j] w (λv R'=>v= .bool (decide (cmpL (s.drop i.toNat) (s.drop j.toNat)<0))):=by
 obtain rfl:=co.lenI;obtain rfl:=nf.lenI;refine fn1 Tryz.func236 Z Z Z ?_;have l3:=co.max;have Sr:=nf.max;have nn:Nn s:=λx hx=>(hs x hx).1;refine wq<|wn Z<|aG ?_;refine fZ (λ(p:Int) (q:Int) (c:Nat)=>[(0,sl dj s.length dg),(1,sl rn rk.length rx),(2,I p),(3,I q)]) (λp q c=>[]) (λp q c=>(p=i+c)/\(q=j+c)/\(EqH c (eu s i.toNat) (eu s j.toNat))/\(c=0\/c=1/\i%3=2)) (λp q c=>2-c) ?_ ?_
 ·exact⟨i,j,0,⟨G,G,(λd hd=>G),(.inl rfl)⟩,KP⟩
 intro p q c ⟨hp,hq,he,hc⟩;have hcc:c<=1:=G
 have kc:=hR.len;refine aG<|aD<|wq<|wm Z<|wm Z<|wa (aC aCx Z (Ct.quiet (λw hw=>yB ((co.c _) w hw) G cE))) ?_;rintro _ _⟨rfl,rfl⟩;refine wm Z<|wm Z<|wa (aC aCx Z (Ct.quiet (λw hw=>yB ((co.c _) w hw) G cE))) ?_;rintro _ _⟨rfl,rfl⟩;refine wg Z<|wn Z<|wq<|wm Z<|wm Z<|wy (fQ Z Z)<|aA<|aX Z (λar=> ?_) (λar=> ?_)
 ·refine wq<|wm Z<|wm Z<|wL Z Z<|wn Z<|bK ?_;refine⟨_,Z,?_⟩;exact bq Value.bool (ug.2 (by subst hp hq;rw[iI];exact aXg nn hi.1.1 hj.1.1 he ar))
 ·have he2:=bEv nn hi.1.1 hj.1.1 he (by rw[<-hp,<-hq];exact uy.1 ar);refine aI<|wq<|wm Z<|wA Z Z<|wm Z<|wA Z Z<|wg Z<|wn Z<|wq<|wm Z<|wy (tC Z Z)<|wy (fQ Z Z) ?_;refine wm Z<|bR 4 [(0,sl dj s.length dg),(1,sl rn rk.length rx),(2,I (p+1)),(3,I (q+1)),(34, .bool (decide ((((p+1)%3)≠0)/\(((q+1)%3)≠0))))] [] ?_ ?_
  ·refine bJ 30 Z (λbx=> ?_) (λbx=> ?_)
   ·refine aB Z Z<|wm Z<|aB Z Z<|wy (tC Z Z)<|aB Z Z<|wy (fQ Z Z)<|wy (aS Z Z)<|aA ?_;exact KP
   ·refine aM Z Z Z Z<|aM Z Z Z Z<|aM Z Z Z Z<|wy (aN Z Z)<|aA ?_;exact KP
  refine aA<|aX Z (λef=> ?_) (λef=> ?_)
  ·have Mf:=aPn hR hi.1 hj.1 G he2 G G;rw[show i+((c+1:Nat):Int)=p+1 by omega,show j+((c+1:Nat):Int)=q+1 by omega] at Mf;refine aD<|bD mixed<|wD 0 Z (aJ Z)<|wD 1 Z (aJ Z)<|wD 2 Z (aJ Z)<|wD 3 Z (aL aa Z)<|wD 4 Z (rV Z Z)<|wD 5 Z (aF aa sz3 Z Z (nf.c _))<|wD 6 Z (aT au Z Z (nf.c _))<|wD 7 Z (aJ Z)<|wD 8 Z (aJ Z)<|wD 9 Z (aJ Z)<|wD 10 Z (aL aa Z)<|wD 11 Z (rV Z Z)<|wD 12 Z (aF aa sz3 Z Z (nf.c _)) ?_;refine wD 13 Z (aT au Z Z (nf.c _))<|wD 14 Z (eQ Z Z)<|wD 15 Z (aW Z)<|wN<|bK ?_;refine⟨_,Z,?_⟩;exact bq Value.bool (ug.2 (by rw[iI,Gl Mf.1.1,Gl Mf.1.2];exact Mf.2))
  ·refine aI ?_;exact⟨p+1,q+1,(c+1),⟨G,G,(he2),G⟩,G,KP⟩
theorem SI {w:World} {s:AH} (co:Rd w dj ie dg 1 (ints .i64 s)) (IH: ∀ {w:World} {pe:AF} {se pj:Nat} {t:AH} {j:Int},Rd w pe se pj 1 (ints .i64 t)->t.length<s.length->((0<=j/\j<=1000000)/\ ∀x∈t,0<=x/\x<j)->t.length<=100000->CF 200 #[sl pe se pj,I j] w (λv R'=> ∃(b:AH) (A:AF) (c:Nat),v=sl A t.length c/\b.Perm (iota t.length)/\b.Pairwise (bV t)/\R'=[(ri 3 A t.length c b)])) (dq:(0<=k/\k<=1000000)/\ ∀x∈s,0<=x/\x<k) (hN:s.length<=100000) (h2:2<=s.length):
  CF 233 #[sl dj ie dg,I k] w (λv R'=> ∃(o V:AH) (A A':AF) (c c' m:Nat),v= .tuple #[sl A o.length c,sl A' m c']/\m=V.length/\RkO s o V/\(∀(B:Nat) (w0 w:World),Hp B w0 w R'->Rd w A o.length c 1 (ints .i64 o))/\ ∀(B:Nat) (w0 w:World),Hp B w0 w R'->Rd w A' V.length c' 1 (ints .i64 V)):=by
 obtain rfl:=co.lenI;refine fn2 Tryz.func233 Z Z Z ?_;have l3:=co.max;have nn:Nn s:=λx hx=>(dq.2 x hx).1;have xf: ∀x∈s,0<=x/\x<=1000000:=λx hx=>by have:=dq.2 x hx;omega
 have lp1:=kP s.length 1;have lp2:=kP s.length 2;have lsm:=DN s.length;refine wq<|eZ (ri 3 none 0 0 ([]))<|wg Z<|wn Z<|wq<|wm Z<|wy (aL aa Z)<|wa (aC bNn Z (Ct.fresh (λw hw=>aAf G))) ?_;rintro _ _⟨_,rfl,cm,ci,rfl,rfl⟩;refine bC (v:=sl cm ((smp s.length).length) ci) Z<|wn Z<|wq<|wm Z<|wn Z<|aD<|wq<|wn Z<|aG ?_;refine CV (λ(b:Int) (A1:AF) (n1:Nat) (c1:Nat) (O:AH) (A6:AF) (n6:Nat) (c6:Nat) (j:Nat) (Rs:List Row)=>[(0,sl dj s.length dg),(1,I k),(4,sl A1 n1 c1),(6,sl A6 n6 c6),(7,I b)]) (λb A1 n1 c1 O A6 n6 c6 j Rs=>((ri 3 none 0 0 ([]))::Rs)) (λb A1 n1 c1 O A6 n6 c6 j Rs=>(b=2-j)/\(j<=3)/\(O=bIx s k j)/\(n1=O.length)/\(n6=(smp s.length).length)/\(∀(B:Nat) (w0 w:World),Hp B w0 w Rs->Rd w A1 n1 c1 1 (ints .i64 O))/\(∀(B:Nat) (w0 w:World),Hp B w0 w Rs->Rd w A6 n6 c6 1 (ints .i64 (smp s.length)))) (λb A1 n1 c1 O A6 n6 c6 j Rs=>(b+1).toNat) ?_ ?_
 ·exact⟨2,cm,(smp s.length).length,ci,(smp s.length),cm,(smp s.length).length,ci,0,((ri 3 cm ((smp s.length).length) ci (smp s.length))::[]),⟨G,G,(Z),(Z),(Z),(λB w0 w h=>rdr 0 Z w h),(λB w0 w h=>rdr 0 Z w h)⟩,SA,λ_ h=>h.selR (F:=[_,_]) (F':=[_,_]) [1,0] cC Z⟩
 intro b A1 n1 c1 O A6 n6 c6 j Rs ⟨hj,hj3,hO,cj,hn6,h4,h6⟩;have Hv:=GZ dq.2 dq.1.1 j hj3;rw[<-hO] at Hv;have Yw:=Hv.length_eq;rw[DN] at Yw;refine aD<|wq<|wm Z<|wy (iL Z Z)<|aA<|aX Z (λar=> ?_) (λar=> ?_)
 ·have vx:0<=b/\b<=2:=G
  have tk:O.length=(dD O (iA s b) (k+1).toNat).length:=((rG dq.2 dq.1.1 vx.1 (λx hx=>oU (Hv.subset hx))).length_eq).symm;refine aI<|aD<|aG<|aK<|wm Z<|wm Z<|wm Z<|wa (aC bHw Z (Ct.fresh (λw hw=>UX ((co.c _) w hw) G xf G))) ?_;rintro _ _⟨_,rfl,dv,dy,rfl,rfl⟩;refine wm Z<|wA Z Z<|wa (aC QH Z (Ct.fresh (λw hw=>vS ((λ_ h=>h4 _ _ _ (h.right (R':=[_,_]))) w hw) ((rdr 0 Z) w hw) G (aBx dq.2 dq.1.1 G) (λx hx=>by have:=oU (Hv.subset hx);rw[IU];omega) G))) ?_;rintro _ _⟨_,rfl,gv,jn,rfl,rfl⟩;refine wm Z<|wX Z Z<|wX Z Z<|wn Z<|aK<|wm Z<|wS Z Z<|wn Z ?_;exact⟨b-1,gv,(O).length,jn,(dD O (iA s b) (k+1).toNat),A6,n6,c6,(j+1),((ri 3 gv ((O).length) jn (dD O (iA s b) ((k+1)).toNat))::Rs),⟨G,G,(by rw[hO,hj];rfl),(tk),(hn6),(λB w0 w h=>rdr 0 Z w h),(λB w0 w h=>h6 B w0 w h.tail)⟩,G,SA,λ_ h=>h.selR (F:=[_,_,_]) (F':=[_,_]) [2,0] cC Z⟩
 ·have hO3:O=bIy s k:=by rw[hO,show j=3 by omega];rfl
  have hOs:=aEz dq.2 dq.1.1;rw[<-hO3] at hOs;refine aR<|wq<|wm Z<|wy (aL aa Z)<|wA Z Z<|wa (dK aa zb3 Z Z) ?_;rintro _ _⟨mv,rfl,rfl⟩;refine bC (v:=sl (GG mv) (((s.length:Int)+3).toNat) (((s.length:Int)+3).toNat)) Z<|wn Z<|wq<|wn Z<|aD<|wq<|wm Z<|wy (aL aa Z)<|wm Z<|aA<|aG ?_;refine fZ (λ(q:Int) (n:Int) (V:AH)=>[(0,sl dj s.length dg),(4,sl A1 n1 c1),(5,sl (GG mv) (((s.length:Int)+3).toNat) (((s.length:Int)+3).toNat)),(6,sl A6 n6 c6),(8,I n),(43,sl A1 n1 c1),(44,I (n1:Int)),(45,I q)]) (λq n V=>((ri 3 (GG mv) (((s.length:Int)+3).toNat) (((s.length:Int)+3).toNat) V)::(ri 3 none 0 0 ([]))::Rs)) (λq n V=>(0<=q)/\(q<=O.length)/\(RkI s O V q n)) (λq n V=>(O.length-q).toNat) ?_ ?_
  ·exact⟨0,0,List.replicate (((s.length:Int)+3).toNat) (0:Int),⟨G,G,(by rw[show((s.length:Int)+3).toNat=s.length+3 by omega];exact aUs)⟩,KP⟩
  intro q n V ⟨ij,yi,hI⟩;have kc:=hI.len;have hnq:=hI.nq;have Ox:=hI.n0;refine wq<|wL Z Z<|aA<|aD<|aX Z (λbx=> ?_) (λbx=> ?_)
  ·have Nj:0<=q-> ∀p:Int,0<=p->p<O.length->0<=rd O p/\rd O p<s.length:=λ_ p a b=>oU (Hv.subset (bG a b));refine aI<|aD<|aG<|wq<|wm Z<|wy (aF aa sz3 Z Z (λ_ h=>h4 _ _ _ (h.right (R':=[_,_]))))<|wy (aT au Z Z (λ_ h=>h4 _ _ _ (h.right (R':=[_,_]))))<|wg Z<|wn Z<|aD<|wq<|wm Z ?_;refine wy (eT Z Z)<|wm Z<|bR 10 [(0,sl dj s.length dg),(4,sl A1 n1 c1),(5,sl (GG mv) (((s.length:Int)+3).toNat) (((s.length:Int)+3).toNat)),(6,sl A6 n6 c6),(8,I n),(10,I (rd O q)),(43,sl A1 n1 c1),(44,I (n1:Int)),(45,I q),(62, .bool (decide ((q=0)\/(¬(SS s (rd O (q-1)) (rd O q))))))] ((ri 3 (GG mv) (((s.length:Int)+3).toNat) (((s.length:Int)+3).toNat) V)::(ri 3 none 0 0 ([]))::Rs) ?_ ?_
   ·refine bJ 52 Z (λef=> ?_) (λef=> ?_)
    ·refine aM Z Z Z Z<|aM Z Z Z Z<|aM Z Z Z Z<|aM Z Z Z Z<|aM Z Z Z Z<|aM Z Z Z Z<|aM Z Z Z Z<|aM Z Z Z Z<|aM Z Z Z Z<|wy (aS Z Z)<|aA ?_;exact KP
    ·refine aB Z Z<|wm Z<|aB Z Z<|wm Z<|aB Z Z<|wm Z<|aB Z Z<|wS Z Z<|aB Z Z<|wy (aF aa sz3 Z Z (λ_ h=>h4 _ _ _ (h.right (R':=[_,_]))))<|aB Z Z<|wy (aT au Z Z (λ_ h=>h4 _ _ _ (h.right (R':=[_,_]))))<|aB Z Z<|wm Z<|aB Z Z ?_;refine wa (aC bNm Z (Ct.quiet (λw hw=>aJd ((co.c _) w hw) (by have:=Nj ij (q-1) G G;omega) (by have:=Nj ij q G G;omega) xf))) ?_;rintro _ _⟨rfl,rfl⟩;refine aB Z Z<|wy (uC Z)<|wy (aN Z Z)<|aA ?_;exact KP
   refine aA<|aX Z (λfm=> ?_) (λfm=> ?_)
   ·refine aK<|wm Z<|wA Z Z<|wn Z<|aK<|wm Z<|wm Z<|wm Z<|wy (aF aa sz3 Z Z (rdr 0 Z) (by have:=Nj ij q G G;omega) (by have:=Nj ij q G G;omega)) ?_;refine bZ (bE 0 Z sz3 Z Z (by have:=Nj ij q G G;omega) (by have:=Nj ij q G G;omega)) ?_;rintro _ _ rfl;refine aA<|aK<|wA Z Z<|wm Z<|aA ?_;exact⟨q+1,n+1,upd V (rd O q) (n+1),⟨G,G,(hI.step Hv ij G (.inl ⟨Z,bKf nn Hv hOs ij G fm⟩))⟩,G,KP⟩
   ·refine aI<|aK<|wm Z<|wm Z<|wm Z<|wy (aF aa sz3 Z Z (rdr 0 Z) (by have:=Nj ij q G G;omega) (by have:=Nj ij q G G;omega)) ?_;refine bZ (bE 0 Z sz3 Z Z (by have:=Nj ij q G G;omega) (by have:=Nj ij q G G;omega)) ?_;rintro _ _ rfl;refine aA<|aK<|wA Z Z<|wm Z<|aA ?_;exact⟨q+1,n,upd V (rd O q) n,⟨G,G,(hI.step Hv ij G (.inr ⟨Z,bKc nn Hv ij G fm⟩))⟩,G,KP⟩
  ·have Yt:RkI s O V O.length n:=by have e:q=O.length:=G;rw[<-e];exact hI
   refine aR<|aD<|wq<|wm Z<|wm Z<|wy (aL aa Z)<|wy (eT Z Z)<|aA<|aX Z (λjt=> ?_) (λjt=> ?_)
   ·refine wq<|wm Z<|wm Z<|wg Z<|wn Z<|aU [0] 2 ?_;refine⟨_,_,Z,Z,?_⟩;obtain rfl:=cj;have Ve:((s.length:Int)+3).toNat=V.length:=by have:=Yt.len;omega
    exact⟨O,V,_,_,_,_,_,Z,Ve,Yt.all Hv G,λB w0 w h=>h4 B w0 w h.tail,λB w0 w h=>by rw[<-Ve];exact rdr 0 rfl w h⟩
   ·have hF:=Yt.done Hv;have h4l:4<=s.length:=Jw.1 λg=>jt (by have:=Yt.short Hv h2 G;omega);refine aI<|wq<|wm Z<|wy (aL aa Z)<|wa (aC VG Z (Ct.fresh (λw hw=>nE cE G))) ?_;rintro _ _⟨_,rfl,dt,du,rfl,rfl⟩;refine bC (v:=sl dt ((plc s.length 1).length) du) Z<|wn Z<|wq<|eZ (ri 3 none 0 0 ([]))<|wn Z<|aD<|wq<|wm Z<|wy (aL aa Z)<|wm Z<|aA ?_;refine aG ?_;refine fE (λ(A2:AF) (n2:Nat) (c2:Nat) (a2:AH) (i:Int)=>[(0,sl dj s.length dg),(5,sl (GG mv) (((s.length:Int)+3).toNat) (((s.length:Int)+3).toNat)),(6,sl A6 n6 c6),(8,I n),(11,sl dt ((plc s.length 1).length) du),(12,sl A2 n2 c2),(79,sl dt ((plc s.length 1).length) du),(80,I (((plc s.length 1).length:Nat):Int)),(81,I i)]) (λA2 n2 c2 a2 i=>((ri 3 A2 n2 c2 a2)::(ri 3 dt ((plc s.length 1).length) du (plc s.length 1))::(ri 3 (GG mv) (((s.length:Int)+3).toNat) (((s.length:Int)+3).toNat) V)::(ri 3 none 0 0 ([]))::Rs)) (λA2 n2 c2 a2 i=>(n2=a2.length)/\(0<=i)/\(i<=(plc s.length 1).length)/\(a2=((plc s.length 1).take i.toNat).map (rd V))) (λA2 n2 c2 a2 i=>((plc s.length 1).length-i).toNat) ?_ ?_
    ·exact⟨none,0,0,[],0,⟨(Z),G,G,(Z)⟩,KP⟩
    intro A2 n2 c2 a2 i ⟨nh,aw,ff,Rh⟩;have Ok:=bq List.length Rh;rw[bu,ax] at Ok;refine wq<|wL Z Z<|aA<|aD<|aX Z (λwi=> ?_) (λwi=> ?_)
    ·have Tp:=(lD (n:=s.length) (r:=1) G).1 (bG (L:=plc s.length 1) aw G);refine aI<|aD<|aG<|wq<|wy (aF aa sz3 Z Z (rdr 1 Z))<|wy (aT au Z Z (rdr 1 Z))<|wn Z<|aK<|wm Z<|wm Z<|wm Z<|wy (aF aa sz3 Z Z (rdr 2 Z))<|wy (aT au Z Z (rdr 2 Z)) ?_;refine wa (bF .i64 [rd V (rd (plc s.length 1) i)] aa zs3 Z Z Z) ?_;rintro _ _⟨pm,rfl,rfl⟩;refine wa (aQ 1 Z aa zb3 Z Z Z (rdr 0 Z)) ?_;rintro _ _⟨gh,gi,rfl,rfl⟩;refine bC (v:=sl gh (n2+1) gi) Z<|wn Z<|aK<|wA Z Z<|wm Z<|aA ?_;exact⟨gh,n2+1,gi,a2++([rd V (rd (plc s.length 1) i)]),i+1,⟨(by simp only[ah,nh];try rfl),G,G,(by rw[dJ aw G,jc,Rh];rfl)⟩,G,SA,λ_ h=>h.selR (F:=[_,_,_,_,_]) (F':=[_,_,_,_]) [1,2,3,4] cC Z⟩
    ·refine aR<|wq<|wm Z<|wa (bF .i64 [0] aa zs3 Z Z Z) ?_;rintro _ _⟨Cp,rfl,rfl⟩;refine wa (aQ 1 Z aa zb3 Z Z Z (rdr 0 Z)) ?_;rintro _ _⟨xi,ob,rfl,rfl⟩;refine bC (v:=sl xi (n2+1) ob) Z<|wn Z<|aD<|wq<|wm Z<|wy (aL aa Z)<|wa (aC VG Z (Ct.fresh (λw hw=>nE cE G))) ?_;rintro _ _⟨_,rfl,jz,ka,rfl,rfl⟩;refine bC (v:=sl jz ((plc s.length 2).length) ka) Z<|wy (aL aa Z)<|wm Z<|aA<|aG ?_;refine fE (λ(A3:AF) (n3:Nat) (c3:Nat) (a3:AH) (u:Int)=>[(5,sl (GG mv) (((s.length:Int)+3).toNat) (((s.length:Int)+3).toNat)),(6,sl A6 n6 c6),(8,I n),(11,sl dt ((plc s.length 1).length) du),(12,sl A3 n3 c3),(98,sl jz ((plc s.length 2).length) ka),(99,I (((plc s.length 2).length:Nat):Int)),(100,I u)]) (λA3 n3 c3 a3 u=>((ri 3 jz ((plc s.length 2).length) ka (plc s.length 2))::(ri 3 (GG Cp) 1 1 ([0]))::(ri 3 A3 n3 c3 a3)::(ri 3 dt ((plc s.length 1).length) du (plc s.length 1))::(ri 3 (GG mv) (((s.length:Int)+3).toNat) (((s.length:Int)+3).toNat) V)::(ri 3 none 0 0 ([]))::Rs)) (λA3 n3 c3 a3 u=>(n3=a3.length)/\(0<=u)/\(u<=(plc s.length 2).length)/\(a3=((plc s.length 1).map (rd V)++[0])++((plc s.length 2).take u.toNat).map (rd V))) (λA3 n3 c3 a3 u=>((plc s.length 2).length-u).toNat) ?_ ?_
     ·exact⟨xi,n2+1,ob,a2++([0]),0,⟨(by simp only[ah,nh];try rfl),G,G,(by rw[Rh,bg G];simp)⟩,KP⟩
     intro A3 n3 c3 a3 u ⟨Zk,iu,vd,Ri⟩;have hal3:=bq List.length Ri;rw[ah,ah,bu,bu,ax,ic] at hal3;refine wq<|wL Z Z<|aA<|aD<|aX Z (λEk=> ?_) (λEk=> ?_)
     ·have Tp:=(lD (n:=s.length) (r:=2) G).1 (bG (L:=plc s.length 2) iu G);refine aI<|aD<|aG<|wq<|wy (aF aa sz3 Z Z (rdr 0 Z))<|wy (aT au Z Z (rdr 0 Z))<|wn Z<|aK<|wm Z<|wm Z<|wm Z<|wy (aF aa sz3 Z Z (rdr 4 Z))<|wy (aT au Z Z (rdr 4 Z)) ?_;refine wa (bF .i64 [rd V (rd (plc s.length 2) u)] aa zs3 Z Z Z) ?_;rintro _ _⟨g9,rfl,rfl⟩;refine wa (aQ 3 Z aa zb3 Z Z Z (rdr 0 Z)) ?_;rintro _ _⟨kd,ke,rfl,rfl⟩;refine bC (v:=sl kd (n3+1) ke) Z<|wn Z<|aK<|wA Z Z<|wm Z<|aA ?_;exact⟨kd,n3+1,ke,a3++([rd V (rd (plc s.length 2) u)]),u+1,⟨(by simp only[ah,Zk];try rfl),G,G,(by rw[dJ iu G,jc,Ri,dx];rfl)⟩,G,SA,λ_ h=>h.selR (F:=[_,_,_,_,_,_,_]) (F':=[_,_,_,_,_,_]) [1,2,3,4,5,6] cC Z⟩
     ·have j9:a3=blw s V:=by rw[Ri,bg G];rfl
      refine aR<|wq<|wn Z<|aD<|wq<|wm Z<|wm Z<|wA Z Z<|wa (aC bIb Z (Ct.fresh (λw hw=>IH ((rdr 2 Z) w hw) (by rw[j9,wE];omega) ⟨G,by rw[j9];exact bAv hF hI.n0⟩ (by rw[j9,wE];omega)))) ?_;rintro _ _⟨_,rfl,b1,rj,rr,rfl,dd,eh,rfl⟩;refine wy (aL aa Z)<|wm Z<|aA<|aG ?_;refine fE (λ(A4:AF) (n4:Nat) (c4:Nat) (a4:AH) (m:Int)=>[(4,sl A4 n4 c4),(5,sl (GG mv) (((s.length:Int)+3).toNat) (((s.length:Int)+3).toNat)),(6,sl A6 n6 c6),(11,sl dt ((plc s.length 1).length) du),(115,sl rj a3.length rr),(116,I (a3.length:Int)),(117,I m)]) (λA4 n4 c4 a4 m=>((ri 3 rj a3.length rr b1)::(ri 3 jz ((plc s.length 2).length) ka (plc s.length 2))::(ri 3 (GG Cp) 1 1 ([0]))::(ri 3 A3 n3 c3 a3)::(ri 3 dt ((plc s.length 1).length) du (plc s.length 1))::(ri 3 (GG mv) (((s.length:Int)+3).toNat) (((s.length:Int)+3).toNat) V)::(ri 3 A4 n4 c4 a4)::Rs)) (λA4 n4 c4 a4 m=>(n4=a4.length)/\(0<=m)/\(m<=b1.length)/\(a4=ofB s (b1.take m.toNat))) (λA4 n4 c4 a4 m=>(b1.length-m).toNat) ?_ ?_
      ·exact⟨none,0,0,[],0,⟨(Z),G,G,(Z)⟩,KP⟩
      intro A4 n4 c4 a4 m ⟨Zl,qn,mu,Lm⟩;have hbl1:b1.length=a3.length:=by rw[dd.length_eq,bA]
      have hal4:=bq List.length Lm;have hal5:=bEe (s:=s) (b1.take m.toNat);rw[ax] at hal5;refine wq<|wL Z Z<|aA<|aD<|aX Z (λVr=> ?_) (λVr=> ?_)
      ·have Zb:=aZ.1 (dd.subset (bG (L:=b1) qn G));rw[j9,wE] at Zb;refine aI<|aD<|aG<|wq<|wy (aF aa sz3 Z Z (rdr 0 Z))<|wy (aT au Z Z (rdr 0 Z))<|wn Z<|aG<|wq<|wm Z<|wm Z<|wy (aL aa Z) ?_;refine wL Z Z<|wn Z<|aX Z (λhc9=> ?_) (λhc9=> ?_)
       ·refine aK<|wm Z<|wm Z<|wm Z<|wy (aF aa sz3 Z Z (rdr 4 Z))<|wy (aT au Z Z (rdr 4 Z))<|wa (bF .i64 [rd (plc s.length 1) (rd b1 m)] aa zs3 Z Z Z) ?_;rintro _ _⟨g_30,rfl,rfl⟩;refine wa (aQ 7 Z aa zb3 Z Z Z (rdr 0 Z)) ?_;rintro _ _⟨Kk,Le,rfl,rfl⟩;refine bC (v:=sl Kk (n4+1) Le) Z<|wn Z<|aK<|wA Z Z<|wm Z<|aA ?_;exact⟨Kk,n4+1,Le,a4++([rd (plc s.length 1) (rd b1 m)]),m+1,⟨(by simp only[ah,Zl];try rfl),G,G,(by rw[dJ qn G,aBj G,Lm,bLl Zb.1 G])⟩,G,SA,λ_ h=>h.selR (F:=[_,_,_,_,_,_,_,_]) (F':=[_,_,_,_,_,_,_]) [1,2,3,4,5,6,7] cC Z⟩
       ·refine wq<|wm Z<|wm Z<|wy (aL aa Z)<|wy (bW Z Z)<|wn Z<|aX Z (λhc10=> ?_) (λhc10=> ?_)
        ·refine aK<|wm Z<|wm Z<|wm Z<|wS Z Z<|wy (aF aa sz3 Z Z (λ_ h=>h6 _ _ _ (h.right (R':=[_,_,_,_,_,_,_]))))<|wy (aT au Z Z (λ_ h=>h6 _ _ _ (h.right (R':=[_,_,_,_,_,_,_]))))<|wa (bF .i64 [rd (smp s.length) ((rd b1 m)-1)] aa zs3 Z Z Z) ?_;rintro _ _⟨g_34,rfl,rfl⟩;refine wa (aQ 7 Z aa zb3 Z Z Z (rdr 0 Z)) ?_;rintro _ _⟨r7,s5,rfl,rfl⟩;refine bC (v:=sl r7 (n4+1) s5) Z<|wn Z<|aK<|wA Z Z<|wm Z<|aA ?_;exact⟨r7,n4+1,s5,a4++([rd (smp s.length) ((rd b1 m)-1)]),m+1,⟨(by simp only[ah,Zl];try rfl),G,G,(by rw[dJ qn G,aBj G,Lm,bLk G G])⟩,G,SA,λ_ h=>h.selR (F:=[_,_,_,_,_,_,_,_]) (F':=[_,_,_,_,_,_,_]) [1,2,3,4,5,6,7] cC Z⟩
        ·refine aI<|aK<|wA Z Z<|wm Z<|aA ?_;exact⟨A4,n4,c4,a4,m+1,⟨(by simp only[ah,Zl];try rfl),G,G,(by rw[dJ qn G,aBi G,Lm])⟩,G,KP⟩
      ·rw [j9] at dd eh;have hof:a4=ofB s b1:=by rw[Lm,bg G]
       have Sf:a4.Perm (smp s.length):=by rw[hof];exact aWo dd
       have hos4:a4.Pairwise (bV s):=by rw[hof];exact aGq hF hI.n0 dd eh
       refine aR<|aD<|wq<|wm Z<|wy (aL aa Z)<|wm Z<|aA<|aG ?_;refine dI (λ(z:Int) (V5:AH)=>[(4,sl A4 n4 c4),(5,sl (GG mv) (((s.length:Int)+3).toNat) (((s.length:Int)+3).toNat)),(147,sl A4 n4 c4),(148,I (n4:Int)),(149,I z)]) (λz V5=>((ri 3 rj a3.length rr b1)::(ri 3 jz ((plc s.length 2).length) ka (plc s.length 2))::(ri 3 (GG Cp) 1 1 ([0]))::(ri 3 A3 n3 c3 a3)::(ri 3 dt ((plc s.length 1).length) du (plc s.length 1))::(ri 3 (GG mv) (((s.length:Int)+3).toNat) (((s.length:Int)+3).toNat) V5)::(ri 3 A4 n4 c4 a4)::Rs)) (λz V5=>(0<=z)/\(z<=a4.length)/\(RkN s a4 V5 z)) (λz V5=>(a4.length-z).toNat) ?_ ?_
       ·exact⟨0,V,⟨G,G,(hF.zero _)⟩,KP⟩
       intro z V5 ⟨zc,c5,Yv⟩;have hV5:=Yv.len;refine wq<|wL Z Z<|aA<|aD<|aX Z (λhc11=> ?_) (λhc11=> ?_)
       ·have hzi:=oU (Sf.subset (bG (L:=a4) zc G));refine aI<|aD<|aG<|wq<|wm Z<|wy (aF aa sz3 Z Z (rdr 6 Z))<|wy (aT au Z Z (rdr 6 Z))<|wg Z<|wn Z<|aK<|wm Z<|wm Z<|wm Z ?_;refine wA Z Z<|wy (aF aa sz3 Z Z (rdr 5 Z))<|bZ (bE 5 Z sz3 Z Z) ?_;rintro _ _ rfl;refine aA<|aK<|wA Z Z<|wm Z<|aA ?_;exact⟨z+1,upd V5 (rd a4 z) (z+1),⟨G,G,(Yv.step Sf zc G)⟩,G,KP⟩
       ·refine aR<|wq<|wm Z<|wm Z<|wg Z<|wn Z<|bO (R1:=[(ri 3 A4 n4 c4 a4),(ri 3 (GG mv) (((s.length:Int)+3).toNat) (((s.length:Int)+3).toNat) V5)]) (λ_ h=>(h.selR (F:=[_,_,_,_,_,_,_]) (F':=[_,_]) [6,5] cC Z).left (X:=[_,_])) ?_;refine⟨_,_,Z,Z,?_⟩;obtain rfl:=Zl;have Ve:((s.length:Int)+3).toNat=V5.length:=by have:=Yv.len;omega
        have hNe:RkN s a4 V5 a4.length:=by have e:z=a4.length:=G;rw[<-e];exact Yv
        exact⟨a4,V5,_,_,_,_,_,Z,Ve,hNe.done Sf hos4,λB w0 w h=>rdr 0 Z w h,λB w0 w h=>by rw[<-Ve];exact rdr 1 rfl w h⟩
theorem aVo {l:AH} {a:Int} (h0:0<=a):rd (l.drop a.toNat) 0=rd l a:=by
 unfold rd;rw[ai,ai,sj];rfl
theorem KO {w:World} {s:AH} (co:Rd w dj ie dg 1 (ints .i64 s)) (IH: ∀ {w:World} {pe:AF} {se pj:Nat} {t:AH} {j:Int},Rd w pe se pj 1 (ints .i64 t)->t.length<s.length->((0<=j/\j<=1000000)/\ ∀x∈t,0<=x/\x<j)->t.length<=100000->CF 200 #[sl pe se pj,I j] w (λv R'=> ∃(b:AH) (A:AF) (c:Nat),v=sl A t.length c/\b.Perm (iota t.length)/\b.Pairwise (bV t)/\R'=[(ri 3 A t.length c b)])) (dq:(0<=k/\k<=1000000)/\ ∀x∈s,0<=x/\x<k) (hN:s.length<=100000):
  CF 200 #[sl dj ie dg,I k] w (λv R'=> ∃(b:AH) (A:AF) (c:Nat),v=sl A s.length c/\b.Perm (iota s.length)/\b.Pairwise (bV s)/\R'=[(ri 3 A s.length c b)]):=by
 obtain rfl:=co.lenI;refine fn1 Tryz.func200 Z Z Z ?_;have l3:=co.max;have xf: ∀x∈s,0<=x/\x<=1000000:=λx hx=>by have:=dq.2 x hx;omega
 have lp0:=kP s.length 0;have lsm:=DN s.length;refine wq<|wn Z<|aD<|wq<|wm Z<|wy (aL aa Z)<|wL Z Z<|aA<|aX Z (λar=> ?_) (λar=> ?_)
 ·refine wq<|wm Z<|wy (aL aa Z)<|wa (aC VG Z (Ct.fresh (λw hw=>nE cE G))) ?_;rintro _ _⟨_,rfl,cm,ci,rfl,rfl⟩;refine bC (v:=sl cm ((plc s.length 0).length) ci) Z<|wm Z<|wy (aL aa Z)<|wy (eD aa sz3 Z Z (rdr 0 Z))<|wn Z<|bO (R1:=[(ri 3 cm ((plc s.length 0).length) ci (plc s.length 0))]) (λ_ h=>(h.selR (F:=[_]) (F':=[_]) [0] cC Z).left (X:=[_])) ?_;refine⟨_,Z,?_⟩;rw[aOw (show s.length<2 by omega),bA];exact⟨_,_,_,Z, .refl _,bJr G,Z⟩
 ·refine aI<|wq<|wm Z<|wm Z<|wa (aC bNx Z (Ct.fresh (λw hw=>SI ((co.c _) w hw) IH dq hN G))) ?_;rintro _ _⟨Rn,rfl,o1,V1,dv,gv,dy,jn,_,rfl,rfl,Hx,Pf,o7⟩;refine iU (R1:=(Rn)) (Sub.refl _) (λ_ h=>Hp.toTail0 (X:=[]) (Y:=[]) h)<|wm Z<|wX Z Z<|wX Z Z<|wg Z<|wn Z<|wq<|wm Z<|wy (aL aa Z)<|wa (aC VG Z (Ct.fresh (λw hw=>nE cE G))) ?_;rintro _ _⟨_,rfl,iz,fj,rfl,rfl⟩;refine bC (v:=sl iz ((plc s.length 0).length) fj) Z<|wn Z<|wq<|wm Z<|wy (aL aa Z)<|wa (dK aa zb3 Z Z) ?_;rintro _ _⟨mv,rfl,rfl⟩;refine bC (v:=sl (GG mv) s.length s.length) Z<|wn Z<|aD<|wq<|wm Z<|wy (aL aa Z)<|wm Z<|aA<|aG ?_;refine dI (λ(i:Int) (V:AH)=>[(0,sl dj s.length dg),(1,I k),(5,sl dv o1.length dy),(6,sl gv V1.length jn),(7,sl iz ((plc s.length 0).length) fj),(8,sl (GG mv) s.length s.length),(35,I (s.length:Int)),(36,I i)]) (λi V=>((ri 3 (GG mv) s.length s.length V)::(ri 3 iz ((plc s.length 0).length) fj (plc s.length 0))::Rn)) (λi V=>(0<=i)/\(i<=s.length)/\(V.length=s.length)/\(∀j:Int,0<=j->j<i->rd V j=rd V1 (j+1))) (λi V=>(s.length-i).toNat) ?_ ?_
  ·exact⟨0,List.replicate s.length (0:Int),⟨G,G,(by rw[bz]),(λj h1 h2=>G)⟩,KP⟩
  intro i V ⟨aw,ff,kc,hV⟩;refine wq<|wL Z Z<|aA<|aD<|aX Z (λbx=> ?_) (λbx=> ?_)
  ·have hV1:=Hx.len;refine aI<|aD<|aG<|wq<|wm Z<|wn Z<|aK<|wm Z<|wm Z<|wm Z<|wm Z<|wA Z Z<|wy (aF aa sz3 Z Z (λ_ h=>o7 _ _ _ (h.right (R':=[_,_])))) ?_;refine wy (aT au Z Z (λ_ h=>o7 _ _ _ (h.right (R':=[_,_]))))<|wy (aF aa sz3 Z Z (rdr 0 Z))<|bZ (bE 0 Z sz3 Z Z) ?_;rintro _ _ rfl;refine aA<|aK<|wA Z Z<|wm Z<|aA ?_;exact⟨i+1,upd V i (rd V1 (i+1)),⟨G,G,(by rw[aY];exact kc),(fH (f:=λj=>rd V1 (j+1)) aw G hV Z)⟩,G,KP⟩
  ·have hB:V=bhd s V1:=bLo kc (λj h1 h2=>hV j h1 G);have h1p:=aWc Hx;have Yr:=OY Hx dq.2 dq.1.1;have Sh:=aGm Hx dq.2 dq.1.1;have Zm:=Hx.perm.length_eq;refine aR<|wq<|wm Z<|wm Z<|wm Z<|wy (aL aa Z)<|wA Z Z<|wa (aC QH Z (Ct.fresh (λw hw=>vS ((rdr 1 Z) w hw) ((rdr 0 Z) w hw) G (by rw[hB];exact bAx Hx) (λx hx=>by rw[lD G] at hx;omega) G))) ?_;rintro _ _⟨_,rfl,dt,du,rfl,rfl⟩;generalize i4:dD (plc s.length 0) V (((s.length:Int)+1)).toNat=ot1;refine wm Z<|wX Z Z<|wX Z Z<|wn Z<|wq<|wm Z<|wm Z<|wa (aC bHw Z (Ct.fresh (λw hw=>UX ((co.c _) w hw) G xf G))) ?_;rintro _ _⟨_,rfl,li,io,rfl,rfl⟩;refine wm Z<|wA Z Z<|wa (aC QH Z (Ct.fresh (λw hw=>vS ((rdr 1 Z) w hw) ((rdr 0 Z) w hw) G (aBx dq.2 dq.1.1 G) (λx hx=>by rw[<-i4,hB] at hx;have:=h1p.subset hx;rw[lD G] at this;rw[IU];omega) (by rw[<-i4,hB,h1p.length_eq];omega)))) ?_;rintro _ _⟨_,rfl,gh,gi,rfl,rfl⟩;generalize Rv:dD ot1 (iA s 0) ((k+1)).toNat=ot2;have Si:oth s V1 k=ot2:=by unfold oth;rw[<-hB,i4,Rv]
   rw[Si] at Yr Sh;have xd:=Yr.length_eq;have b7:ot1.length=ot2.length:=by rw[xd,<-i4,hB,h1p.length_eq]
   refine wm Z<|wX Z Z<|wX Z Z<|wn Z<|wq<|eZ (ri 3 none 0 0 ([]))<|wn Z<|aD<|wq<|wm Z<|wy (aL aa Z) ?_;refine wm Z<|aA<|aG ?_;refine WG (λ(q:Int) (x:Int) (AL:AF) (nL:Nat) (cL:Nat) (acc:AH) (AO:AF) (nO:Nat) (cO:Nat)=>[(0,sl dj s.length dg),(5,sl AO nO cO),(6,sl gv V1.length jn),(10,sl AL nL cL),(66,sl gh ((ot1).length) gi),(67,I (((ot1).length:Nat):Int)),(68,I q)]) (λq x AL nL cL acc AO nO cO=>((ri 3 AL nL cL acc)::(ri 3 gh ((ot1).length) gi ot2)::(ri 3 li ((s).length) io (iA s 0))::(ri 3 dt (((plc s.length 0)).length) du ot1)::(ri 3 (GG mv) s.length s.length V)::(ri 3 iz ((plc s.length 0).length) fj (plc s.length 0))::Rn)) (λq x AL nL cL acc AO nO cO=>(0<=q)/\(q<=ot2.length)/\(0<=x)/\(x<=o1.length)/\(MgI s o1 ot2 acc x q)/\(nL=acc.length)/\(nO=(o1.drop x.toNat).length)/\(∀(B:Nat) (w0 w:World),Hp B w0 w Rn->Rd w AO nO cO 1 (ints .i64 (o1.drop x.toNat)))) (λq x AL nL cL acc AO nO cO=>(ot2.length-q).toNat) ?_ ?_
   ·exact⟨0,0,none,0,0,[],dv,o1.length,dy,⟨G,G,G,G,(aWv),(Z),(Z),(Pf)⟩,KP⟩
   intro q x AL nL cL acc AO nO cO ⟨ij,yi,hx0,g7,hM,hnL,hnO,h5⟩;have mw:=hM.len hx0 g7 ij yi;refine wq<|wL Z Z<|aA<|aD<|aX Z (λef=> ?_) (λef=> ?_)
   ·have hqq:q<ot2.length:=G
    have hqm:=(lD G).1 (Yr.subset (bG (L:=ot2) ij hqq));have hqj:(0<=rd ot2 q/\rd ot2 q<s.length)/\rd ot2 q%3=0:=G
    refine aI<|aD<|aG<|wq<|wy (aF aa sz3 Z Z (rdr 1 Z))<|wy (aT au Z Z (rdr 1 Z))<|wn Z<|aD<|aG ?_;refine vK (λ(y:Int) (AM:AF) (nM:Nat) (cM:Nat) (zp:AH) (AP:AF) (nP:Nat) (cP:Nat)=>[(0,sl dj s.length dg),(5,sl AP nP cP),(6,sl gv V1.length jn),(10,sl AM nM cM),(12,I (rd ot2 q)),(66,sl gh ((ot1).length) gi),(67,I (((ot1).length:Nat):Int)),(68,I q)]) (λy AM nM cM zp AP nP cP=>((ri 3 AM nM cM zp)::(ri 3 gh ((ot1).length) gi ot2)::(ri 3 li ((s).length) io (iA s 0))::(ri 3 dt (((plc s.length 0)).length) du ot1)::(ri 3 (GG mv) s.length s.length V)::(ri 3 iz ((plc s.length 0).length) fj (plc s.length 0))::Rn)) (λy AM nM cM zp AP nP cP=>(0<=y)/\(y<=o1.length)/\(MgI s o1 ot2 zp y q)/\(nM=zp.length)/\(nP=(o1.drop y.toNat).length)/\(∀(B:Nat) (w0 w:World),Hp B w0 w Rn->Rd w AP nP cP 1 (ints .i64 (o1.drop y.toNat)))) (λy AM nM cM zp AP nP cP=>(o1.length-y).toNat) ?_ ?_
    ·exact⟨x,AL,nL,cL,acc,AO,nO,cO,⟨G,G,(hM),(hnL),(hnO),(h5)⟩,KP⟩
    intro y AM nM cM zp AP nP cP ⟨Ya,hy1,Uz,hnM,hnP,h6⟩;have Ok:=Uz.len Ya hy1 ij G;have hnP2:=hnP;rw[bn] at hnP2;have e0:=aVo (l:=o1) Ya
    have hoi:y<o1.length->(0<=rd (o1.drop y.toNat) 0/\rd (o1.drop y.toNat) 0<s.length)/\rd (o1.drop y.toNat) 0%3≠0:=λh=>by
     have:=mU.1 (Hx.perm.subset (bG Ya h));rw[e0];omega
    refine aD<|wq<|wm Z<|wy (aL aa Z)<|wy (bW Z Z)<|wm Z<|bR 8 [(0,sl dj s.length dg),(5,sl AP nP cP),(6,sl gv V1.length jn),(10,sl AM nM cM),(12,I (rd ot2 q)),(66,sl gh ((ot1).length) gi),(67,I (((ot1).length:Nat):Int)),(68,I q),(83, .bool (decide ((0<(nP:Int))/\(cmpL ((s).drop ((rd (o1.drop y.toNat) 0)).toNat) ((s).drop ((rd ot2 q)).toNat)<0))))] ((ri 3 AM nM cM zp)::(ri 3 gh ((ot1).length) gi ot2)::(ri 3 li ((s).length) io (iA s 0))::(ri 3 dt (((plc s.length 0)).length) du ot1)::(ri 3 (GG mv) s.length s.length V)::(ri 3 iz ((plc s.length 0).length) fj (plc s.length 0))::Rn) ?_ ?_
    ·refine bJ 75 Z (λfm=> ?_) (λfm=> ?_)
     ·refine aB Z Z<|wm Z<|aB Z Z<|wm Z<|aB Z Z<|wm Z<|aB Z Z<|wy (aF aa sz3 Z Z (λ_ h=>h6 _ _ _ (h.right (R':=[_,_,_,_,_,_]))))<|aB Z Z<|wy (aT au Z Z (λ_ h=>h6 _ _ _ (h.right (R':=[_,_,_,_,_,_]))))<|aB Z Z<|wm Z<|aB Z Z<|wa (aC bNw Z (Ct.quiet (λw hw=>aPo ((co.c _) w hw) ((λ_ h=>o7 _ _ _ (h.right (R':=[_,_,_,_,_,_]))) w hw) Hx (hoi G) hqj xf G))) ?_;rintro _ _⟨rfl,rfl⟩;refine wy (aS Z Z)<|aA ?_;exact KP
     ·refine aM Z Z Z Z<|aM Z Z Z Z<|aM Z Z Z Z<|aM Z Z Z Z<|aM Z Z Z Z<|aM Z Z Z Z<|aM Z Z Z Z<|wy (aN Z Z)<|aA ?_;exact KP
    refine aA<|aX Z (λjt=> ?_) (λjt=> ?_)
    ·have Zq:y<o1.length:=G
     have Iv:=iI.1 jt.2;rw[e0] at Iv;refine aI<|aG<|bD mixed<|wD 0 Z (aJ Z)<|wD 1 Z (aJ Z)<|wD 2 Z (aF aa sz3 Z Z (λ_ h=>h6 _ _ _ (h.right (R':=[_,_,_,_,_,_]))))<|wD 3 Z (aT au Z Z (λ_ h=>h6 _ _ _ (h.right (R':=[_,_,_,_,_,_]))))<|wD 6 Z (aJ Z)<|wD 7 Z (dH aa sz3 Z Z)<|wC 4 Z (bF .i64 [rd (o1.drop y.toNat) 0] aa zs3 Z Z Z) ?_;rintro _ _⟨Cp,rfl,rfl⟩;refine⟨.inr hrZ,?_⟩;refine wC 5 Z (aQ 1 Z aa zb3 Z Z Z (rdr 0 Z)) ?_;rintro _ _⟨xi,ob,rfl,rfl⟩;refine⟨.inl cA,?_⟩;refine fM (v:=sl xi (nM+1) ob) Z<|wD 8 Z (aW Z)<|wD 9 Z (aW Z)<|wN ?_
     exact⟨(y+1),xi,nM+1,ob,zp++([rd (o1.drop y.toNat) 0]),jO AP (1:Int).toNat cP 1,nP-(1:Int).toNat,cP-(1:Int).toNat,⟨G,G,(by rw[e0];exact Uz.left Hx.sorted Sh Ya G ij hqq Iv),(by rw[ah,hnM];rfl),(by rw[bn] at hnP ⊢;omega),(λB w0 w h=>by
        have g:=RdC.fromI (l:=(1:Int).toNat) (h6 B w0) G w h;rw[Ho,show y.toNat+(1:Int).toNat=(y+1).toNat by omega] at g
        exact g)⟩,G,SA,λ_ h=>h.selR (F:=[_,_,_,_,_,_,_]) (F':=[_,_,_,_,_,_]) [1,2,3,4,5,6] cC Z⟩
    ·have Gk:y<o1.length->bV s (rd ot2 q) (rd o1 y):=λh=>by
      have h1:=hoi h;rw[e0] at h1 jt;rcases EJ h1.1 hqj.1 G with g|g
      ·exact absurd ⟨G,iI.2 g⟩ jt
      ·exact g
     refine aR<|aK<|wm Z<|wm Z<|wa (bF .i64 [rd ot2 q] aa zs3 Z Z Z) ?_;rintro _ _⟨qs,rfl,rfl⟩;refine wa (aQ 1 Z aa zb3 Z Z Z (rdr 0 Z)) ?_;rintro _ _⟨mj,ml,rfl,rfl⟩;refine bC (v:=sl mj (nM+1) ml) Z<|wn Z<|aK<|wA Z Z<|wm Z<|aA ?_;exact⟨q+1,y,mj,nM+1,ml,zp++([rd ot2 q]),AP,nP,cP,⟨G,G,G,G,(Uz.right Hx.sorted Sh Ya ij G Gk),(by rw[ah,hnM];rfl),(hnP),(h6)⟩,G,SA,λ_ h=>h.selR (F:=[_,_,_,_,_,_,_]) (F':=[_,_,_,_,_,_]) [1,2,3,4,5,6] cC Z⟩
   ·refine aR<|wq<|wm Z<|wm Z<|wa (aQ 0 Z aa zb3 Z Z Z (λ_ h=>h5 _ _ _ (h.right (R':=[_,_,_,_,_,_]))) (by have:=hnO;rw[bn] at this;omega)) ?_;rintro _ _⟨kd,ke,rfl,rfl⟩;refine bC (v:=sl kd (nL+nO) ke) Z<|wn Z<|bO (R1:=[(ri 3 kd (nL+nO) ke (acc++(o1.drop x.toNat)))]) (λ_ h=>(h.selR (F:=[_,_,_,_,_,_]) (F':=[_]) [0] cC Z).left (X:=[_])) ?_;refine⟨_,Z,?_⟩;have hd:=hM.done Hx.sorted G Hx.perm Yr;have e:nL+nO=s.length:=by have:=hd.1.length_eq;rw[bA,ah] at this;omega
    rw[e];exact⟨_,_,_,Z,hd.1,hd.2,Z⟩
theorem aAa (m:Nat): ∀ {w:World} {dj:AF} {ie dg:Nat} {s:AH} {k:Int},Rd w dj ie dg 1 (ints .i64 s)->s.length<m->((0<=k/\k<=1000000)/\ ∀x∈s,0<=x/\x<k)->s.length<=100000->
  CF 200 #[sl dj ie dg,I k] w (λv R'=> ∃(b:AH) (A:AF) (c:Nat),v=sl A s.length c/\b.Perm (iota s.length)/\b.Pairwise (bV s)/\R'=[(ri 3 A s.length c b)]):=by
 induction m with
 |zero=>intro w A n c s k _ h;omega
 |succ m ih=>
  intro w A n c s k co hm dq hN;exact KO co (λh1 h2 h3 h4=>ih h1 G h3 h4) dq hN
theorem RZ {s:AH} (co:Rd w dj ie dg 1 (ints .i64 s)) (dq:(0<=k/\k<=1000000)/\ ∀x∈s,0<=x/\x<k) (hN:s.length<=100000):
  CF 200 #[sl dj ie dg,I k] w (λv R'=> ∃(b:AH) (A:AF) (c:Nat),v=sl A s.length c/\b.Perm (iota s.length)/\b.Pairwise (bV s)/\R'=[(ri 3 A s.length c b)]):=aAa (s.length+1) co G dq hN
theorem RX {s:AH} (co:Rd w dj ie dg 1 (ints .i64 s)) (hs: ∀x∈s,0<=x/\x<1048576) (hN:s.length<=100000):
  CF 201 #[sl dj ie dg] w (λv R'=> ∃(m:Int) (A:AF) (c:Nat),v=sl A s.length c/\(∀x∈s,0<=x/\x<=m)/\R'=[(ri 3 A s.length c (sqz s m))]):=by
 obtain rfl:=co.lenI;refine fn1 Tryz.func201 Z Z Z ?_;have l3:=co.max;refine wq<|wn Z<|wq<|wn Z<|aD<|wq<|wm Z<|wy (aL aa Z)<|wm Z<|aA ?_;refine aG ?_;refine dI (λ(i:Int) (m:Int)=>[(0,sl dj s.length dg),(3,I m),(13,sl dj s.length dg),(14,I (s.length:Int)),(15,I i)]) (λi m=>[]) (λi m=>(0<=i)/\(i<=s.length)/\(0<=m)/\(m<=1048575)/\(∀x∈s.take i.toNat,x<=m)) (λi m=>(s.length-i).toNat) ?_ ?_
 ·exact⟨0,0,⟨G,G,G,G,(λx hx=>by cases hx)⟩,KP⟩
 intro i m ⟨aw,ff,qn,hmk,Qi⟩;refine wq<|wL Z Z<|aA<|aD<|aX Z (λar=> ?_) (λar=> ?_)
 ·have hsi:=hs _ (bG (L:=s) aw G);refine aI<|aD<|aG<|wq<|wy (aF aa sz3 Z Z (co.c _))<|wy (aT au Z Z (co.c _))<|wn Z<|aK<|wm Z<|wm Z<|wy (MM Z Z)<|wn Z ?_;refine aK<|wA Z Z<|wm Z<|aA ?_
  exact⟨i+1,max m (rd s i),⟨G,G,G,G,(λx hx=>by
    rw[dJ aw G] at hx;rcases ek.1 hx with hx|hx
    ·have:=Qi x hx;omega
    ·rw[ig.1 hx];omega)⟩,G,KP⟩
 ·rw [bg G] at Qi;refine aR<|wq<|wm Z<|wA Z Z<|wa (dK aa zb3 Z Z) ?_;rintro _ _⟨ap,rfl,rfl⟩;refine bC (v:=sl (GG ap) ((m+1).toNat) ((m+1).toNat)) Z<|wn Z<|aD<|wq<|wm Z<|wy (aL aa Z)<|wm Z<|aA<|aG ?_;refine dI (λ(j:Int) (V:AH)=>[(0,sl dj s.length dg),(6,sl (GG ap) ((m+1).toNat) ((m+1).toNat)),(26,sl dj s.length dg),(27,I (s.length:Int)),(28,I j)]) (λj V=>[(ri 3 (GG ap) ((m+1).toNat) ((m+1).toNat) V)]) (λj V=>(0<=j)/\(j<=s.length)/\(V=thr (s.take j.toNat) m)) (λj V=>(s.length-j).toNat) ?_ ?_
  ·exact⟨0,List.replicate ((m+1).toNat) (0:Int),⟨G,G,((bCf m).symm)⟩,KP⟩
  intro j V ⟨tj,w4,hV⟩;refine wq<|wL Z Z<|aA<|aD<|aX Z (λbx=> ?_) (λbx=> ?_)
  ·have hsj:0<=rd s j/\rd s j<=m:=⟨(hs _ (bG (L:=s) tj G)).1,Qi _ (bG (L:=s) tj G)⟩;have kc:V.length=(m+1).toNat:=by rw[hV,lC]
   refine aI<|aD<|aG<|wq<|wy (aF aa sz3 Z Z (co.c _))<|wy (aT au Z Z (co.c _))<|wn Z<|aK<|wm Z<|wm Z<|wy (aF aa sz3 Z Z (rdr 0 Z))<|bZ (bE 0 Z sz3 Z Z) ?_;rintro _ _ rfl;refine aA<|aK<|wA Z Z<|wm Z<|aA ?_;exact⟨j+1,upd V (rd s j) 1,⟨G,G,(by rw[dJ tj G,<-aTm hsj.1 hsj.2,<-hV])⟩,G,KP⟩
  ·have Vf:V=thr s m:=by rw[hV,bg G]
   have Oe:(dO V).length=(m+1).toNat:=by rw[gH,Vf,lC]
   refine aR<|wq<|wm Z<|wa (aC aLt Z (Ct.fresh (λw hw=>zA ((rdr 0 Z) w hw) (by rw[Vf];exact aTn s m) (by rw[Vf];have:=bCe s m;omega) (by rw[Vf,lC];omega)))) ?_;rintro _ _⟨_,rfl,o4,o5,rfl,rfl⟩;refine wn Z<|wq<|wm Z<|wy (aL aa Z)<|wa (dK aa zb3 Z Z) ?_;rintro _ _⟨tg,rfl,rfl⟩;refine bC (v:=sl (GG tg) s.length s.length) Z<|wn Z<|aD<|wq<|wm Z<|wy (aL aa Z)<|wm Z<|aA<|aG ?_;refine dI (λ(z:Int) (U:AH)=>[(9,sl o4 ((dO V).length) o5),(10,sl (GG tg) s.length s.length),(41,sl dj s.length dg),(42,I (s.length:Int)),(43,I z)]) (λz U=>[(ri 3 (GG tg) s.length s.length U),(ri 3 o4 ((dO V).length) o5 (dO V)),(ri 3 (GG ap) ((m+1).toNat) ((m+1).toNat) V)]) (λz U=>(0<=z)/\(z<=s.length)/\(U.length=s.length)/\(∀j:Int,0<=j->j<z->rd U j=rd (dO (thr s m)) (rd s j))) (λz U=>(s.length-z).toNat) ?_ ?_
   ·exact⟨0,List.replicate s.length (0:Int),⟨G,G,(by rw[bz]),(λj h1 h2=>G)⟩,KP⟩
   intro z U ⟨zc,c5,Lk,hU⟩;refine wq<|wL Z Z<|aA<|aD<|aX Z (λef=> ?_) (λef=> ?_)
   ·have hsz:0<=rd s z/\rd s z<=m:=⟨(hs _ (bG (L:=s) zc G)).1,Qi _ (bG (L:=s) zc G)⟩;refine aI<|aD<|aG<|wq<|wm Z<|wy (aF aa sz3 Z Z (co.c _))<|wy (aT au Z Z (co.c _))<|wg Z<|wn Z<|aK<|wm Z<|wm Z<|wm Z ?_;refine wm Z<|wy (aF aa sz3 Z Z (rdr 1 Z))<|wy (aT au Z Z (rdr 1 Z))<|wy (aF aa sz3 Z Z (rdr 0 Z))<|bZ (bE 0 Z sz3 Z Z) ?_;rintro _ _ rfl;refine aA<|aK<|wA Z Z<|wm Z<|aA ?_;exact⟨z+1,upd U z (rd (dO V) (rd s z)),⟨G,G,(by rw[aY];exact Lk),(fH (f:=λj=>rd (dO (thr s m)) (rd s j)) zc G hU (by rw[Vf]))⟩,G,KP⟩
   ·refine aR<|wq<|wm Z<|wn Z<|aU [0] 99 ?_;refine⟨_,Z,?_⟩;have gl: ∀x∈s,0<=x/\x<=m:=λx hx=>⟨(hs x hx).1,Qi x hx⟩;obtain rfl:U=sqz s m:=bJe gl Lk (λj h1 h2=>hU j h1 G);exact⟨m,_,_,Z,gl,Z⟩
theorem aXo {s:AH} (co:Rd w dj ie dg 1 (ints .i64 s)) (dq:(0<=k/\k<=1048576)/\ ∀x∈s,0<=x/\x<k) (hN:s.length<=100000):
  CF 155 #[sl dj ie dg,I k] w (λv R'=> ∃(b:AH) (A:AF) (c:Nat),v= .tuple #[sl A s.length c,I 0]/\b.Perm (iota s.length)/\b.Pairwise (bV s)/\R'=[(ri 3 A s.length c b)]):=by
 obtain rfl:=co.lenI;refine fn2 Tryz.func155 Z Z Z ?_;have l3:=co.max;refine wq<|wg Z<|wn Z<|aD<|wq<|wm Z<|wy (aL aa Z)<|wy (Yl.f (bW Z Z))<|aA<|aP Z<|aI<|aD ?_;refine wq<|wm Z<|wm Z<|wa (aC aCz Z (Ct.fresh (λw hw=>qJ ((co.c _) w hw) cE))) ?_;rintro _ _⟨_,rfl,cm,ci,rfl,rfl⟩;refine wm Z<|wX Z Z<|wX Z Z<|wg Z<|wn Z<|wq<|wm Z<|wy (dC Z)<|aA<|aP Z<|aI<|wq ?_;refine wm Z<|wa (aC bOm Z (Ct.fresh (λw hw=>RX ((co.c _) w hw) (λx hx=>by have:=dq.2 x hx;omega) hN))) ?_;rintro _ _⟨_,rfl,mq,kt,lj,rfl,hmq,rfl⟩;refine wm Z<|wy (aL aa Z)<|wA Z Z<|wa (aC bIb Z (Ct.fresh (λw hw=>RZ ((rdr 0 Z) w hw) ⟨G,λx hx=>by have:=bJf hmq x hx;omega⟩ (by rw[LJ];exact hN)))) ?_;rintro _ _⟨_,rfl,b1,iz,fj,rfl,dd,eh,rfl⟩;refine wg Z<|wn Z<|aU [0] 99 ?_;refine⟨_,_,Z,Z,?_⟩;have ho:=aNq hmq dd eh;rw[LJ];exact⟨b1,_,_,Z,ho.1,ho.2,Z⟩
theorem aPs {an:AF} {ba am:Nat} {u:AH} (ac:Rd w an ba am 1 (ints .u8 u)) (al:aO u) (hN:u.length<=100000):
  CF 96 #[sl an ba am] w (λv R'=> ∃(b:AH) (A:AF) (c:Nat),v= .tuple #[sl A u.length c,I 0]/\b.Perm (iota u.length)/\b.Pairwise (bV u)/\R'=[(ri 3 A u.length c b)]):=by
 obtain rfl:=ac.lenI;refine fn2 Tryz.func96 Z Z Z ?_;have ia:=ac.max;refine wq<|wg Z<|wn Z<|aD<|wq<|wm Z<|wy (aL af Z)<|wy (Yl.f (bW Z Z))<|aA<|aP Z<|aI<|aD ?_;refine aK<|wm Z<|wy (aL af Z)<|wa (dK aa zb3 Z Z) ?_;rintro _ _⟨ap,rfl,rfl⟩;refine bC (v:=sl (GG ap) u.length u.length) Z<|wn Z<|aD<|wq<|wm Z<|wy (aL af Z)<|wm Z<|aA<|aG ?_;refine dI (λ(i:Int) (V:AH)=>[(4,sl (GG ap) u.length u.length),(13,sl an u.length am),(14,I (u.length:Int)),(15,I i)]) (λi V=>[(ri 3 (GG ap) u.length u.length V)]) (λi V=>(0<=i)/\(i<=u.length)/\(V.length=u.length)/\(∀j:Int,0<=j->j<i->rd V j=rd u j)) (λi V=>(u.length-i).toNat) ?_ ?_
 ·exact⟨0,List.replicate u.length (0:Int),⟨G,G,(by rw[bz]),(λj h1 h2=>G)⟩,KP⟩
 intro i V ⟨aw,ff,kc,hV⟩;refine wq<|wL Z Z<|aA<|aD<|aX Z (λar=> ?_) (λar=> ?_)
 ·have ux:=al.rd i;refine aI<|aD<|aG<|wq<|wm Z<|wy (aF af sz5 Z Z (ac.c _))<|wy (aT az Z Z (ac.c _))<|wg Z<|wn Z<|aK<|wm Z<|wm Z<|wm Z ?_;refine wy (jG az au Z)<|wy (aF aa sz3 Z Z (rdr 0 Z))<|bZ (bE 0 Z sz3 Z Z) ?_;rintro _ _ rfl;refine aA<|aK<|wA Z Z<|wm Z<|aA ?_;exact⟨i+1,upd V i (rd u i),⟨G,G,(by rw[aY];exact kc),(fH (f:=λj=>rd u j) aw G hV Z)⟩,G,KP⟩
 ·have Vg:V=u:=bI kc (λj h1 h2=>hV j h1 G);refine aR<|wq<|wm Z<|wa (aC bPh Z (Ct.fresh (λw hw=>aXo ((rdr 0 Z) w hw) ⟨G,λx hx=>by rw[Vg] at hx;have:=al x hx;omega⟩ G))) ?_;rintro _ _⟨_,rfl,b1,o4,o5,rfl,dd,eh,rfl⟩;refine wX Z Z<|wX Z Z<|wg Z<|wn Z<|aU [0] 99 ?_;refine⟨_,_,Z,Z,?_⟩;subst Vg;exact⟨b1,_,_,Z,dd,eh,Z⟩
end
section
variable {w:World} {lf:AF} {pc ln:Nat} {l:AH} {h:Int}
theorem bEa {l:AH} {i:Int} (js:Rd w lf pc ln 1 (ints .i64 l)) (hb:(0<=i/\i<=1000000)/\(0<=h/\h<=1000000)) (hl: ∀x∈l,0<=x/\x<=1000000):
  CF 269 #[sl lf pc ln,I i,I h] w (λv R'=>v=I (onF l i h)):=by
 obtain rfl:=js.lenI;refine fn1 Tryz.func269 Z Z Z ?_;have Qp:=js.max;refine wq<|wn Z<|aD<|wq<|wm Z<|wm Z<|wA Z Z<|wm Z<|wy (aL aa Z)<|wy (iL Z Z)<|aA<|aX Z (λar=> ?_) (λar=> ?_)
 ·refine wq<|wn Z<|bK ?_;refine⟨_,Z,?_⟩;exact bq (Value.int .i64) (by unfold onF;rw[dm G])
 ·have hm:=hl _ (bG (L:=l) (k:=i+h) G G);refine aI<|wq<|wm Z<|wm Z<|wm Z<|wA Z Z<|wy (aF aa sz3 Z Z (js.c _))<|wy (aT au Z Z (js.c _))<|wA Z Z<|wn Z<|bK ?_;refine⟨_,Z,?_⟩;exact bq (Value.int .i64) (by unfold onF;rw[df G])
theorem aPu {s:AH} {n b:Nat} (js:Rd w lf pc ln 1 (ints .i64 l)) (hl:l=rkL s n) (hh:h=b) (hn:0<n) (hb:b<=n) (hN:s.length<=100000/\n<=100000):
  CF 239 #[sl lf pc ln,I h] w (λv R'=> ∃A c A' c',v= .tuple #[sl A s.length c,sl A' s.length c']/\R'=[(ri 3 A s.length c (rkL s (n+b))),(ri 3 A' s.length c' (dM s n b))]):=by
 obtain rfl:=js.lenI;refine fn2 Tryz.func239 Z Z Z ?_;have Qp:=js.max;have vf:l.length=s.length:=by rw[hl,DY]
 refine wq<|wg Z<|wn Z<|wq<|wm Z<|wy (aL aa Z)<|wa (dK aa zb3 Z Z) ?_;rintro _ _⟨ap,rfl,rfl⟩;refine bC (v:=sl (GG ap) l.length l.length) Z<|wn Z<|wq<|wm Z<|wy (aL aa Z)<|wa (dK aa zb3 Z Z) ?_;rintro _ _⟨db,rfl,rfl⟩;refine bC (v:=sl (GG db) l.length l.length) Z<|wn Z<|aD<|wq<|wm Z<|wy (aL aa Z)<|wm Z<|aA<|aG ?_;refine fZ (λ(i:Int) (O:AH) (K:AH)=>[(0,sl lf l.length ln),(1,I h),(6,sl (GG ap) l.length l.length),(7,sl (GG db) l.length l.length),(19,I (l.length:Int)),(20,I i)]) (λi O K=>[(ri 3 (GG db) l.length l.length K),(ri 3 (GG ap) l.length l.length O)]) (λi O K=>(0<=i)/\(i<=s.length)/\(O.length=s.length)/\(∀j:Int,0<=j->j<i->rd O j=j)/\(K.length=s.length)/\(∀j:Int,0<=j->j<i->rd K j=uN s n (j.toNat+b))) (λi O K=>(s.length-i).toNat) ?_ ?_
 ·exact⟨0,List.replicate l.length (0:Int),List.replicate l.length (0:Int),⟨G,G,(by rw[bz,vf]),(λj h1 h2=>G),(by rw[bz,vf]),(λj h1 h2=>G)⟩,KP⟩
 intro i O K ⟨aw,ff,Yw,hO,Sy,hK⟩;refine wq<|wL Z Z<|aA<|aD<|aX Z (λar=> ?_) (λar=> ?_)
 ·refine aI<|aD<|aG<|wq<|wm Z<|wn Z<|aK<|wm Z<|wm Z<|wm Z<|wm Z<|wm Z<|wm Z ?_;refine wm Z<|wm Z<|wa (aC bNk Z (Ct.quiet (λw hw=>bEa ((js.c _) w hw) ⟨G,G⟩ (λx hx=>by rw[hl] at hx;have:=aUr x hx;omega)))) ?_;rintro _ _⟨rfl,rfl⟩;refine wy (aF aa sz3 Z Z (rdr 1 Z))<|bZ (bE 1 Z sz3 Z Z) ?_;rintro _ _ rfl;refine wy (aF aa sz3 Z Z (rdr 0 Z))<|bZ (bE 0 Z sz3 Z Z) ?_;rintro _ _ rfl;refine aA<|aK<|wA Z Z<|wm Z<|aA ?_;exact⟨i+1,upd O i i,upd K i (onF l i h),⟨G,G,(by rw[aY];exact Yw),(fH (f:=λj=>j) aw G hO Z),(by rw[aY];exact Sy),(fH (f:=λj=>(uN s n (j.toNat+b):Int)) aw G hK (by rw[hh,hl];exact bKa aw G))⟩,G,KP⟩
 ·obtain rfl:O=iota s.length:=aLf Yw (λj h1 h2=>hO j h1 G);obtain rfl:K=onL s n b:=bJy Sy (λj h1 h2=>hK j h1 G);have Qg:(dD (iota s.length) (onL s n b) ((l.length:Int)+1).toNat).length=s.length:=by rw[show((l.length:Int)+1).toNat=s.length+1 by omega,(vV s n b).length_eq,bA]
  refine aR<|wq<|wm Z<|wm Z<|wm Z<|wy (aL aa Z)<|wA Z Z<|wa (aC QH Z (Ct.fresh (λw hw=>vS ((rdr 1 Z) w hw) ((rdr 0 Z) w hw) G (λx hx=>by have:=bJz x hx;omega) (λx hx=>by have:=aZ.1 hx;rw[aKt];omega) (by rw[bA];omega)))) ?_;rintro _ _⟨_,rfl,dv,dy,rfl,rfl⟩;refine wm Z<|wX Z Z<|wX Z Z<|wn Z<|wq<|wm Z<|wm Z<|wm Z<|wy (aL aa Z)<|wa (aC QH Z (Ct.fresh (λw hw=>vS ((rdr 0 Z) w hw) ((js.c _) w hw) G (λx hx=>by rw[hl] at hx;have:=aUr x hx;omega) (λx hx=>by rw[show((l.length:Int)+1).toNat=s.length+1 by omega] at hx;have:=aZ.1 ((vV s n b).subset hx);omega) (by rw[Qg];omega)))) ?_;rintro _ _⟨_,rfl,iz,fj,rfl,rfl⟩;refine wm Z<|wX Z Z<|wX Z Z<|wn Z<|wq<|wm Z<|wy (aL aa Z)<|wa (dK aa zb3 Z Z) ?_;rintro _ _⟨oc,rfl,rfl⟩;refine bC (v:=sl (GG oc) l.length l.length) Z<|wn Z<|aD<|wq<|wm Z<|wy (aL aa Z)<|wm Z<|aA<|aG ?_;refine fZ (λ(p:Int) (D:AH) (V:AH)=>[(0,sl lf l.length ln),(6,sl iz (((dD (iota s.length) (onL s n b) (((l.length:Int)+1)).toNat)).length) fj),(7,sl (GG db) l.length l.length),(9,sl (GG oc) l.length l.length),(55,sl iz (((dD (iota s.length) (onL s n b) (((l.length:Int)+1)).toNat)).length) fj),(56,I ((((dD (iota s.length) (onL s n b) (((l.length:Int)+1)).toNat)).length:Nat):Int)),(57,I p)]) (λp D V=>[(ri 3 (GG oc) l.length l.length V),(ri 3 iz (((dD (iota s.length) (onL s n b) (((l.length:Int)+1)).toNat)).length) fj D),(ri 3 dv (((iota s.length)).length) dy (dD (iota s.length) (onL s n b) (((l.length:Int)+1)).toNat)),(ri 3 (GG db) l.length l.length (onL s n b)),(ri 3 (GG ap) l.length l.length (iota s.length))]) (λp D V=>(0<=p)/\(p<=s.length)/\(D=dM s n b)/\(V.length=s.length)/\(∀q:Int,0<=q->q<p->rd V (rd D q)=rkS s (n+b) (rd D q).toNat)) (λp D V=>(s.length-p).toNat) ?_ ?_
  ·exact⟨0,dD (dD (iota s.length) (onL s n b) (((l.length:Int)+1)).toNat) l ((l.length:Int)).toNat,List.replicate l.length (0:Int),⟨G,G,(by rw[hl,DY];unfold dM;rw[show((s.length:Int)+1).toNat=s.length+1 by omega,dh]),(by rw[bz,vf]),(λq h1 h2=>G)⟩,KP⟩
  intro p D V ⟨Sj,qq,hD,kc,hV⟩;refine wq<|wL Z Z<|aA<|aD<|aX Z (λbx=> ?_) (λbx=> ?_)
  ·have hm:=gY (s:=s) (n:=n) (b:=b) Sj G;rw[<-hD] at hm;refine aI<|aD<|aG<|wq<|wm Z<|wy (aF aa sz3 Z Z (rdr 1 Z))<|wy (aT au Z Z (rdr 1 Z))<|wg Z<|wn Z<|wq<|wm Z<|wm Z ?_;refine wm Z<|wy (aF aa sz3 Z Z (rdr 0 Z))<|bZ (bE 0 Z sz3 Z Z) ?_;rintro _ _ rfl;refine aA ?_;refine mO [(0,sl lf l.length ln),(6,sl iz (((dD (iota s.length) (onL s n b) (((l.length:Int)+1)).toNat)).length) fj),(7,sl (GG db) l.length l.length),(9,sl (GG oc) l.length l.length),(10,I p),(11,I (rd D p)),(55,sl iz (((dD (iota s.length) (onL s n b) (((l.length:Int)+1)).toNat)).length) fj),(56,I ((((dD (iota s.length) (onL s n b) (((l.length:Int)+1)).toNat)).length:Nat):Int)),(57,I p),(97, .bool (decide ((0<p)/\(((rd l (rd D (p-1)))=(rd l (rd D p)))/\((rd (onL s n b) (rd D (p-1)))=(rd (onL s n b) (rd D p)))))))] [(ri 3 (GG oc) l.length l.length (upd V (rd D p) p)),(ri 3 iz (((dD (iota s.length) (onL s n b) (((l.length:Int)+1)).toNat)).length) fj D),(ri 3 dv (((iota s.length)).length) dy (dD (iota s.length) (onL s n b) (((l.length:Int)+1)).toNat)),(ri 3 (GG db) l.length l.length (onL s n b)),(ri 3 (GG ap) l.length l.length (iota s.length))] ?_ ?_
   ·refine bD mixed<|wD 0 Z (aJ Z)<|wD 1 Z (bW Z Z)<|wD 2 Z (aJ Z)<|jH 68 Z (λef=> ?_) (λef=> ?_)
    ·refine wG 3 Z Z Z (aJ Z)<|wG 4 Z Z Z (aJ Z)<|wG 5 Z Z Z (aJ Z)<|wG 6 Z Z Z (kY Z Z)<|wG 7 Z Z Z (aF aa sz3 Z Z (rdr 1 Z))<|wG 8 Z Z Z (aT au Z Z (rdr 1 Z))<|wG 9 Z Z Z (aF aa sz3 Z Z (js.c _) (by first|omega|(have mu:=gY (s:=s) (n:=n) (b:=b) (p:=p-1) G G;rw[<-hD] at mu;omega)) (by first|omega|(have mu:=gY (s:=s) (n:=n) (b:=b) (p:=p-1) G G;rw[<-hD] at mu;omega))) ?_;refine wG 10 Z Z Z (aT au Z Z (js.c _) (by first|omega|(have mu:=gY (s:=s) (n:=n) (b:=b) (p:=p-1) G G;rw[<-hD] at mu;omega)) (by first|omega|(have mu:=gY (s:=s) (n:=n) (b:=b) (p:=p-1) G G;rw[<-hD] at mu;omega))) ?_;refine wG 11 Z Z Z (aJ Z)<|wG 12 Z Z Z (aJ Z)<|wG 13 Z Z Z (aF aa sz3 Z Z (js.c _))<|wG 14 Z Z Z (aT au Z Z (js.c _))<|wG 15 Z Z Z (eT Z Z)<|wD 16 Z (aS Z Z)<|wD 17 Z (aJ Z)<|jH 83 Z (λfm=> ?_) (λfm=> ?_)
     ·refine wG 18 Z Z Z (aJ Z)<|wG 19 Z Z Z (aJ Z)<|wG 20 Z Z Z (aJ Z)<|wG 21 Z Z Z (kY Z Z)<|wG 22 Z Z Z (aF aa sz3 Z Z (rdr 1 Z))<|wG 23 Z Z Z (aT au Z Z (rdr 1 Z))<|wG 24 Z Z Z (aF aa sz3 Z Z (rdr 3 Z) (by first|omega|(have mu:=gY (s:=s) (n:=n) (b:=b) (p:=p-1) G G;rw[<-hD] at mu;omega)) (by first|omega|(have mu:=gY (s:=s) (n:=n) (b:=b) (p:=p-1) G G;rw[<-hD] at mu;omega))) ?_;refine wG 25 Z Z Z (aT au Z Z (rdr 3 Z) (by first|omega|(have mu:=gY (s:=s) (n:=n) (b:=b) (p:=p-1) G G;rw[<-hD] at mu;omega)) (by first|omega|(have mu:=gY (s:=s) (n:=n) (b:=b) (p:=p-1) G G;rw[<-hD] at mu;omega))) ?_;refine wG 26 Z Z Z (aJ Z)<|wG 27 Z Z Z (aJ Z)<|wG 28 Z Z Z (aF aa sz3 Z Z (rdr 3 Z))<|wG 29 Z Z Z (aT au Z Z (rdr 3 Z))<|wG 30 Z Z Z (eT Z Z)<|wD 31 Z (aS Z Z)<|wN ?_;exact KP
     ·refine wO 18 Z Z Z<|wO 19 Z Z Z<|wO 20 Z Z Z<|wO 21 Z Z Z<|wO 22 Z Z Z<|wO 23 Z Z Z<|wO 24 Z Z Z<|wO 25 Z Z Z<|wO 26 Z Z Z<|wO 27 Z Z Z<|wO 28 Z Z Z<|wO 29 Z Z Z<|wO 30 Z Z Z<|wD 31 Z (aN Z Z)<|wN ?_;exact KP
    ·refine wO 3 Z Z Z<|wO 4 Z Z Z<|wO 5 Z Z Z<|wO 6 Z Z Z<|wO 7 Z Z Z<|wO 8 Z Z Z<|wO 9 Z Z Z<|wO 10 Z Z Z<|wO 11 Z Z Z<|wO 12 Z Z Z<|wO 13 Z Z Z<|wO 14 Z Z Z<|wO 15 Z Z Z<|wD 16 Z (aN Z Z)<|wD 17 Z (aJ Z) ?_;refine wO 18 Z Z Z<|wO 19 Z Z Z<|wO 20 Z Z Z<|wO 21 Z Z Z<|wO 22 Z Z Z<|wO 23 Z Z Z<|wO 24 Z Z Z<|wO 25 Z Z Z<|wO 26 Z Z Z<|wO 27 Z Z Z<|wO 28 Z Z Z<|wO 29 Z Z Z<|wO 30 Z Z Z<|wD 31 Z (aN Z Z)<|wN ?_;exact KP
   refine aX Z (λjt=> ?_) (λjt=> ?_)
   ·refine aK<|wm Z<|wm Z<|wm Z<|wm Z<|wm Z<|wS Z Z<|wy (aF aa sz3 Z Z (rdr 1 Z))<|wy (aT au Z Z (rdr 1 Z))<|wy (aF aa sz3 Z Z (rdr 0 Z) (by first|omega|(have mu:=gY (s:=s) (n:=n) (b:=b) (p:=p-1) G G;rw[<-hD] at mu;omega)) (by first|omega|(have mu:=gY (s:=s) (n:=n) (b:=b) (p:=p-1) G G;rw[<-hD] at mu;omega))) ?_;refine wy (aT au Z Z (rdr 0 Z) (by first|omega|(have mu:=gY (s:=s) (n:=n) (b:=b) (p:=p-1) G G;rw[<-hD] at mu;omega)) (by first|omega|(have mu:=gY (s:=s) (n:=n) (b:=b) (p:=p-1) G G;rw[<-hD] at mu;omega))) ?_;refine wy (aF aa sz3 Z Z (rdr 0 Z))<|bZ (bE 0 Z sz3 Z Z) ?_;rintro _ _ rfl;refine aA<|aK<|wA Z Z<|wm Z<|aA ?_;exact⟨p+1,D,upd (upd V (rd D p) p) (rd D p) (rd (upd V (rd D p) p) (rd D (p-1))),⟨G,G,G,(by rw[aY,aY];exact kc),(by subst hD;exact aPv hn hb Sj G kc hV (by rw[<-hl,and_assoc];exact jt))⟩,G,KP⟩
   ·refine aI<|aK<|wA Z Z<|wm Z<|aA ?_;exact⟨p+1,D,upd V (rd D p) p,⟨G,G,G,(by rw[aY];exact kc),(by subst hD;exact aHd hn hb Sj G kc hV (by rw[<-hl,and_assoc];exact jt))⟩,G,KP⟩
  ·refine aR<|wq<|wm Z<|wm Z<|wg Z<|wn Z<|aU [0,1] 99 ?_;refine⟨_,_,Z,Z,?_⟩;have e2:V=rkL s (n+b):=aPw kc (λq h1 h2=>by have:=hV q h1 G;rw[hD] at this;exact this);subst e2;subst hD;rw[Qg,vf];exact⟨_,_,_,_,Z,Z⟩
end
section
variable {w:World} {an:AF} {ba am:Nat} {u:AH}
theorem aCs {i:Int} {j:Int} (ac:Rd w an ba am 1 (ints .u8 u)) (mz:0<=i/\i<=u.length/\0<=j/\j<=u.length):
  CF 197 #[sl an ba am,I i,I j] w (λv R'=>v=I (cmpL (u.drop i.toNat) (u.drop j.toNat))):=by
 obtain rfl:=ac.lenI;refine fn1 Tryz.func197 Z Z Z ?_;have ia:=ac.max;refine wq<|wn Z<|aD<|wq<|wm Z<|wL Z Z<|wm Z<|bR 5 [(0,sl an u.length am),(1,I i),(2,I j),(14, .bool (decide ((i<0)\/((u.length:Int)<i))))] [] ?_ ?_
 ·refine bJ 9 Z (λar=> ?_) (λar=> ?_)
  ·refine aM Z Z Z Z<|aM Z Z Z Z<|aM Z Z Z Z<|aM Z Z Z Z<|wy (aS Z Z)<|aA ?_;exact KP
  ·refine aB Z Z<|wm Z<|aB Z Z<|wm Z<|aB Z Z<|wy (aL af Z)<|aB Z Z<|wy (bW Z Z)<|wy (aN Z Z)<|aA ?_;exact KP
 refine qV 14 Z G<|wm Z<|aB Z Z<|wm Z<|aB Z Z<|wL Z Z<|wy (aN Z Z)<|wm Z<|bR 5 [(0,sl an u.length am),(1,I i),(2,I j),(24, .bool (decide ((j<0)\/((u.length:Int)<j))))] [] ?_ ?_
 ·refine bJ 19 Z (λbx=> ?_) (λbx=> ?_)
  ·refine aM Z Z Z Z<|aM Z Z Z Z<|aM Z Z Z Z<|aM Z Z Z Z<|wy (aS Z Z)<|aA ?_;exact KP
  ·refine aB Z Z<|wm Z<|aB Z Z<|wm Z<|aB Z Z<|wy (aL af Z)<|aB Z Z<|wy (bW Z Z)<|wy (aN Z Z)<|aA ?_;exact KP
 refine qV 24 Z G<|aA<|aP Z<|aI<|aD<|bD mixed<|wD 0 Z (aJ Z)<|wD 1 Z (aJ Z)<|wD 2 Z (dH af sz5 Z Z)<|wD 3 Z (aJ Z)<|wD 4 Z (aJ Z)<|wD 5 Z (dH af sz5 Z Z)<|wC 6 Z (aC bFn Z (Ct.quiet (λw hw=>yY ((RdC.fromI (ac.c _) G) w hw) ((RdC.fromI (ac.c _) G) w hw)))) ?_;rintro _ _⟨rfl,rfl⟩;refine⟨.inr hiZ,?_⟩;refine wD 7 Z (aW Z)<|wN<|bK ?_;refine⟨_,Z,?_⟩;rfl
theorem bKp (ac:Rd w an ba am 1 (ints .u8 u)):
  CF 153 #[sl an ba am] w (λv R'=>v= .bool (decide (pW u=true))):=by
 obtain rfl:=ac.lenI;refine fn1 Tryz.func153 Z Z Z ?_;have ia:=ac.max;refine wq<|wn Z<|aD<|wq<|wn Z<|aG ?_;refine fG (λ(i:Int)=>[(0,sl an u.length am),(3,I i)]) (λi=>[]) (λi=>(1<=i)/\(i<=u.length+1)/\(∀r:Nat,0<r->(r:Int)<i->r<u.length->cmpL u (u.drop r)<0)) (λi=>(u.length+1-i).toNat) ?_ ?_
 ·exact⟨1,⟨G,G,(λr h1 h2=>G)⟩,KP⟩
 intro i ⟨ff,Ou,gl⟩;refine aD<|wq<|wm Z<|wm Z<|wy (aL af Z)<|wL Z Z<|aA<|aX Z (λar=> ?_) (λar=> ?_)
 ·refine aI<|aD<|aG<|wq<|wm Z<|wm Z<|wa (aC bOn Z (Ct.quiet (λw hw=>aCs ((ac.c _) w hw) ⟨G,G,G,G⟩))) ?_;rintro _ _⟨rfl,rfl⟩;refine wy (iL Z Z)<|aA<|aX Z (λbx=> ?_) (λbx=> ?_)
  ·refine wq<|wn Z<|bK ?_;refine⟨_,Z,?_⟩;exact bq Value.bool (nk λh=>by have:=((kV u).1 h).2 i.toNat G G;exact absurd bx (Int.not_le.2 this)).symm
  ·refine aI<|aK<|wm Z<|wA Z Z<|wn Z ?_
   exact⟨i+1,⟨G,G,(λr h1 h2 h3=>by
     rcases cz (r:Int) i with a|a
     ·exact gl r h1 a h3
     ·have e:r=i.toNat:=G
      rw[e];exact Int.not_le.1 bx)⟩,G,KP⟩
 ·refine aR<|wq<|wm Z<|wy (aL af Z)<|wy (bW Z Z)<|wn Z<|bK ?_;refine⟨_,Z,?_⟩;exact bq Value.bool (ug.2 ⟨λh=>(kV u).2 ⟨G,λr h1 h2=>gl r h1 G h2⟩,λh=>by have:=((kV u).1 h).1;omega⟩)
theorem aCj (ac:Rd w an ba am 1 (ints .u8 u)) (hN:u.length<=1000000):
  CF 94 #[sl an ba am] w (λv R'=> ∃A c,v=sl A (dS u).length c/\R'=[(ri 3 A ((dS u).length) c (dS u))]):=by
 obtain rfl:=ac.lenI;refine fn1 Tryz.func94 Z Z Z ?_;have ia:=ac.max;refine wq<|wn Z<|wq<|eZ (ri 3 none 0 0 ([]))<|wn Z<|aD<|aG ?_;refine vK (λ(A0:AF) (n0:Nat) (c0:Nat) (t:AH) (A1:AF) (n1:Nat) (c1:Nat) (acc:AH)=>[(0,sl A0 n0 c0),(3,sl A1 n1 c1)]) (λA0 n0 c0 t A1 n1 c1 acc=>[(ri 3 A1 n1 c1 acc)]) (λA0 n0 c0 t A1 n1 c1 acc=>(Rd w A0 n0 c0 1 (ints .u8 t))/\(n1=acc.length)/\(dS u=acc++dS t)/\(acc.length<=u.length)) (λA0 n0 c0 t A1 n1 c1 acc=>t.length) ?_ ?_
 ·exact⟨an,u.length,am,u,none,0,0,[],⟨(ac),(Z),(Z),cD⟩,KP⟩
 intro A0 n0 c0 t A1 n1 c1 acc ⟨gg,cj,s8,Tj⟩;have Ox:=gg.lenI;have qn:=gg.max;refine aD<|wq<|wm Z<|wy (aL af Z)<|wy (bW Z Z)<|aA<|aX Z (λar=> ?_) (λar=> ?_)
 ·refine aI<|aG<|wq<|wm Z<|wy (aL af Z)<|wn Z<|aD<|aG ?_;refine fG (λ(n:Int)=>[(0,sl A0 n0 c0),(3,sl A1 n1 c1),(4,I n)]) (λn=>[(ri 3 A1 n1 c1 acc)]) (λn=>(1<=n)/\(n<=t.length)/\(jL t t.length=jL t n.toNat)) (λn=>n.toNat) ?_ ?_
  ·exact⟨(n0:Int),⟨G,G,(by rw[show(n0:Int).toNat=t.length by omega])⟩,KP⟩
  intro n ⟨yi,Zn,Tr⟩;refine aD<|wq<|wm Z<|wm Z<|wy (eD af sz5 Z Z (gg.c _))<|wa (aC bPj Z (Ct.quiet (λw hw=>bKp ((RdC.toI (gg.c _) G) w hw)))) ?_;rintro _ _⟨rfl,rfl⟩;refine wy (uC Z)<|aA<|aX Z (λbx=> ?_) (λbx=> ?_)
  ·have hsk:=aBo yi Zn bx;refine aI<|aG<|aK<|wm Z<|wS Z Z<|wn Z ?_;exact⟨n-1,⟨G,G,(by rw[Tr];exact hsk.2.symm)⟩,G,KP⟩
  ·have hhit:=aGu yi (uy.1 bx);have m7:dS u=(acc++[n])++dS (t.drop n.toNat):=by rw[s8,IY G,Tr,hhit,show jL t n.toNat=n.toNat by omega,dx];rfl
   refine aR<|wq<|wm Z<|wm Z<|wa (bF .i64 [n] aa zs3 Z Z Z) ?_;rintro _ _⟨db,rfl,rfl⟩;refine wa (aQ 1 Z aa zb3 Z Z Z (rdr 0 Z)) ?_;rintro _ _⟨dv,dy,rfl,rfl⟩;refine bC (v:=sl dv (n1+1) dy) Z<|wn Z<|aK<|wm Z<|wm Z<|wy (dH af sz5 Z Z)<|wn Z ?_;exact⟨jO A0 (n).toNat c0 1,n0-(n).toNat,c0-(n).toNat,t.drop n.toNat,dv,n1+1,dy,acc++([n]),⟨(gg.fromI G),(by rw[ah,cj];rfl),(m7),(by rw[ah,ic];have a:=bq List.length m7;have b:=FM u;rw[ah,ah,ic] at a;omega)⟩,(by rw[bn];omega),SA,λ_ h=>h.sel [1] cC Z⟩
 ·refine aR<|wq<|wm Z<|wn Z<|aU [0] 99 ?_;refine⟨_,Z,?_⟩;have e:t.length=0:=G
  rw[QF e,iw] at s8;rw[s8];obtain rfl:=cj;exact⟨_,_,Z,Z⟩
theorem aHq (ac:Rd w an ba am 1 (ints .u8 u)) (hN:u.length<=1000000):
  CF 122 #[sl an ba am] w (λv R'=> ∃A c,v=sl A (dS u).length c/\R'=[(ri 3 A ((dS u).length) c (dS u))]):=by
 obtain rfl:=ac.lenI;refine fn1 Tryz.func122 Z Z Z ?_;have ia:=ac.max;refine wq<|wn Z<|wq<|eZ (ri 3 none 0 0 ([]))<|wn Z<|aD<|wq<|wn Z<|aG ?_;refine fE (λ(a:Int) (A1:AF) (n1:Nat) (c1:Nat) (acc:AH)=>[(0,sl an u.length am),(3,sl A1 n1 c1),(4,I a)]) (λa A1 n1 c1 acc=>[(ri 3 A1 n1 c1 acc)]) (λa A1 n1 c1 acc=>(0<=a)/\(a<=u.length)/\(n1=acc.length)/\(acc.length<=a)/\(dS u=acc++dS (u.drop a.toNat))) (λa A1 n1 c1 acc=>(u.length-a).toNat) ?_ ?_
 ·exact⟨0,none,0,0,[],⟨G,G,(Z),cD,(Z)⟩,KP⟩
 intro a A1 n1 c1 acc ⟨Yz,ha1,cj,Tj,s8⟩;refine aD<|wq<|wm Z<|wm Z<|wy (aL af Z)<|wL Z Z<|aA<|aX Z (λar=> ?_) (λar=> ?_)
 ·refine aI<|aG<|wq<|wm Z<|wm Z<|wA Z Z<|wg Z<|wn Z<|aD<|aG ?_;refine dI (λ(i:Int) (j:Int)=>[(0,sl an u.length am),(3,sl A1 n1 c1),(4,I a),(5,I i),(6,I j)]) (λi j=>[(ri 3 A1 n1 c1 acc)]) (λi j=>(a<=i)/\(i<j)/\(j<=u.length)/\(vG u a (j-i))/\(vD u a (j-i) (j-a))) (λi j=>(u.length-j).toNat) ?_ ?_
  ·exact⟨a,a+1,⟨G,G,G,(KE.1),(KE.2)⟩,KP⟩
  intro i j ⟨In,mz,hj,hL,hP⟩;refine aD ?_;refine mO [(0,sl an u.length am),(3,sl A1 n1 c1),(4,I a),(5,I i),(6,I j),(28, .bool (decide ((j<(u.length:Int))/\((rd u i)<=(rd u j)))))] [(ri 3 A1 n1 c1 acc)] ?_ ?_
  ·refine bD mixed<|wD 0 Z (aJ Z)<|wD 1 Z (aJ Z)<|wD 2 Z (aL af Z)<|wD 3 Z (eQ Z Z)<|wD 4 Z (aJ Z)<|jH 18 Z (λbx=> ?_) (λbx=> ?_)
   ·refine wG 5 Z Z Z (aJ Z)<|wG 6 Z Z Z (aJ Z)<|wG 7 Z Z Z (aF af sz5 Z Z (ac.c _))<|wG 8 Z Z Z (aT az Z Z (ac.c _))<|wG 9 Z Z Z (aJ Z)<|wG 10 Z Z Z (aJ Z)<|wG 11 Z Z Z (aF af sz5 Z Z (ac.c _))<|wG 12 Z Z Z (aT az Z Z (ac.c _))<|wG 13 Z Z Z (qM Z Z)<|wD 14 Z (aS Z Z)<|wN ?_;exact KP
   ·refine wO 5 Z Z Z<|wO 6 Z Z Z<|wO 7 Z Z Z<|wO 8 Z Z Z<|wO 9 Z Z Z<|wO 10 Z Z Z<|wO 11 Z Z Z<|wO 12 Z Z Z<|wO 13 Z Z Z<|wD 14 Z (aN Z Z)<|wN ?_;exact KP
  refine aX Z (λef=> ?_) (λef=> ?_)
  ·refine aI<|aG<|aD<|aD<|bD mixed<|wD 0 Z (aJ Z)<|wD 1 Z (aJ Z)<|wD 2 Z (aF af sz5 Z Z (ac.c _))<|wD 3 Z (aT az Z Z (ac.c _))<|wD 4 Z (aJ Z)<|wD 5 Z (aJ Z)<|wD 6 Z (aF af sz5 Z Z (ac.c _))<|wD 7 Z (aT az Z Z (ac.c _))<|wD 8 Z (eQ Z Z)<|wN ?_;refine aX Z (λfm=> ?_) (λfm=> ?_)
   ·refine aK<|wm Z<|wn Z<|aK<|wm Z<|wA Z Z<|wn Z ?_;exact⟨a,j+1,⟨G,G,G,((aDa Yz In mz hL hP fm).1),((aDa Yz In mz hL hP fm).2)⟩,G,KP⟩
   ·refine aK<|wm Z<|wA Z Z<|wn Z<|aK<|wm Z<|wA Z Z<|wn Z ?_;exact⟨i+1,j+1,⟨G,G,G,((aDb Yz In mz hL hP ef.2 fm).1),((aDb Yz In mz hL hP ef.2 fm).2)⟩,G,KP⟩
  ·refine aR<|aG ?_;refine fE (λ(b:Int) (A2:AF) (n2:Nat) (c2:Nat) (zp:AH)=>[(0,sl an u.length am),(3,sl A2 n2 c2),(4,I b),(5,I i),(6,I j)]) (λb A2 n2 c2 zp=>[(ri 3 A2 n2 c2 zp)]) (λb A2 n2 c2 zp=>(a<=b)/\(b<=j)/\(n2=zp.length)/\(zp.length<=b)/\(dS u=zp++dS (u.drop b.toNat))/\(b<=i->vG u b (j-i)/\vD u b (j-i) (j-b))) (λb A2 n2 c2 zp=>(j-b).toNat) ?_ ?_
   ·exact⟨a,A1,n1,c1,acc,⟨G,G,(cj),(Tj),(s8),(λ_=>⟨hL,hP⟩)⟩,KP⟩
   intro b A2 n2 c2 zp ⟨a8,xa,nh,hlu2,m7,Yu⟩;refine aD<|wq<|wm Z<|wm Z<|wy (qM Z Z)<|aA<|aX Z (λjt=> ?_) (λjt=> ?_)
   ·refine aI<|aG<|wq<|wm Z<|wm Z<|wm Z<|wS Z Z<|wa (bF .i64 [j-i] aa zs3 Z Z Z) ?_;rintro _ _⟨db,rfl,rfl⟩;refine wa (aQ 1 Z aa zb3 Z Z Z (rdr 0 Z)) ?_;rintro _ _⟨dv,dy,rfl,rfl⟩;refine bC (v:=sl dv (n2+1) dy) Z<|wn Z<|aK<|wm Z<|wm Z<|wm Z<|wS Z Z<|wA Z Z<|wn Z ?_;exact⟨b+(j-i),dv,n2+1,dy,zp++([j-i]),⟨G,G,(by rw[ah,nh];rfl),(by rw[ah,ic];omega),(by rw[m7,aRi G jt mz hj (Yu jt).1 (Yu jt).2 ef,dx];rfl),(λh=>aHz G mz (Yu jt).1 (Yu jt).2 h)⟩,G,SA,λ_ h=>h.sel [1] cC Z⟩
   ·refine aR ?_;exact⟨b,A2,n2,c2,zp,⟨G,G,(nh),(hlu2),(m7)⟩,G,KP⟩
 ·refine aR<|wq<|wm Z<|wn Z<|aU [0] 99 ?_;refine⟨_,Z,?_⟩;have e:(u.drop a.toNat).length=0:=by rw[bn];omega
  rw[QF e,iw] at s8;rw[s8];obtain rfl:=cj;exact⟨_,_,Z,Z⟩
end
section
variable {w:World} {l b:AH} {k:Int} {ju:AF} {pt jx:Nat}
theorem aAk:
  CF 128 #[] w (λv R'=> ∃A c,v=sl A 256 c/\R'=[(ru 5 A 256 c bL)]):=by
 refine fn1 Tryz.func128 Z Z Z ?_;refine wq<|wn Z<|wq<|wa (dK af zb5 Z Z) ?_;rintro _ _⟨ap,rfl,rfl⟩;refine bC (v:=sl (GG ap) ((256:Int).toNat) ((256:Int).toNat)) Z<|wn Z<|aD<|wq<|wm Z<|wy (aL af Z)<|wm Z<|aA<|aG ?_;refine dI (λ(i:Int) (V:AH)=>[(1,sl (GG ap) ((256:Int).toNat) ((256:Int).toNat)),(5,I (((256:Int).toNat:Nat):Int)),(6,I i)]) (λi V=>[(ru 5 (GG ap) ((256:Int).toNat) ((256:Int).toNat) V)]) (λi V=>(0<=i)/\(i<=256)/\(V.length=256)/\(∀j:Int,0<=j->j<i->rd V j=j)) (λi V=>(256-i).toNat) ?_ ?_
 ·exact⟨0,List.replicate ((256:Int).toNat) (0:Int),⟨G,G,(Z),(λj h1 h2=>G)⟩,KP⟩
 intro i V ⟨aw,ff,kc,hV⟩;refine wq<|wL Z Z<|aA<|aD<|aX Z (λar=> ?_) (λar=> ?_)
 ·refine aI<|aD<|aG<|wq<|wm Z<|wn Z<|aK<|wm Z<|wm Z<|wm Z<|wy (nR au az Z)<|wy (aF af sz5 Z Z (rdr 0 Z))<|bZ (bE 0 Z sz5 Z Z) ?_;rintro _ _ rfl;refine aA<|aK<|wA Z Z<|wm Z<|aA ?_;exact⟨i+1,upd V i (IntKind.u8.wrap i),⟨G,G,(by rw[aY];exact kc),(fH (f:=λj=>j) aw G hV (oN aw G))⟩,G,KP⟩
 ·refine aR<|wq<|wm Z<|wn Z<|aU [0] 99 ?_;refine⟨_,Z,?_⟩;obtain rfl:V=bL:=aLf kc (λj h1 h2=>hV j h1 G);exact⟨_,_,Z,Z⟩
theorem aBm {B:Nat} {w0:World} {R:List Row} {A:AF} {m c:Nat} (hm:m=l.length) (hk:0<=k/\k<l.length) (h2:1<l.length):
  CT 130 #[sl A m c,I k] B w0 ((ru 5 A m c l)::R) (λv R'=>v= .tuple #[]/\R'=(ru 5 A m c (mtf l k))::R):=by
 subst hm;refine fn0 Tryz.func130 Z Z Z ?_;refine wq<|wm Z<|wm Z<|wy (aF af sz5 Z Z (rdr 0 Z))<|wy (aT az Z Z (rdr 0 Z))<|wn Z<|aD<|bD mixed<|wD 0 Z (aJ Z)<|wD 1 Z (dH af sz5 Z Z)<|wD 2 Z (aJ Z)<|wD 3 Z (aJ Z)<|wD 4 Z (eD af sz5 Z Z (rdr 0 Z)) ?_;refine wC 5 Z (YV (lo:=1) 0 Z af sz5 Z Z Z Z G (RdC.toI (h:=(k).toNat) (rdr 0 Z) cG)) ?_;rintro _ _⟨rfl,rfl⟩;refine⟨.inl cA,?_⟩;refine wN<|aK<|wm Z<|wm Z<|wy (aF af sz5 Z Z (rdr 0 Z))<|bZ (bE 0 Z sz5 Z Z) ?_;rintro _ _ rfl;refine aA ?_
 skip
 rw[bKh hk.1 hk.2];exact⟨Z,Z⟩
theorem XW {an:AF} {ba am:Nat} {u:AH} {c:Int} (ac:Rd w an ba am 1 (ints .u8 u)) (al:aO u) (hc:0<=c/\c<256) (hm:c∈u):
  CF 129 #[sl an ba am, .int .u8 c] w (λv R'=>v=I (idx u c)):=by
 obtain rfl:=ac.lenI;refine fn1 Tryz.func129 Z Z Z ?_;have ia:=ac.max;refine wq<|wn Z<|wq<|wm Z<|wm Z<|wa (aEh Tryz.func181 cA cA cA cA Z Z (ac.c _) al hc hm) ?_;rintro _ _⟨rfl,rfl⟩;refine wn Z<|bK ?_;refine⟨_,Z,?_⟩;rfl
theorem aPc (fz:Rd w ju pt jx 1 (ints .u8 b)) (cv:aO b) (hN:b.length<=1000000):
  CF 78 #[sl ju pt jx] w (λv R'=> ∃A c,v=sl A (b.length) c/\R'=[(ru 5 A b.length c (dB bL b))]):=by
 obtain rfl:=fz.lenI;refine fn1 Tryz.func78 Z Z Z ?_;have Hc:=fz.max;refine wq<|wn Z<|wq<|wa (aC bIi Z (Ct.fresh (λw hw=>aAk))) ?_;rintro _ _⟨_,rfl,cm,ci,rfl,rfl⟩;refine wn Z<|wq<|wm Z<|wy (aL af Z)<|wa (dK af zb5 Z Z) ?_;rintro _ _⟨gw,rfl,rfl⟩;refine bC (v:=sl (GG gw) b.length b.length) Z<|wn Z<|aD<|wq<|wm Z<|wy (aL af Z)<|wm Z<|aA<|aG ?_;refine fZ (λ(i:Int) (V:AH) (U:AH)=>[(3,sl cm 256 ci),(4,sl (GG gw) b.length b.length),(12,sl ju b.length jx),(13,I (b.length:Int)),(14,I i)]) (λi V U=>[(ru 5 (GG gw) b.length b.length U),(ru 5 cm 256 ci V)]) (λi V U=>(0<=i)/\(i<=b.length)/\(V=wM bL (b.take i.toNat))/\(U.length=b.length)/\(∀j:Int,0<=j->j<i->rd U j=rd (dB bL b) j)) (λi V U=>(b.length-i).toNat) ?_ ?_
 ·exact⟨0,bL,List.replicate b.length (0:Int),⟨G,G,(Z),(by rw[bz]),(λj h1 h2=>G)⟩,KP⟩
 intro i V U ⟨aw,ff,hV,Lk,hU⟩;have Xw:V.Perm bL:=by rw[hV];exact aAj cv _
 have Pj:=IC Xw;have ux:=cv.rd i;have ti:=Pj.2.2 _ ux.1 ux.2;refine wq<|wL Z Z<|aA<|aD<|aX Z (λar=> ?_) (λar=> ?_)
 ·refine aI<|aD<|aG<|wq<|wm Z<|wy (aF af sz5 Z Z (fz.c _))<|wy (aT az Z Z (fz.c _))<|wg Z<|wn Z<|wq<|wm Z<|wm Z ?_;refine wa (aC bPy Z (Ct.quiet (λw hw=>XW ((rdr 1 Z) w hw) Pj.2.1 ux ti.1))) ?_;rintro _ _⟨rfl,rfl⟩;refine wn Z<|wq<|wm Z<|wm Z<|wm Z<|wy (nR au az Z)<|wy (aF af sz5 Z Z (rdr 0 Z))<|bZ (bE 0 Z sz5 Z Z) ?_;rintro _ _ rfl;refine aA<|aK<|wm Z<|wm Z<|wa (aC bIh Z (Ct.at 1 Z (aBm Pj.1.symm G G))) ?_;rintro _ _⟨rfl,rfl⟩;refine aA<|aK<|wA Z Z<|wm Z<|aA ?_;exact⟨i+1,mtf V (idx V (rd b i)),upd U i (IntKind.u8.wrap (idx V (rd b i))),⟨G,G,(by rw[UB aw G,<-hV]),(by rw[aY];exact Lk),(fH (f:=λj=>rd (dB bL b) j) aw G hU (by rw[aVm aw G,<-hV];exact oN ti.2.1 ti.2.2))⟩,G,KP⟩
 ·refine aR<|wq<|wm Z<|wn Z<|aU [0] 99 ?_;refine⟨_,Z,?_⟩;obtain rfl:U=dB bL b:=bI (by rw[Lk,iY]) (λj h1 h2=>hU j h1 G);exact⟨_,_,Z,Z⟩
theorem aSm (fz:Rd w ju pt jx 1 (ints .u8 b)) (cv:aO b) (hN:b.length<=1000000):
  CF 208 #[sl ju pt jx] w (λv R'=> ∃A c,v=sl A (b.length) c/\R'=[(ru 5 A b.length c (qR bL b))]):=by
 obtain rfl:=fz.lenI;refine fn1 Tryz.func208 Z Z Z ?_;have Hc:=fz.max;refine wq<|wn Z<|wq<|wa (aC bIi Z (Ct.fresh (λw hw=>aAk))) ?_;rintro _ _⟨_,rfl,cm,ci,rfl,rfl⟩;refine wn Z<|wq<|wm Z<|wy (aL af Z)<|wa (dK af zb5 Z Z) ?_;rintro _ _⟨gw,rfl,rfl⟩;refine bC (v:=sl (GG gw) b.length b.length) Z<|wn Z<|aD<|wq<|wm Z<|wy (aL af Z)<|wm Z<|aA<|aG ?_;refine fZ (λ(i:Int) (V:AH) (U:AH)=>[(3,sl cm 256 ci),(4,sl (GG gw) b.length b.length),(11,sl ju b.length jx),(12,I (b.length:Int)),(13,I i)]) (λi V U=>[(ru 5 (GG gw) b.length b.length U),(ru 5 cm 256 ci V)]) (λi V U=>(0<=i)/\(i<=b.length)/\(V=KQ bL (b.take i.toNat))/\(U.length=b.length)/\(∀j:Int,0<=j->j<i->rd U j=rd (qR bL b) j)) (λi V U=>(b.length-i).toNat) ?_ ?_
 ·exact⟨0,bL,List.replicate b.length (0:Int),⟨G,G,(Z),(by rw[bz]),(λj h1 h2=>G)⟩,KP⟩
 intro i V U ⟨aw,ff,hV,Lk,hU⟩;have Xw:V.Perm bL:=by rw[hV];exact aUh cv _
 have Pj:=IC Xw;have ux:=cv.rd i;have ti:=Pj.2.2 _ ux.1 ux.2;refine wq<|wL Z Z<|aA<|aD<|aX Z (λar=> ?_) (λar=> ?_)
 ·refine aI<|aD<|aG<|wq<|wm Z<|wy (aF af sz5 Z Z (fz.c _))<|wy (aT az Z Z (fz.c _))<|wg Z<|wn Z<|wq<|wm Z<|wm Z ?_;refine wm Z<|wm Z<|wy (aF af sz5 Z Z (rdr 1 Z))<|wy (aT az Z Z (rdr 1 Z))<|wy (aF af sz5 Z Z (rdr 0 Z))<|bZ (bE 0 Z sz5 Z Z) ?_;rintro _ _ rfl;refine aA<|aK<|wm Z<|wm Z<|wy (jG az au Z)<|wa (aC bIh Z (Ct.at 1 Z (aBm Pj.1.symm G G))) ?_;rintro _ _⟨rfl,rfl⟩;refine aA<|aK<|wA Z Z<|wm Z<|aA ?_;exact⟨i+1,mtf V (rd b i),upd U i (rd V (rd b i)),⟨G,G,(by rw[aOk aw G,<-hV]),(by rw[aY];exact Lk),(fH (f:=λj=>rd (qR bL b) j) aw G hU (by rw[aVl aw G,<-hV]))⟩,G,KP⟩
 ·refine aR<|wq<|wm Z<|wn Z<|aU [0] 99 ?_;refine⟨_,Z,?_⟩;obtain rfl:U=qR bL b:=bI (by rw[Lk,GY]) (λj h1 h2=>hU j h1 G);exact⟨_,_,Z,Z⟩
theorem aOj:
  CF 189 #[] w (λv R'=> ∃A c,v=sl A 256 c/\R'=[(ru 5 A 256 c bL)]):=by
 refine fn1 Tryz.func189 Z Z Z ?_;refine wq<|wn Z<|wq<|eZ (ru 5 none 0 0 ([]))<|wn Z<|aD<|wq<|wn Z<|aG ?_;refine fE (λ(A1:AF) (n1:Nat) (c1:Nat) (acc:AH) (i:Int)=>[(1,sl A1 n1 c1),(2,I i)]) (λA1 n1 c1 acc i=>[(ru 5 A1 n1 c1 acc)]) (λA1 n1 c1 acc i=>(n1=acc.length)/\(0<=i)/\(i<=256)/\(acc=iota i.toNat)) (λA1 n1 c1 acc i=>(256-i).toNat) ?_ ?_
 ·exact⟨none,0,0,[],0,⟨(Z),G,G,(Z)⟩,KP⟩
 intro A1 n1 c1 acc i ⟨cj,aw,ff,bb⟩;have mw:=bq List.length bb;rw[bA] at mw;refine aD<|wq<|wm Z<|wL Z Z<|aA<|aX Z (λar=> ?_) (λar=> ?_)
 ·refine aI<|aD<|aG<|aK<|wm Z<|wm Z<|wy (nR au az Z)<|wa (bF .u8 [IntKind.u8.wrap i] af zs5 Z Z Z) ?_;rintro _ _⟨db,rfl,rfl⟩;refine wa (aQ 1 Z af zb5 Z Z Z (rdr 0 Z)) ?_;rintro _ _⟨dv,dy,rfl,rfl⟩;refine bC (v:=sl dv (n1+1) dy) Z<|wn Z<|aK<|wm Z<|wA Z Z<|wn Z ?_;exact⟨dv,n1+1,dy,acc++([IntKind.u8.wrap i]),i+1,⟨(by rw[ah,cj];rfl),G,G,(by rw[IV aw,<-bb,oN aw G])⟩,G,SA,λ_ h=>h.sel [1] cC Z⟩
 ·refine aR<|wq<|wm Z<|wn Z<|aU [0] 99 ?_;refine⟨_,Z,?_⟩;obtain rfl:i=256:=G
  subst bb;obtain rfl:n1=256:=by rw[cj,bA];rfl
  exact⟨_,_,Z,Z⟩
theorem aHo {lf:AF} {pc ln:Nat} (js:Rd w lf pc ln 1 (ints .u8 l)) (hk:0<=k/\k<l.length) (hN:l.length<=1000000):
  CF 190 #[sl lf pc ln,I k] w (λv R'=> ∃A c,v=sl A (l.length) c/\R'=[(ru 5 A l.length c (mtf l k))]):=by
 obtain rfl:=js.lenI;refine fn1 Tryz.func190 Z Z Z ?_;have Qp:=js.max;refine wq<|wn Z<|aD<|bD mixed<|bRb ?_;refine gI 0 Z cA Z (aJ Z) ?_;refine gI 1 Z cA Z (aJ Z) ?_;refine gI 2 Z cA Z (aF af sz5 Z Z (js.c _)) ?_;refine gI 3 Z cA Z (aT az Z Z (js.c _)) ?_;refine gI 5 Z cA Z (aJ Z) ?_;refine gI 6 Z cA Z (aJ Z) ?_;refine gI 7 Z cA Z (eD af sz5 Z Z (js.c _)) ?_;refine gI 9 Z cA Z (aJ Z) ?_;refine gI 10 Z cA Z (aJ Z) ?_;refine gI 11 Z cA Z (bT Z Z) ?_;refine gI 12 Z cA Z (dH af sz5 Z Z) ?_;refine jF 4 cA ?_;refine qQ 4 Z Z (bF .u8 [rd l k] af zs5 Z Z Z) ?_;rintro _ _⟨db,rfl,rfl⟩;refine⟨λ_ h=>h.sel [] cC Z,?_⟩;refine jF 8 cA ?_;refine qQ 8 Z Z (aQ 0 Z af zb5 Z Z Z (RdC.toI (js.c _) G)) ?_;rintro _ _⟨dv,dy,rfl,rfl⟩;refine⟨λ_ h=>h.sel [] cC Z,?_⟩;refine tY (v:=sl dv (1+((k).toNat)) dy) Z ?_;refine jF 13 cA ?_;refine qQ 13 Z Z (aQ 0 Z af zb5 Z Z Z (RdC.fromI (js.c _) G)) ?_;rintro _ _⟨gv,jn,rfl,rfl⟩;refine⟨λ_ h=>h.sel [] cC Z,?_⟩;refine tY (v:=sl gv ((1+((k).toNat))+(l.length-(k+1).toNat)) jn) Z ?_;refine gI 14 Z cA Z (aW Z) ?_;refine uJ cA ?_;refine aU [0] 99 ?_;refine⟨_,Z,?_⟩;have e:([rd l k]++l.take k.toNat)++l.drop (k+1).toNat=mtf l k:=by unfold mtf;rw[show(k+1).toNat=k.toNat+1 by omega];rfl
 rw[e];rw[show 1+k.toNat+(l.length-(k+1).toNat)=l.length by omega];exact⟨_,_,Z,Z⟩
theorem aFx (fz:Rd w ju pt jx 1 (ints .u8 b)) (cv:aO b) (hN:b.length<=1000000):
  CF 141 #[sl ju pt jx] w (λv R'=> ∃A c,v=sl A (b.length) c/\R'=[(ru 5 A b.length c (dB bL b))]):=by
 obtain rfl:=fz.lenI;refine fn1 Tryz.func141 Z Z Z ?_;have Hc:=fz.max;refine wq<|wn Z<|wq<|wa (aC bOt Z (Ct.fresh (λw hw=>aOj))) ?_;rintro _ _⟨_,rfl,cm,ci,rfl,rfl⟩;refine wn Z<|wq<|eZ (ru 5 none 0 0 ([]))<|wn Z<|aD<|wq<|wn Z<|aG ?_;refine CV (λ(i:Int) (V:AH) (AV:AF) (nV:Nat) (cV:Nat) (A1:AF) (n1:Nat) (c1:Nat) (acc:AH) (Rs:List Row)=>[(0,sl ju b.length jx),(3,sl AV nV cV),(4,sl A1 n1 c1),(5,I i)]) (λi V AV nV cV A1 n1 c1 acc Rs=>((ru 5 A1 n1 c1 acc)::Rs)) (λi V AV nV cV A1 n1 c1 acc Rs=>(0<=i)/\(i<=b.length)/\(V=wM bL (b.take i.toNat))/\(nV=256)/\(∀(B:Nat) (w0 w:World),Hp B w0 w Rs->Rd w AV nV cV 1 (ints .u8 V))/\(n1=acc.length)/\(acc=dB bL (b.take i.toNat))) (λi V AV nV cV A1 n1 c1 acc Rs=>(b.length-i).toNat) ?_ ?_
 ·exact⟨0,bL,cm,256,ci,none,0,0,[],((ru 5 cm 256 ci bL)::[]),⟨G,G,(Z),(Z),(λB w0 w h=>rdr 0 Z w h),(Z),(Z)⟩,SA,λ_ h=>h.selR (F:=[_,_]) (F':=[_,_]) [0,1] cC Z⟩
 intro i V AV nV cV A1 n1 c1 acc Rs ⟨aw,ff,hV,hnV,hrv,cj,bb⟩;have Xw:V.Perm bL:=by rw[hV];exact aAj cv _
 have Pj:=IC Xw;have ux:=cv.rd i;have ti:=Pj.2.2 _ ux.1 ux.2;have mw:=bq List.length bb;rw[iY,ax] at mw;refine aD<|wq<|wm Z<|wm Z<|wy (aL af Z)<|wL Z Z<|aA<|aX Z (λar=> ?_) (λar=> ?_)
 ·refine aI<|aD<|aG<|wq<|wn Z<|aD<|aG ?_;refine fG (λ(k:Int)=>[(0,sl ju b.length jx),(3,sl AV nV cV),(4,sl A1 n1 c1),(5,I i),(6,I k)]) (λk=>((ru 5 A1 n1 c1 acc)::Rs)) (λk=>(0<=k)/\(k<=idx V (rd b i))) (λk=>(idx V (rd b i)-k).toNat) ?_ ?_
  ·exact⟨0,⟨G,(ti.2.1)⟩,KP⟩
  intro k ⟨iu,vd⟩;refine aD<|aD<|bD mixed<|wD 0 Z (aJ Z)<|wD 1 Z (aJ Z)<|wD 2 Z (aF af sz5 Z Z (λ_ h=>hrv _ _ _ (h.right (R':=[_]))))<|wD 3 Z (aT az Z Z (λ_ h=>hrv _ _ _ (h.right (R':=[_]))))<|wD 4 Z (aJ Z)<|wD 5 Z (aJ Z)<|wD 6 Z (aF af sz5 Z Z (fz.c _))<|wD 7 Z (aT az Z Z (fz.c _))<|wD 8 Z (fQ Z Z)<|wN<|aX Z (λbx=> ?_) (λbx=> ?_)
  ·refine aI<|aG<|aK<|wm Z<|wA Z Z<|wn Z ?_;exact⟨k+1,⟨G,(aCc ti.1 vd cF)⟩,(by have:=aCc ti.1 vd cF;omega),KP⟩
  ·have Zg:=aYe iu vd ti.1 (uy.1 cF);refine aR<|wq<|wm Z<|wm Z<|wy (nR au az Z)<|wa (bF .u8 [IntKind.u8.wrap k] af zs5 Z Z Z) ?_;rintro _ _⟨ir,rfl,rfl⟩;refine wa (aQ 1 Z af zb5 Z Z Z (rdr 0 Z)) ?_;rintro _ _⟨gv,jn,rfl,rfl⟩;refine bC (v:=sl gv (n1+1) jn) Z<|wn Z<|aK<|wm Z<|wm Z<|wa (aC bOs Z (Ct.fresh (λw hw=>aHo ((λ_ h=>hrv _ _ _ (h.right (R':=[_,_]))) w hw) G G))) ?_;rintro _ _⟨_,rfl,iz,fj,rfl,rfl⟩;refine wn Z<|aK<|wm Z<|wA Z Z<|wn Z ?_;exact⟨i+1,(mtf V k),iz,(V).length,fj,gv,n1+1,jn,acc++([IntKind.u8.wrap k]),((ru 5 iz ((V).length) fj (mtf V k))::Rs),⟨G,G,(by rw[UB aw G,<-hV,<-Zg]),(Pj.1),(λB w0 w h=>rdr 0 Z w h),(by rw[ah,cj];rfl),(by rw[aGt aw G,<-bb,<-hV,<-Zg,oN G G])⟩,G,SA,λ_ h=>h.selR (F:=[_,_,_]) (F':=[_,_]) [2,0] cC Z⟩
 ·refine aR<|wq<|wm Z<|wn Z<|bO (R1:=[(ru 5 A1 n1 c1 acc)]) (λ_ h=>(h.selR (F:=[_]) (F':=[_]) [0] cC Z).left (X:=[_])) ?_;refine⟨_,Z,?_⟩;rw[bg G] at bb;subst bb;obtain rfl:n1=b.length:=by rw[cj,iY]
  exact⟨_,_,Z,Z⟩
end
section
variable {n i:Int} {acc b:AH} {w:World} {ju:AF} {pt jx:Nat}
theorem TJ {m:Int} (h:eX n.toNat=acc++eX m.toNat) (hp:0<m) {d q:Int} (hd:d=(m-1)%2) (hq:q=(m-1)/2):eX n.toNat=(acc++[d])++eX q.toNat:=by
 rw[h,DC G,dx,pz];have e1:(((m.toNat-1)%2:Nat):Int)=d:=G
 have e2:(m.toNat-1)/2=q.toNat:=G
 rw[e1,e2]
theorem TM (h:acc++dE n.toNat (b.drop i.toNat)=dE 0 b) (i0:0<=i) (hi:i<b.length) (n0:0<=n) (hc:rd b i=0):acc++dE (n+1).toNat (b.drop (i+1).toNat)=dE 0 b:=by
 rw[iO i0 hi,dE,dm hc] at h;rw[show(n+1).toNat=n.toNat+1 by omega];exact h
theorem DF (h:acc++dE n.toNat (b.drop i.toNat)=dE 0 b) (i0:0<=i) (hi:i<b.length) (hc: ¬rd b i=0):((acc++eX n.toNat)++[rd b i+1])++dE 0 (b.drop (i+1).toNat)=dE 0 b:=by
 rw[iO i0 hi,dE,df hc] at h;rw[<-h];simp
theorem NG (h:acc++dE n.toNat (b.drop i.toNat)=dE 0 b):acc.length<=b.length:=by
 have h1:=bq List.length h;have h2:=qE b 0;rw[ah] at h1;omega
theorem TI (h0:0<=n):((eX n.toNat).length:Int)<=n:=by
 have:=DD _ _ (ed n.toNat);omega
theorem TK (h0:0<=n/\n<=1000000):
  CF 127 #[I n] w (λv R'=> ∃A c,v=sl A ((eX n.toNat).length) c/\R'=[(ri 3 A ((eX n.toNat).length) c (eX n.toNat))]):=by
 refine fn1 Tryz.func127 Z Z Z ?_;refine wq<|wn Z<|wq<|eZ (ri 3 none 0 0 ([]))<|wn Z<|aD<|aG ?_;refine fE (λ(A1:AF) (n1:Nat) (c1:Nat) (acc:AH) (m:Int)=>[(0,I m),(3,sl A1 n1 c1)]) (λA1 n1 c1 acc m=>[(ri 3 A1 n1 c1 acc)]) (λA1 n1 c1 acc m=>(n1=acc.length)/\(0<=m)/\(eX n.toNat=acc++eX m.toNat)/\(acc.length+m<=n)) (λA1 n1 c1 acc m=>m.toNat) ?_ ?_
 ·exact⟨none,0,0,[],n,⟨(Z),G,(Z),(by show((0:Nat):Int)+n<=n;omega)⟩,KP⟩
 intro A1 n1 c1 acc m ⟨cj,qn,hT,hL⟩;refine aD<|wq<|wm Z<|wy (bW Z Z)<|aA<|aX Z (λar=> ?_) (λar=> ?_)
 ·refine aI<|aD<|aG<|aK<|wm Z<|wm Z<|wS Z Z<|wy (tC Z Z)<|wa (bF .i64 [(m-1)%2] aa zs3 Z Z Z) ?_;rintro _ _⟨db,rfl,rfl⟩;refine wa (aQ 1 Z aa zb3 Z Z Z (rdr 0 Z)) ?_;rintro _ _⟨dv,dy,rfl,rfl⟩;refine bC (v:=sl dv (n1+1) dy) Z<|wn Z<|aK<|wm Z<|wS Z Z<|wy (wW Z Z G G G)<|wn Z ?_;exact⟨dv,n1+1,dy,acc++([(m-1)%2]),(m-1)/2,⟨(by rw[ah,cj];try rfl),G,(TJ hT G G G),(by rw[ah,ic];omega)⟩,G,SA,λ_ h=>h.sel [1] cC Z⟩
 ·refine aR<|wq<|wm Z<|wn Z<|aU [0] 99 ?_;refine⟨_,Z,?_⟩;obtain rfl:m=0:=G
  have e:eX n.toNat=acc:=by rw[hT];exact iw _
  rw[e];obtain rfl:=cj;exact⟨_,_,Z,Z⟩
theorem BH (h0:0<=n/\n<=1000000):
  CF 188 #[I n] w (λv R'=> ∃A c,v=sl A ((eX n.toNat).length) c/\R'=[(ri 3 A ((eX n.toNat).length) c (eX n.toNat))]):=by
 refine fn1 Tryz.func188 Z Z Z ?_;refine wq<|wn Z<|wq<|eZ (ri 3 none 0 0 ([]))<|wn Z<|aD<|aG ?_;refine fE (λ(A1:AF) (n1:Nat) (c1:Nat) (acc:AH) (m:Int)=>[(0,I m),(3,sl A1 n1 c1)]) (λA1 n1 c1 acc m=>[(ri 3 A1 n1 c1 acc)]) (λA1 n1 c1 acc m=>(n1=acc.length)/\(0<=m)/\(eX n.toNat=acc++eX m.toNat)/\(acc.length+m<=n)) (λA1 n1 c1 acc m=>m.toNat) ?_ ?_
 ·exact⟨none,0,0,[],n,⟨(Z),G,(Z),(by show((0:Nat):Int)+n<=n;omega)⟩,KP⟩
 intro A1 n1 c1 acc m ⟨cj,qn,hT,hL⟩;refine aD<|wq<|wm Z<|wy (bW Z Z)<|aA<|aX Z (λar=> ?_) (λar=> ?_)
 ·refine aI<|aG<|wq<|wm Z<|wy (tC Z Z)<|wS Z Z<|wn Z<|wq<|wm Z<|wm Z<|wS Z Z<|wa (bF .i64 [(2-(m%2))-1] aa zs3 Z Z Z) ?_;rintro _ _⟨db,rfl,rfl⟩;refine wa (aQ 1 Z aa zb3 Z Z Z (rdr 0 Z)) ?_;rintro _ _⟨dv,dy,rfl,rfl⟩;refine bC (v:=sl dv (n1+1) dy) Z<|wn Z<|aK<|wm Z<|wm Z<|wS Z Z<|wy (wW Z Z G G G)<|wn Z ?_;exact⟨dv,n1+1,dy,acc++([(2-(m%2))-1]),(m-(2-(m%2)))/2,⟨(by rw[ah,cj];try rfl),G,(TJ hT G G G),(by rw[ah,ic];omega)⟩,G,SA,λ_ h=>h.sel [1] cC Z⟩
 ·refine aR<|wq<|wm Z<|wn Z<|aU [0] 99 ?_;refine⟨_,Z,?_⟩;obtain rfl:m=0:=G
  have e:eX n.toNat=acc:=by rw[hT];exact iw _
  rw[e];obtain rfl:=cj;exact⟨_,_,Z,Z⟩
theorem aNn (fz:Rd w ju pt jx 1 (ints .u8 b)) (cv:aO b) (hN:b.length<=1000000):
  CF 77 #[sl ju pt jx] w (λv R'=> ∃A c,v=sl A ((dE 0 b).length) c/\R'=[(ri 3 A ((dE 0 b).length) c (dE 0 b))]):=by
 obtain rfl:=fz.lenI;refine fn1 Tryz.func77 Z Z Z ?_;have Hc:=fz.max;refine wq<|wn Z<|wq<|eZ (ri 3 none 0 0 ([]))<|wn Z<|wq<|wn Z<|aD<|aD ?_;refine aK<|wm Z<|wy (aL af Z)<|wm Z<|aA<|aG ?_;refine nT (λ(A1:AF) (n1:Nat) (c1:Nat) (acc:AH) (i:Int) (m:Int)=>[(3,sl A1 n1 c1),(4,I m),(7,sl ju b.length jx),(8,I (b.length:Int)),(9,I i)]) (λA1 n1 c1 acc i m=>[(ri 3 A1 n1 c1 acc)]) (λA1 n1 c1 acc i m=>(n1=acc.length)/\(0<=i)/\(i<=b.length)/\(0<=m)/\(m<=i)/\(acc++dE m.toNat (b.drop i.toNat)=dE 0 b)) (λA1 n1 c1 acc i m=>(b.length-i).toNat) ?_ ?_
 ·exact⟨none,0,0,[],0,0,⟨(Z),G,G,G,G,(Z)⟩,KP⟩
 intro A1 n1 c1 acc i m ⟨cj,aw,ff,qn,mu,hT⟩;have yr:=NG hT;have w9:=TI qn;refine wq<|wL Z Z<|aA<|aD<|aX Z (λar=> ?_) (λar=> ?_)
 ·have ux:=cv.rd i;refine aI<|aD<|aG<|wq<|wy (aF af sz5 Z Z (fz.c _))<|wy (aT az Z Z (fz.c _))<|wn Z<|aD<|wq<|wm Z<|wy (eT Z Z)<|aA ?_;refine aX Z (λbx=> ?_) (λbx=> ?_)
  ·refine wq<|wm Z<|wA Z Z<|wn Z<|aR<|aK<|wA Z Z<|wm Z<|aA ?_;exact⟨A1,n1,c1,acc,i+1,m+1,⟨(by first|exact cj|simp[cj,nz]),G,G,G,G,(TM hT aw G qn cF)⟩,G,KP⟩
  ·refine aI<|wq<|wm Z<|wm Z<|wa (aC bIj Z (Ct.fresh (λw hw=>TK G))) ?_;rintro _ _⟨_,rfl,cm,ci,rfl,rfl⟩;refine wa (aQ 1 Z aa zb3 Z Z Z (rdr 0 Z)) ?_;rintro _ _⟨kt,lj,rfl,rfl⟩;refine bC (v:=sl kt (n1+((eX (m).toNat).length)) lj) Z<|wm Z<|wy (jG az au Z)<|wA Z Z<|wa (bF .i64 [(rd b i)+1] aa zs3 Z Z Z) ?_;rintro _ _⟨nd,rfl,rfl⟩;refine wa (aQ 2 Z aa zb3 Z Z Z (rdr 0 Z)) ?_;rintro _ _⟨vq,vu,rfl,rfl⟩;refine bC (v:=sl vq ((n1+((eX (m).toNat).length))+1) vu) Z<|wn Z<|aK<|wn Z<|aK<|wA Z Z<|wm Z<|aA ?_;exact⟨vq,(n1+((eX (m).toNat).length))+1,vu,(acc++(eX (m).toNat))++([(rd b i)+1]),i+1,0,⟨(by first|exact cj|simp[cj,nz]),G,G,G,G,(DF hT aw G cF)⟩,G,SA,λ_ h=>h.sel [2] cC Z⟩
 ·refine aR<|wq<|wm Z<|wm Z<|wa (aC bIj Z (Ct.fresh (λw hw=>TK G))) ?_;rintro _ _⟨_,rfl,dt,du,rfl,rfl⟩;refine wa (aQ 1 Z aa zb3 Z Z Z (rdr 0 Z)) ?_;rintro _ _⟨fc,fd,rfl,rfl⟩;refine bC (v:=sl fc (n1+((eX (m).toNat).length)) fd) Z<|wn Z<|aU [1] 99 ?_;refine⟨_,Z,?_⟩;rw[xx G] at hT;have e2:acc++eX m.toNat=dE 0 b:=hT;have e:n1+(eX m.toNat).length=(dE 0 b).length:=by rw[<-e2,ah,cj]
  rw[e,e2];exact⟨_,_,Z,Z⟩
theorem aFt (fz:Rd w ju pt jx 1 (ints .u8 b)) (cv:aO b) (hN:b.length<=1000000):
  CF 140 #[sl ju pt jx] w (λv R'=> ∃A c,v=sl A ((dE 0 b).length) c/\R'=[(ri 3 A ((dE 0 b).length) c (dE 0 b))]):=by
 obtain rfl:=fz.lenI;refine fn1 Tryz.func140 Z Z Z ?_;have Hc:=fz.max;refine wq<|wn Z<|wq<|eZ (ri 3 none 0 0 ([]))<|wn Z<|wq<|wn Z<|aD<|aD ?_;refine aK<|wn Z<|aG ?_;refine nT (λ(A1:AF) (n1:Nat) (c1:Nat) (acc:AH) (i:Int) (m:Int)=>[(0,sl ju b.length jx),(3,sl A1 n1 c1),(4,I m),(5,I i)]) (λA1 n1 c1 acc i m=>[(ri 3 A1 n1 c1 acc)]) (λA1 n1 c1 acc i m=>(n1=acc.length)/\(0<=i)/\(i<=b.length)/\(0<=m)/\(m<=i)/\(acc++dE m.toNat (b.drop i.toNat)=dE 0 b)) (λA1 n1 c1 acc i m=>(b.length-i).toNat) ?_ ?_
 ·exact⟨none,0,0,[],0,0,⟨(Z),G,G,G,G,(Z)⟩,KP⟩
 intro A1 n1 c1 acc i m ⟨cj,aw,ff,qn,mu,hT⟩;have yr:=NG hT;have w9:=TI qn;refine aD<|wq<|wm Z<|wm Z<|wy (aL af Z)<|wL Z Z<|aA<|aX Z (λar=> ?_) (λar=> ?_)
 ·have ux:=cv.rd i;refine aI<|aD<|aG<|aD<|wq<|wm Z<|wm Z<|wy (aF af sz5 Z Z (fz.c _))<|wy (aT az Z Z (fz.c _))<|wy (eT Z Z)<|aA<|aX Z (λbx=> ?_) (λbx=> ?_)
  ·refine wq<|wm Z<|wA Z Z<|wn Z<|aR<|aK<|wm Z<|wA Z Z<|wn Z ?_;exact⟨A1,n1,c1,acc,i+1,m+1,⟨(by first|exact cj|simp[cj,nz]),G,G,G,G,(TM hT aw G qn cF)⟩,G,KP⟩
  ·refine aI<|aD<|CR (Rc:=[]) mixed (λ_ h=>h.sel [] cC Z) ?_;refine gI 0 Z cA Z (aJ Z) ?_;refine gI 1 Z cA Z (aJ Z) ?_;refine gI 4 Z cA Z (aJ Z) ?_;refine gI 5 Z cA Z (aJ Z) ?_;refine gI 6 Z cA Z (aF af sz5 Z Z (fz.c _)) ?_;refine gI 7 Z cA Z (aT az Z Z (fz.c _)) ?_;refine gI 8 Z cA Z (jG az au Z) ?_;refine gI 9 Z cA Z (bT Z Z) ?_;refine YI 2 10 cA ?_ ?_
   ·refine qQ 2 Z Z (aC aZk Z (Ct.fresh (λw hw=>BH G))) ?_;rintro _ _⟨_,rfl,cm,ci,rfl,rfl⟩;refine⟨λ_ h=>h.sel [] cC Z,?_⟩;refine YI 3 10 cA ?_ ?_
    ·refine qQ 3 Z Z (aQ 1 Z aa zb3 Z Z Z (rdr 0 Z)) ?_;rintro _ _⟨kt,lj,rfl,rfl⟩;refine⟨λ_ h=>h.sel [] cC Z,?_⟩;refine tY (v:=sl kt (n1+((eX (m).toNat).length)) lj) Z ?_;refine jF 10 cA ?_;refine qQ 10 Z Z (bF .i64 [(rd b i)+1] aa zs3 Z Z Z) ?_;rintro _ _⟨nd,rfl,rfl⟩;refine⟨λ_ h=>h.sel [] cC Z,?_⟩;refine jF 11 cA ?_;refine qQ 11 Z Z (aQ 2 Z aa zb3 Z Z Z (rdr 0 Z)) ?_;rintro _ _⟨vq,vu,rfl,rfl⟩;refine⟨λ_ h=>h.sel [] cC Z,?_⟩;refine tY (v:=sl vq ((n1+((eX (m).toNat).length))+1) vu) Z ?_;refine gI 12 Z cA Z (aW Z) ?_;refine uJ cA ?_;refine aK<|wn Z<|aK<|wm Z<|wA Z Z<|wn Z ?_;exact⟨vq,(n1+((eX (m).toNat).length))+1,vu,(acc++(eX (m).toNat))++([(rd b i)+1]),i+1,0,⟨(by first|exact cj|simp[cj,nz]),G,G,G,G,(DF hT aw G cF)⟩,G,SA,λ_ h=>h.sel [2] cC Z⟩
    ·refine qQ 10 Z Z (bF .i64 [(rd b i)+1] aa zs3 Z Z Z) ?_;rintro _ _⟨oc,rfl,rfl⟩;refine⟨λ_ h=>h.sel [] cC Z,?_⟩;refine jF 3 cA ?_;refine qQ 3 Z Z (aQ 2 Z aa zb3 Z Z Z (rdr 1 Z)) ?_;rintro _ _⟨li,io,rfl,rfl⟩;refine⟨λ_ h=>h.sel [] cC Z,?_⟩;refine tY (v:=sl li (n1+((eX (m).toNat).length)) io) Z ?_;refine jF 11 cA ?_;refine qQ 11 Z Z (aQ 2 Z aa zb3 Z Z Z (rdr 0 Z)) ?_;rintro _ _⟨gh,gi,rfl,rfl⟩;refine⟨λ_ h=>h.sel [] cC Z,?_⟩;refine tY (v:=sl gh ((n1+((eX (m).toNat).length))+1) gi) Z ?_;refine gI 12 Z cA Z (aW Z) ?_;refine uJ cA ?_;refine aK<|wn Z<|aK<|wm Z<|wA Z Z<|wn Z ?_;exact⟨gh,(n1+((eX (m).toNat).length))+1,gi,(acc++(eX (m).toNat))++([(rd b i)+1]),i+1,0,⟨(by first|exact cj|simp[cj,nz]),G,G,G,G,(DF hT aw G cF)⟩,G,SA,λ_ h=>h.sel [2] cC Z⟩
   ·refine qQ 10 Z Z (bF .i64 [(rd b i)+1] aa zs3 Z Z Z) ?_;rintro _ _⟨Cp,rfl,rfl⟩;refine⟨λ_ h=>h.sel [] cC Z,?_⟩;refine jF 2 cA ?_;refine qQ 2 Z Z (aC aZk Z (Ct.fresh (λw hw=>BH G))) ?_;rintro _ _⟨_,rfl,xi,ob,rfl,rfl⟩;refine⟨λ_ h=>h.sel [] cC Z,?_⟩;refine jF 3 cA ?_;refine qQ 3 Z Z (aQ 2 Z aa zb3 Z Z Z (rdr 0 Z)) ?_;rintro _ _⟨nb,nc,rfl,rfl⟩;refine⟨λ_ h=>h.sel [] cC Z,?_⟩;refine tY (v:=sl nb (n1+((eX (m).toNat).length)) nc) Z ?_;refine jF 11 cA ?_;refine qQ 11 Z Z (aQ 2 Z aa zb3 Z Z Z (rdr 1 Z)) ?_;rintro _ _⟨sg,sm,rfl,rfl⟩;refine⟨λ_ h=>h.sel [] cC Z,?_⟩;refine tY (v:=sl sg ((n1+((eX (m).toNat).length))+1) sm) Z ?_;refine gI 12 Z cA Z (aW Z) ?_;refine uJ cA ?_;refine aK<|wn Z<|aK<|wm Z<|wA Z Z<|wn Z ?_;exact⟨sg,(n1+((eX (m).toNat).length))+1,sm,(acc++(eX (m).toNat))++([(rd b i)+1]),i+1,0,⟨(by first|exact cj|simp[cj,nz]),G,G,G,G,(DF hT aw G cF)⟩,G,SA,λ_ h=>h.sel [2] cC Z⟩
 ·refine aR<|wq<|wm Z<|wm Z<|wa (aC aZk Z (Ct.fresh (λw hw=>BH G))) ?_;rintro _ _⟨_,rfl,zd,zv,rfl,rfl⟩;refine wa (aQ 1 Z aa zb3 Z Z Z (rdr 0 Z)) ?_;rintro _ _⟨rm,rv,rfl,rfl⟩;refine bC (v:=sl rm (n1+((eX (m).toNat).length)) rv) Z<|wn Z<|aU [1] 99 ?_;refine⟨_,Z,?_⟩;rw[xx G] at hT;have e2:acc++eX m.toNat=dE 0 b:=hT;have e:n1+(eX m.toNat).length=(dE 0 b).length:=by rw[<-e2,ah,cj]
  rw[e,e2];exact⟨_,_,Z,Z⟩
end
section
variable {B g n c:Nat} {w0 w:World} {R:List Row} {A:AF} {C:AH} {fi:Int}
theorem PL (hn:n=C.length) (hs:0<=fi/\fi<C.length):
  CT 131 #[PG g,I fi] B w0 ((rc 188 2 g [sl A n c,I (cK C)])::(ri 3 A n c C)::R) (λv R'=>v=bt/\R'=(rc 188 2 g [sl A n c,I (cK C)])::(ri 3 A n c C)::R):=by
 subst hn;refine fn1 Tryz.func131 Z Z Z ?_;refine wq<|wn Z<|wq<|wm Z<|wy (bBx Fp Z Z)<|wm Z<|aB Z Z<|wm Z<|aB Z Z<|wy (Yl.t (iL Z Z) G)<|wy (aS Z Z)<|wm Z ?_;refine aB Z Z<|wm Z<|aB Z Z<|wm Z<|aB Z Z<|wy (aH Z)<|aB Z Z<|wy (yF 0 0 qw eY Z)<|aB Z Z<|wy (yL 0 aa Z Z Z)<|aB Z Z<|wy (aL aa Z)<|aB Z Z<|wy (Yl.t (eQ Z Z) G)<|wy (aS Z Z) ?_;refine wn Z<|bO (R1:=((rc 188 2 g [sl A C.length c,I (cK C)])::(ri 3 A C.length c C)::R)) hiZ ?_;exact⟨_,Z,Z,Z⟩
theorem jV:
  CT 82 #[PG g] B w0 ((rc 188 2 g [sl A n c,I (cK C)])::(ri 3 A n c C)::R) (λv R'=>v=I (cK C)/\R'=(rc 188 2 g [sl A n c,I (cK C)])::(ri 3 A n c C)::R):=by
 refine fn1 Tryz.func82 Z Z Z ?_;refine wq<|wn Z<|aD<|wq<|wm Z<|wy (kZ Fp Z Z)<|aA<|aP Z<|aI<|wq<|wm Z ?_;refine wy (aH Z)<|wy (yF 1 1 qw sz3 Z)<|wy (yL 0 au Z Z Z)<|wn Z<|bO (R1:=((rc 188 2 g [sl A n c,I (cK C)])::(ri 3 A n c C)::R)) hiZ ?_;exact⟨_,Z,Z,Z⟩
theorem lV (hn:n=C.length) (hs:0<=fi/\fi<C.length) (dq:mE C):
  CT 80 #[PG g,I fi] B w0 ((rc 188 2 g [sl A n c,I (cK C)])::(ri 3 A n c C)::R) (λv R'=>v= .tuple #[I (cK (C.take fi.toNat)),I (rd C fi),bt]/\R'=(rc 188 2 g [sl A n c,I (cK C)])::(ri 3 A n c C)::R):=by
 subst hn;refine fn3 Tryz.func80 Z Z Z ?_;refine wq<|wg Z<|wg Z<|wn Z<|aD<|wq<|wm Z<|wm Z<|wa (aC bIg Z ((PL Z G))) ?_;rintro _ _⟨rfl,rfl⟩;refine wy (dC Z)<|aA<|aP Z<|aI<|aD<|wq<|wm Z<|wy (aH Z)<|wy (yF 0 0 qw eY Z)<|wy (yL 0 aa Z Z Z)<|wm Z<|wy (eD aa sz3 Z Z (rdr 1 Z))<|wy (aL aa Z)<|wm Z ?_;refine aA<|aG ?_;refine dI (λ(i:Int) (low:Int)=>[(0,PG g),(1,I fi),(4,I low),(18,sl A ((fi).toNat) c),(19,I (((fi).toNat:Nat):Int)),(20,I i)]) (λi low=>((rc 188 2 g [sl A C.length c,I (cK C)])::(ri 3 A C.length c C)::R)) (λi low=>(0<=i)/\(i<=fi)/\(low=cK (C.take i.toNat))) (λi low=>(fi-i).toNat) ?_ ?_
 ·exact⟨0,0,⟨G,G,(Z)⟩,KP⟩
 intro i low ⟨aw,ff,s9⟩;have k8:=uL (i:=i) dq.2.1 aw G;have Me:=dq.2.2;have kf:=dq.1;have Gk:=XA (l:=C) (k:=fi) (i:=i) aw;refine wq<|wL Z Z<|aA<|aD<|aX Z (λar=> ?_) (λar=> ?_)
 ·have Gk:=Gk G;refine aI<|aD<|aG<|wq<|wy (aF aa sz3 Z Z (RdC.toI (h:=(fi).toNat) (rdr 1 Z) cG)) ?_;refine wy (aT au Z Z (RdC.toI (h:=(fi).toNat) (rdr 1 Z) cG)) ?_;refine wn Z<|aK<|wm Z<|wm Z<|wA Z Z<|wn Z<|aK<|wA Z Z<|wm Z<|aA ?_;exact⟨i+1,low+(rd ((C).take (fi).toNat) i),⟨G,G,(by rw[oP aw G,<-s9,XA aw G])⟩,G,KP⟩
 ·refine aR<|aD<|bD mixed<|wD 0 Z (aJ Z)<|wD 1 Z (aJ Z)<|wD 2 Z (aH Z)<|wD 3 Z (yF 0 0 qw eY Z)<|wD 4 Z (yL 0 aa Z Z Z)<|wD 5 Z (aJ Z)<|wD 6 Z (aF aa sz3 Z Z (rdr 1 Z))<|wD 7 Z (aT au Z Z (rdr 1 Z))<|wD 8 Z (aW Z)<|wD 9 Z (aW Z)<|wD 10 Z (aW Z)<|wN ?_;refine bO (R1:=((rc 188 2 g [sl A C.length c,I (cK C)])::(ri 3 A C.length c C)::R)) hiZ ?_;refine⟨_,_,_,Z,Z,Z,?_⟩;obtain rfl:i=fi:=G
  rw[<-s9];exact⟨Z,Z⟩
theorem xW:
  CF 126 #[I 258] w (λv R'=> ∃g A c,v=PG g/\R'=[(rc 188 2 g [sl A 258 c,I 258]),(ri 3 A 258 c zX)]):=by
 refine fn1 Tryz.func126 Z Z Z ?_;refine wq<|wn Z<|aD<|wq<|wm Z<|wy (Yl.f (eQ Z Z) cC)<|wm Z<|aB Z Z<|wm Z<|aB Z Z<|wy (Yl.f (bW Z Z) cC)<|wy (aN Z Z) ?_;refine aA<|aP Z<|aI<|wq<|wm Z<|wm Z<|wa (dK aa zb3 Z Z) ?_;rintro _ _⟨ap,rfl,rfl⟩;refine bC (v:=sl (GG ap) ((258:Int).toNat) ((258:Int).toNat)) Z<|wy (iC (v:= .agg #[sl (GG ap) ((258:Int).toNat) ((258:Int).toNat),I 258]) Z (λw=>cA))<|wa (bX (sz:=2) rfl rfl) ?_;rintro _ _⟨db,rfl,rfl⟩;refine wn Z<|aD<|wq<|wm Z<|wy (aH Z)<|wy (yF 0 0 qw eY Z)<|wy (yL 0 aa Z Z Z)<|wy (aL aa Z)<|wm Z<|aA<|aG ?_;refine dI (λ(i:Int) (V:AH)=>[(3,PG db),(20,I (((258:Int).toNat:Nat):Int)),(21,I i)]) (λi V=>[(rc 188 2 db [sl (GG ap) ((258:Int).toNat) ((258:Int).toNat),I 258]),(ri 3 (GG ap) ((258:Int).toNat) ((258:Int).toNat) V)]) (λi V=>(0<=i)/\(i<=258)/\(V.length=258)/\(∀j:Int,0<=j->j<i->rd V j=1)) (λi V=>(258-i).toNat) ?_ ?_
 ·exact⟨0,List.replicate ((258:Int).toNat) (0:Int),⟨G,G,(bz),(λj h1 h2=>G)⟩,KP⟩
 intro i V ⟨aw,ff,kc,hV⟩;refine wq<|wL Z Z<|aA<|aD<|aX Z (λar=> ?_) (λar=> ?_)
 ·refine aI<|aD<|aG<|wq<|wm Z<|wn Z<|aK<|wm Z<|wy (aH Z)<|wy (yF 0 0 qw eY Z)<|wy (yL 0 aa Z Z Z)<|wm Z<|wy (aF aa sz3 Z Z (rdr 1 Z)) ?_;refine bZ (bE 1 Z sz3 Z Z) ?_;rintro _ _ rfl;refine aA<|aK<|wA Z Z<|wm Z<|aA ?_;exact⟨i+1,upd V i 1,⟨G,G,(by rw[aY];exact kc),(fH (f:=λ_=>1) aw G hV Z)⟩,G,KP⟩
 ·refine aR<|wq<|wm Z<|wn Z<|bO (R1:=[(rc 188 2 db [sl (GG ap) ((258:Int).toNat) ((258:Int).toNat),I 258]),(ri 3 (GG ap) ((258:Int).toNat) ((258:Int).toNat) V)]) hiZ ?_;refine⟨_,Z,?_⟩;obtain rfl:V=zX:=bKi kc (λj h1 h2=>hV j h1 G);exact⟨_,_,_,Z,Z⟩
theorem vO:
  CF 191 #[I 258] w (λv R'=> ∃g A c,v=PG g/\R'=[(rc 239 1 g [sl A 258 c]),(ri 3 A 258 c zX)]):=by
 refine fn1 Tryz.func191 Z Z Z ?_;refine wq<|wn Z<|aD<|wq<|wm Z<|wy (Yl.f (eQ Z Z) cC)<|wm Z<|aB Z Z<|wm Z<|aB Z Z<|wy (Yl.f (bW Z Z) cC)<|wy (aN Z Z) ?_;refine aA<|aP Z<|aI<|wq<|wy (iC (v:= .agg #[sl none 0 0]) Z (λw=>cA))<|wa (bX (sz:=1) rfl rfl) ?_;rintro _ _⟨ap,rfl,rfl⟩;refine eZ (ri 3 none 0 0 ([]))<|wn Z<|aD<|wq<|wn Z<|aG ?_;refine fE (λ(i:Int) (A1:AF) (n1:Nat) (c1:Nat) (acc:AH)=>[(0,I 258),(3,PG ap),(4,I i)]) (λi A1 n1 c1 acc=>[(ri 3 A1 n1 c1 acc),(rc 239 1 ap [sl A1 n1 c1])]) (λi A1 n1 c1 acc=>(0<=i)/\(i<=258)/\(n1=acc.length)/\(acc=List.replicate i.toNat 1)) (λi A1 n1 c1 acc=>(258-i).toNat) ?_ ?_
 ·exact⟨0,none,0,0,[],⟨G,G,(Z),(Z)⟩,KP⟩
 intro i A1 n1 c1 acc ⟨aw,ff,cj,bb⟩;have mw:=bq List.length bb;rw[bz] at mw;refine aD<|wq<|wm Z<|wm Z<|wL Z Z<|aA<|aX Z (λar=> ?_) (λar=> ?_)
 ·refine aI<|aD<|aG<|aK<|wm Z<|wm Z<|wy (aH Z)<|wy (yF 0 0 vo eY Z)<|wy (yL 1 aa Z Z Z)<|wa (bF .i64 [1] aa zs3 Z Z Z) ?_;rintro _ _⟨gw,rfl,rfl⟩;refine wa (aQ 1 Z aa zb3 Z Z Z (rdr 0 Z)) ?_;rintro _ _⟨kt,lj,rfl,rfl⟩;refine bC (v:=sl kt (n1+1) lj) Z<|wy (aH Z)<|wy (yF 0 0 vo eY Z)<|bZ (bB 2 Z Z Z eY Z Z Z Z (ak Z)) ?_;rintro _ _ rfl;refine aA<|aK<|wm Z<|wA Z Z<|wn Z ?_;exact⟨i+1,kt,(n1+1),lj,acc++([1]),⟨G,G,(by rw[ah,cj];rfl),(by rw[bb,show(i+1).toNat=i.toNat+1 by omega,Bt])⟩,G,SA,λ_ h=>h.sel [1,2] cC Z⟩
 ·refine aR<|wq<|wm Z<|wn Z<|aU [1,0] 99 ?_;refine⟨_,Z,?_⟩;obtain rfl:i=258:=G
  subst bb;obtain rfl:n1=258:=by rw[cj,bz];rfl
  exact⟨_,_,_,Z,Z⟩
theorem xV (hn:n=C.length) (hs:0<=fi/\fi<C.length) (dq:mE C):
  CT 134 #[PG g,I fi] B w0 ((rc 188 2 g [sl A n c,I (cK C)])::(ri 3 A n c C)::R) (λv R'=>v=bt/\R'=(rc 188 2 g [sl A n c,I (cK (mJ C fi))])::(ri 3 A n c (mJ C fi))::R):=by
 subst hn;have kf:=dq.1;have k8:=dq.le.part (i:=fi) hs.1 G;have k9:=dq.up (s:=fi) hs.1 G;have Me:=dq.2.2;have vn:=k9.1.1;have Np:=tK dq.2.1;refine fn1 Tryz.func134 Z Z Z ?_;refine wq<|wn Z<|aD<|wq<|wm Z<|wm Z<|wa (aC bIg Z ((PL Z G))) ?_;rintro _ _⟨rfl,rfl⟩;refine wy (dC Z)<|aA<|aP Z<|aI<|wq<|wm Z<|wy (aH Z)<|wy (yF 0 0 qw eY Z)<|wy (yL 0 aa Z Z Z)<|wm Z<|wy (aF aa sz3 Z Z (rdr 1 Z))<|wy (aT au Z Z (rdr 1 Z))<|wA Z Z<|wy (aF aa sz3 Z Z (rdr 1 Z)) ?_;refine bZ (bE 1 Z sz3 Z Z) ?_;rintro _ _ rfl;refine aA<|wq<|wm Z<|wy (aH Z)<|wy (yF 1 1 qw sz3 Z)<|wy (yL 0 au Z Z Z)<|wA Z Z<|wy (aH Z)<|wy (yF 1 1 qw sz3 Z)<|bZ (bB 0 Z Z Z sz3 Z Z Z Z (ak Z)) ?_;rintro _ _ rfl;refine aA<|aD<|wq<|wm Z<|wy (aH Z)<|wy (yF 1 1 qw sz3 Z)<|wy (yL 0 au Z Z Z)<|wy (bW Z Z)<|aA<|aX Z (λar=> ?_) (λar=> ?_)
 ·refine wq<|wm Z<|wy (aH Z)<|wy (yF 1 1 qw sz3 Z)<|bZ (bB 0 Z Z Z sz3 Z Z Z Z (ak Z)) ?_;rintro _ _ rfl;refine aA<|wq<|wm Z<|wy (aH Z)<|wy (yF 0 0 qw eY Z)<|wy (yL 0 aa Z Z Z)<|wy (aL aa Z)<|wm Z<|aA<|aG ?_;refine fZ (λ(i:Int) (V:AH) (t:Int)=>[(0,PG g),(38,sl A C.length c),(39,I (C.length:Int)),(40,I i)]) (λi V t=>((rc 188 2 g [sl A C.length c,I t])::(ri 3 A C.length c V)::R)) (λi V t=>(0<=i)/\(i<=258)/\(KM (upd C fi (rd C fi+32)) V i t)) (λi V t=>(258-i).toNat) ?_ ?_
  ·exact⟨0,upd C fi ((rd C fi)+32),0,⟨G,G,(PX vn)⟩,KP⟩
  intro i V t ⟨aw,ff,hI⟩;have Vz:=k9.1.part (i:=i) aw;have Rw:=k9.1.half.le.part (i:=i) aw;have kc:=hI.len;have Tt:=hI.sum;refine wq<|wL Z Z<|aA<|aD<|aX Z (λbx=> ?_) (λbx=> ?_)
  ·have Vz:=Vz G;have Rw:=Rw G;have Wk:=hI.left i G G;have Xi:=fO (l:=V) (i:=i) (v:=(rd V i+1)/2) aw G;have hht:0<=t/\t<=65536:=by rw[Tt];exact Rw.1
   refine aI<|aD<|aG<|wq<|wm Z<|wy (aF aa sz3 Z Z (rdr 1 Z))<|wy (aT au Z Z (rdr 1 Z))<|wg Z<|wn Z<|wq<|wm Z<|wy (aH Z) ?_;refine wy (yF 0 0 qw eY Z)<|wy (yL 0 aa Z Z Z)<|wm Z<|wm Z<|wA Z Z<|wy (wW Z Z G G G)<|wy (aF aa sz3 Z Z (rdr 1 Z))<|bZ (bE 1 Z sz3 Z Z) ?_;rintro _ _ rfl;refine aA<|bD mixed<|wD 0 Z (aJ Z)<|wD 1 Z (aH Z)<|wD 2 Z (yF 1 1 qw sz3 Z)<|wD 3 Z (yL 0 au Z Z Z)<|wD 4 Z (aJ Z)<|wD 5 Z (aH Z)<|wD 6 Z (yF 0 0 qw eY Z)<|wD 7 Z (yL 0 aa Z Z Z)<|wD 8 Z (aJ Z)<|wD 9 Z (aF aa sz3 Z Z (rdr 1 Z))<|wD 10 Z (aT au Z Z (rdr 1 Z))<|wD 11 Z (bT Z Z)<|wD 12 Z (aH Z) ?_;refine wD 13 Z (yF 1 1 qw sz3 Z)<|qC 14 Z cA (bB 0 Z Z Z sz3 Z Z Z Z (ak Z)) ?_;rintro _ _ rfl;refine⟨.inl cA,?_⟩;refine wN<|aK<|wA Z Z<|wm Z<|aA ?_;exact⟨i+1,upd V i (((rd V i)+1)/2),(t+rd (upd V i ((rd V i+1)/2)) i),⟨G,G,(hI.step vn aw G)⟩,G,KP⟩
  ·refine aR<|wq<|wn Z<|bO (R1:=((rc 188 2 g [sl A C.length c,I t])::(ri 3 A C.length c V)::R)) hiZ ?_;refine⟨_,Z,?_⟩;obtain rfl:i=258:=G
   obtain⟨e1,e2⟩:=hI.done_all vn;have e3:mJ C fi=V:=by unfold mJ;rw[dm G,e1]
   rw[e3,e1,<-e2];exact⟨Z,Z⟩
 ·refine aI<|wq<|wn Z<|bO (R1:=((rc 188 2 g [sl A C.length c,I ((cK C)+32)])::(ri 3 A C.length c (upd C fi ((rd C fi)+32)))::R)) hiZ ?_;refine⟨_,Z,?_⟩;have e3:mJ C fi=(upd C fi (rd C fi+32)):=by unfold mJ;rw[df G]
  rw[e3,k9.2];exact⟨Z,Z⟩
theorem nY (hn:n=C.length) (Zm:RQ C):
  CT 147 #[PG g] B w0 ((rc 239 1 g [sl A n c])::(ri 3 A n c C)::R) (λv R'=>v=I (cK C)/\R'=(rc 239 1 g [sl A n c])::(ri 3 A n c C)::R):=by
 subst hn;refine fn1 Tryz.func147 Z Z Z ?_;refine wq<|wn Z<|wq<|wn Z<|aD<|wq<|wn Z<|aG ?_;refine dI (λ(i:Int) (t:Int)=>[(0,PG g),(3,I t),(4,I i)]) (λi t=>((rc 239 1 g [sl A C.length c])::(ri 3 A C.length c C)::R)) (λi t=>(0<=i)/\(i<=C.length)/\(t=cK (C.take i.toNat))) (λi t=>(C.length-i).toNat) ?_ ?_
 ·exact⟨0,0,⟨G,G,(Z)⟩,KP⟩
 intro i t ⟨aw,ff,ht⟩;have kf:=Zm.1;have k8:=Zm.part (i:=i) aw;refine aD<|wq<|wm Z<|wm Z<|wy (aH Z)<|wy (yF 0 0 vo eY Z)<|wy (yL 0 aa Z Z Z)<|wy (aL aa Z)<|wL Z Z<|aA<|aX Z (λar=> ?_) (λar=> ?_)
 ·have k8:=k8 G;refine aI<|aD<|aG<|aK<|wm Z<|wm Z<|wy (aH Z)<|wy (yF 0 0 vo eY Z)<|wy (yL 0 aa Z Z Z)<|wm Z<|wy (aF aa sz3 Z Z (rdr 1 Z))<|wy (aT au Z Z (rdr 1 Z))<|wA Z Z<|wn Z ?_;refine aK<|wm Z<|wA Z Z<|wn Z ?_;exact⟨i+1,t+(rd C i),⟨G,G,(by rw[oP aw G,<-ht])⟩,G,KP⟩
 ·refine aR<|wq<|wm Z<|wn Z<|bO (R1:=((rc 239 1 g [sl A C.length c])::(ri 3 A C.length c C)::R)) hiZ ?_;refine⟨_,Z,?_⟩;rw[bg G] at ht;subst ht;exact⟨Z,Z⟩
theorem uD (hn:n=C.length) (hs:0<=fi/\fi<C.length) (dq:mE C):
  CT 145 #[PG g,I fi] B w0 ((rc 239 1 g [sl A n c])::(ri 3 A n c C)::R) (λv R'=>v= .tuple #[I (cK (C.take fi.toNat)),I (rd C fi),bt]/\R'=(rc 239 1 g [sl A n c])::(ri 3 A n c C)::R):=by
 subst hn;refine fn3 Tryz.func145 Z Z Z ?_;refine wq<|wg Z<|wg Z<|wn Z<|aD<|wq<|wm Z<|wy (Yl.f (eQ Z Z))<|wm Z<|aB Z Z<|wm Z<|aB Z Z ?_;refine wm Z<|aB Z Z<|wy (aH Z)<|aB Z Z<|wy (yF 0 0 vo eY Z)<|aB Z Z<|wy (yL 0 aa Z Z Z)<|aB Z Z<|wy (aL aa Z)<|aB Z Z<|wy (Yl.f (iL Z Z))<|wy (aN Z Z)<|aA<|aP Z<|aI ?_;refine wq<|wn Z<|aD<|wq<|wn Z<|aG ?_;refine dI (λ(i:Int) (low:Int)=>[(0,PG g),(1,I fi),(7,I low),(8,I i)]) (λi low=>((rc 239 1 g [sl A C.length c])::(ri 3 A C.length c C)::R)) (λi low=>(0<=i)/\(i<=fi)/\(low=cK (C.take i.toNat))) (λi low=>(fi-i).toNat) ?_ ?_
 ·exact⟨0,0,⟨G,G,(Z)⟩,KP⟩
 intro i low ⟨aw,ff,s9⟩;have kf:=dq.1;have k8:=dq.le.part (i:=i) aw G;refine aD<|wq<|wm Z<|wm Z<|wL Z Z<|aA<|aX Z (λar=> ?_) (λar=> ?_)
 ·refine aI<|aD<|aG<|aK<|wm Z<|wm Z<|wy (aH Z)<|wy (yF 0 0 vo eY Z)<|wy (yL 0 aa Z Z Z)<|wm Z<|wy (aF aa sz3 Z Z (rdr 1 Z))<|wy (aT au Z Z (rdr 1 Z))<|wA Z Z<|wn Z ?_;refine aK<|wm Z<|wA Z Z<|wn Z ?_;exact⟨i+1,low+(rd C i),⟨G,G,(by rw[oP aw G,<-s9])⟩,G,KP⟩
 ·refine aR<|aD<|bD mixed<|wD 0 Z (aJ Z)<|wD 1 Z (aJ Z)<|wD 2 Z (aH Z)<|wD 3 Z (yF 0 0 vo eY Z)<|wD 4 Z (yL 0 aa Z Z Z)<|wD 5 Z (aJ Z)<|wD 6 Z (aF aa sz3 Z Z (rdr 1 Z))<|wD 7 Z (aT au Z Z (rdr 1 Z))<|wD 8 Z (aW Z)<|wD 9 Z (aW Z)<|wD 10 Z (aW Z)<|wN ?_;refine bO (R1:=((rc 239 1 g [sl A C.length c])::(ri 3 A C.length c C)::R)) hiZ ?_;refine⟨_,_,_,Z,Z,Z,?_⟩;obtain rfl:i=fi:=G
  rw[<-s9];exact⟨Z,Z⟩
theorem vN (hn:n=C.length) (hs:0<=fi/\fi<C.length) (dq:mE C):
  CT 148 #[PG g,I fi] B w0 ((rc 239 1 g [sl A n c])::(ri 3 A n c C)::R) (λv R'=>v=bt/\R'=(rc 239 1 g [sl A n c])::(ri 3 A n c (mJ C fi))::R):=by
 subst hn;have kf:=dq.1;have k8:=dq.le.part (i:=fi) hs.1 G;have k9:=dq.up (s:=fi) hs.1 G;have Me:=dq.2.2;have vn:=k9.1.1;have Np:=tK dq.2.1;refine fn1 Tryz.func148 Z Z Z ?_;refine wq<|wn Z<|aD<|wq<|wm Z<|wy (Yl.f (eQ Z Z))<|wm Z<|aB Z Z<|wm Z<|aB Z Z<|wm Z<|aB Z Z ?_;refine wy (aH Z)<|aB Z Z<|wy (yF 0 0 vo eY Z)<|aB Z Z<|wy (yL 0 aa Z Z Z)<|aB Z Z<|wy (aL aa Z)<|aB Z Z<|wy (Yl.f (iL Z Z))<|wy (aN Z Z)<|aA<|aP Z<|aI<|aD<|bD mixed ?_;refine wD 0 Z (aJ Z)<|wD 1 Z (aH Z)<|wD 2 Z (yF 0 0 vo eY Z)<|wD 3 Z (yL 0 aa Z Z Z)<|wD 4 Z (aJ Z)<|wD 5 Z (aJ Z)<|wD 6 Z (aH Z)<|wD 7 Z (yF 0 0 vo eY Z)<|wD 8 Z (yL 0 aa Z Z Z)<|wD 9 Z (aJ Z)<|wD 10 Z (aF aa sz3 Z Z (rdr 1 Z))<|wD 11 Z (aT au Z Z (rdr 1 Z))<|wD 12 Z (bT Z Z)<|wD 13 Z (aF aa sz3 Z Z (rdr 1 Z))<|qC 14 Z cA (bE 1 Z sz3 Z Z) ?_;rintro _ _ rfl;refine⟨.inl cA,?_⟩;refine wN<|aD<|wq<|wm Z<|wa (aC aLv Z ((nY (by rw[vn,kf]) k9.1))) ?_;rintro _ _⟨rfl,rfl⟩;refine wy (bW Z Z)<|aA<|aX Z (λar=> ?_) (λar=> ?_)
 ·refine wq<|wn Z<|aG ?_;refine fZ (λ(i:Int) (V:AH) (t:Int)=>[(0,PG g),(5,I i)]) (λi V t=>((rc 239 1 g [sl A C.length c])::(ri 3 A C.length c V)::R)) (λi V t=>(0<=i)/\(i<=258)/\(KM (upd C fi (rd C fi+32)) V i t)) (λi V t=>(258-i).toNat) ?_ ?_
  ·exact⟨0,upd C fi ((rd C fi)+32),0,⟨G,G,(PX vn)⟩,KP⟩
  intro i V t ⟨aw,ff,hI⟩;have Vz:=k9.1.part (i:=i) aw;have Rw:=k9.1.half.le.part (i:=i) aw;have kc:=hI.len;have Tt:=hI.sum;refine aD<|wq<|wm Z<|wm Z<|wy (aH Z)<|wy (yF 0 0 vo eY Z)<|wy (yL 0 aa Z Z Z)<|wy (aL aa Z)<|wL Z Z<|aA<|aX Z (λbx=> ?_) (λbx=> ?_)
  ·have Vz:=Vz G;have Rw:=Rw G;have Wk:=hI.left i G G;have Xi:=fO (l:=V) (i:=i) (v:=(rd V i+1)/2) aw G;have hht:0<=t/\t<=65536:=by rw[Tt];exact Rw.1
   refine aI<|aD<|aG<|bD mixed<|wD 0 Z (aJ Z)<|wD 1 Z (aH Z)<|wD 2 Z (yF 0 0 vo eY Z)<|wD 3 Z (yL 0 aa Z Z Z)<|wD 4 Z (aJ Z)<|wD 5 Z (aJ Z)<|wD 6 Z (aH Z)<|wD 7 Z (yF 0 0 vo eY Z)<|wD 8 Z (yL 0 aa Z Z Z)<|wD 9 Z (aJ Z)<|wD 10 Z (aF aa sz3 Z Z (rdr 1 Z)) ?_;refine wD 11 Z (aT au Z Z (rdr 1 Z))<|wD 12 Z (bT Z Z)<|wD 13 Z (wW Z Z G G G)<|wD 14 Z (aF aa sz3 Z Z (rdr 1 Z))<|qC 15 Z cA (bE 1 Z sz3 Z Z) ?_;rintro _ _ rfl;refine⟨.inl cA,?_⟩;refine wN<|aK<|wm Z<|wA Z Z<|wn Z ?_;exact⟨i+1,upd V i (((rd V i)+1)/2),(t+rd (upd V i ((rd V i+1)/2)) i),⟨G,G,(hI.step vn aw G)⟩,G,KP⟩
  ·refine aR<|wq<|wn Z<|bO (R1:=((rc 239 1 g [sl A C.length c])::(ri 3 A C.length c V)::R)) hiZ ?_;refine⟨_,Z,?_⟩;obtain rfl:i=258:=G
   obtain⟨e1,e2⟩:=hI.done_all vn;have e3:mJ C fi=V:=by unfold mJ;rw[dm G,e1]
   rw[e3,e1];exact⟨Z,Z⟩
 ·refine aI<|wq<|wn Z<|bO (R1:=((rc 239 1 g [sl A C.length c])::(ri 3 A C.length c (upd C fi ((rd C fi)+32)))::R)) hiZ ?_;refine⟨_,Z,?_⟩;have e3:mJ C fi=(upd C fi (rd C fi+32)):=by unfold mJ;rw[df G]
  rw[e3];exact⟨Z,Z⟩
end
section
variable {w w0:World} {low size total r:Int} {B g n c:Nat} {R:List Row} {A:AF} {b:AH}
theorem KC (j4:uK low size total):
  CF 132 #[I low,I size,I total] w (λv R'=>v=bt):=by
 refine fn1 Tryz.func132 Z Z Z ?_;obtain⟨s1,s2,s3,s4⟩:=j4;refine wq<|wn Z<|wq<|wm Z<|wy (Yl.t (qM Z Z) G)<|wm Z<|aB Z Z<|wm Z<|aB Z Z<|wy (Yl.t (iL Z Z) G)<|wy (aS Z Z)<|wm Z ?_;refine aB Z Z<|wm Z<|aB Z Z<|wy (Yl.t (iL Z Z) G)<|wy (aS Z Z)<|wm Z<|aB Z Z<|wm Z<|aB Z Z<|wm Z<|aB Z Z<|wy (Yl.t (qM Z Z) G)<|wy (aS Z Z)<|wm Z<|aB Z Z ?_;refine wm Z<|aB Z Z<|wm Z<|aB Z Z<|wm Z<|aB Z Z<|wS Z Z<|aB Z Z<|wy (Yl.t (qM Z Z) G)<|wy (aS Z Z)<|wn Z<|bK ?_;refine⟨_,Z,?_⟩;rfl
theorem aOn (j4:uK low size total):
  CF 193 #[I low,I size,I total] w (λv R'=>v=bt):=by
 refine fn1 Tryz.func193 Z Z Z ?_;obtain⟨s1,s2,s3,s4⟩:=j4;refine wq<|wn Z<|wq<|wm Z<|wy (Yl.t (qM Z Z) G)<|wm Z<|aB Z Z<|wm Z<|aB Z Z<|wy (Yl.t (iL Z Z) G)<|wy (aS Z Z)<|wm Z ?_;refine aB Z Z<|wm Z<|aB Z Z<|wy (Yl.t (iL Z Z) G)<|wy (aS Z Z)<|wm Z<|aB Z Z<|wm Z<|aB Z Z<|wm Z<|aB Z Z<|wy (Yl.t (qM Z Z) G)<|wy (aS Z Z)<|wm Z<|aB Z Z ?_;refine wm Z<|aB Z Z<|wm Z<|aB Z Z<|wm Z<|aB Z Z<|wS Z Z<|aB Z Z<|wy (Yl.t (qM Z Z) G)<|wy (aS Z Z)<|wn Z<|bK ?_;refine⟨_,Z,?_⟩;rfl
theorem PH:
  CF 76 #[] w (λv R'=> ∃g A c,v=PG g/\R'=[(rc 183 3 g [sl A cd0.k c, .int .u64 (cd0.N%4294967296), .int .u64 cd0.R]),(ru 5 A cd0.k c (beL cd0.k (cd0.N/4294967296)))]):=by
 refine fn1 Tryz.func76 Z Z Z ?_;refine wq<|wn Z<|wq<|wy (iC (v:= .agg #[sl none 0 0, .int .u64 0, .int .u64 4294967295]) Z (λw=>cA))<|wa (bX (sz:=3) rfl rfl) ?_;rintro _ _⟨ap,rfl,rfl⟩;refine eZ (ru 5 none 0 0 ([]))<|wn Z<|aU [1,0] 99 ?_;exact⟨_,Z,_,_,_,Z,Z⟩
theorem YJ {x:Int} (hn:n=b.length) (hb:aO b) (hL:b.length<=1000000):
  CT 133 #[PG g] B w0 ((rc 183 3 g [sl A n c, .int .u64 x, .int .u64 r])::(ru 5 A n c b)::R) (λv R'=>v= .tuple #[]/\R'=(rc 183 3 g [sl A n c, .int .u64 x, .int .u64 r])::(ru 5 A n c (GK b 1))::R):=by
 subst hn;refine fn0 Tryz.func133 Z Z Z ?_;refine wq<|wm Z<|wy (aH Z)<|wy (yF 0 0 jr cZ Z)<|wy (yL 0 af Z Z Z)<|wy (aL af Z)<|wS Z Z<|wn Z<|aG ?_;refine dI (λ(i:Int) (V:AH)=>[(0,PG g),(2,I i)]) (λi V=>((rc 183 3 g [sl A b.length c, .int .u64 x, .int .u64 r])::(ru 5 A b.length c V)::R)) (λi V=>(-1<=i)/\(i<b.length)/\(aEm b 1 V i 1)) (λi V=>(i+1).toNat) ?_ ?_
 ·exact⟨(b.length:Int)-1,b,⟨G,G,(VY hb Z)⟩,KP⟩
 intro i V ⟨aw,ff,hI⟩;have kc:=hI.1;have hVb:=hI.2.1.rd i;have Xi:=fO (l:=V) (i:=i) (v:=(rd V i+1)%256);refine aD<|wq<|wm Z<|wy (iL Z Z)<|aA<|aX Z (λar=> ?_) (λar=> ?_)
 ·have Xi:=Xi G G;refine aI<|aD<|aG<|wq<|wm Z<|wy (aH Z)<|wy (yF 0 0 jr cZ Z)<|wy (yL 0 af Z Z Z)<|wm Z<|wy (aF af sz5 Z Z (rdr 1 Z))<|wy (aT az Z Z (rdr 1 Z))<|wy (bIt Z Z)<|wy (aF af sz5 Z Z (rdr 1 Z))<|bZ (bE 1 Z sz5 Z Z) ?_;rintro _ _ rfl;refine aA<|wq<|wm Z<|wy (aH Z)<|wy (yF 0 0 jr cZ Z)<|wy (yL 0 af Z Z Z)<|wm Z<|wy (aF af sz5 Z Z (rdr 1 Z))<|wy (aT az Z Z (rdr 1 Z))<|wy (fQ Z Z)<|aA<|aX Z (λbx=> ?_) (λbx=> ?_)
  ·refine bO (R1:=((rc 183 3 g [sl A b.length c, .int .u64 x, .int .u64 r])::(ru 5 A b.length c (upd V i (((rd V i)+1)%256)))::R)) hiZ ?_
   skip
   have e:upd V i ((rd V i+1)%256)=GK b 1:=(hI.step (y:=0) (d:=(rd V i+1)%256) G G G G).stop (.inl rfl);rw[e];exact⟨Z,Z⟩
  ·refine aI<|aK<|wm Z<|wS Z Z<|wn Z ?_;exact⟨i-1,upd V i (((rd V i)+1)%256),⟨G,G,(hI.step G G G G)⟩,G,KP⟩
 ·refine aR ?_
  skip
  obtain rfl:=hI.stop (.inr G);exact⟨Z,Z⟩
theorem OO {s:CdS} (hn:n=s.k) (hc:YY s) (j4:uK low size total) (hk:s.k<=1000000):
  CT 81 #[PG g,I low,I size,I total] B w0 ((rc 183 3 g [sl A n c, .int .u64 (s.N%4294967296), .int .u64 s.R])::(ru 5 A n c (beL s.k (s.N/4294967296)))::R) (λv R'=> ∃(A1:AF) (c1:Nat),v=bt/\R'=(rc 183 3 g [sl A1 ((sF s low size total).k) c1, .int .u64 ((sF s low size total).N%4294967296), .int .u64 ((sF s low size total).R)])::(ru 5 A1 ((sF s low size total).k) c1 (beL (sF s low size total).k ((sF s low size total).N/4294967296)))::R):=by
 subst hn;obtain⟨r0,r1,n0,nr⟩:=hc;have Mu:=j4;obtain⟨s1,s2,s3,s4⟩:=Mu;obtain⟨f1,f2,f3,f4,f5⟩:=oQ j4 ⟨r0,r1⟩;refine fn1 Tryz.func81 Z Z Z ?_;refine wq<|wn Z<|aD<|wq<|wm Z<|wy (kZ underlying127 Z Z)<|wm Z<|aB Z Z<|wm Z<|aB Z Z<|wm Z<|aB Z Z ?_;refine wm Z<|aB Z Z<|wa (aC bIf Z (Ct.quiet (λw hw=>KC j4))) ?_;rintro _ _⟨rfl,rfl⟩;refine aB Z Z<|wy (dC Z)<|wy (aN Z Z)<|aA<|aP Z<|aI<|wq<|wm Z<|wy (aH Z)<|wy (yF 2 2 jr gT Z)<|wy (yL 0 gy Z Z Z)<|wm Z<|wy (iM au gy Z)<|wy (GQ Z Z G G) ?_;refine wn Z<|wq<|wm Z<|wy (aH Z)<|wy (yF 1 1 jr gT Z)<|wy (yL 0 gy Z Z Z)<|wm Z<|wm Z<|wy (iM au gy Z)<|wy (vH Z Z G)<|wy (aSy Z Z G)<|wy (aH Z)<|wy (yF 1 1 jr gT Z) ?_;refine bZ (bB 0 Z Z Z gT Z Z Z Z (ak Z)) ?_;rintro _ _ rfl;refine aA<|aD<|wq<|wm Z<|wy (aH Z)<|wy (yF 1 1 jr gT Z)<|wy (yL 0 gy Z Z Z)<|wy (pX (k:=32) (m:=4294967296) Z Z Z G Z)<|wy (bW Z Z)<|aA<|aX Z (λar=> ?_) (λar=> ?_)
 ·refine wq<|wm Z<|wy (aH Z)<|wy (yF 1 1 jr gT Z)<|wy (yL 0 gy Z Z Z)<|wy (KZ (m:=4294967296) 32 Z Z Z Z G Z)<|wy (aH Z)<|wy (yF 1 1 jr gT Z)<|bZ (bB 0 Z Z Z gT Z Z Z Z (ak Z)) ?_;rintro _ _ rfl;refine aA<|aK<|wm Z<|wa (aC bPw Z ((YJ (by rw[kS]) (zV _ _) (by rw[kS];omega)))) ?_;rintro _ _⟨rfl,rfl⟩;refine aA<|aD<|wq<|wm Z<|wm Z<|wm Z<|wy (iM au gy Z)<|wy (vH Z Z G)<|wy (aH Z)<|wy (yF 2 2 jr gT Z)<|bZ (bB 0 Z Z Z gT Z Z Z Z (ak Z)) ?_;rintro _ _ rfl;refine aA<|aG ?_;refine vK (λ(j:Nat) (A1:AF) (n1:Nat) (c1:Nat) (V:AH) (x:Int) (r:Int) (M:Int)=>[(0,PG g)]) (λj A1 n1 c1 V x r M=>((rc 183 3 g [sl A1 n1 c1, .int .u64 x, .int .u64 r])::(ru 5 A1 n1 c1 V)::R)) (λj A1 n1 c1 V x r M=>(M=(s.N+s.R/total*low)*256^j)/\(r=(s.R/total*size)*256^j)/\(j<=shN (s.R/total*size))/\(V=beL (s.k+j) (M/4294967296))/\(x=M%4294967296)/\(n1=s.k+j)) (λj A1 n1 c1 V x r M=>(4-j)) ?_ ?_
  ·exact⟨0,A,s.k,c,GK (beL s.k (s.N/4294967296)) 1,((s.N%4294967296)+((s.R/total)*low))%4294967296,(s.R/total)*size,(s.N+s.R/total*low),⟨(by rw[vv,Ab]),(by rw[vv,Ab]),(oz _),(by first|(rw[MI,rq,show(s.N+s.R/total*low)/4294967296=s.N/4294967296+1 by omega])|(rw[rq,show(s.N+s.R/total*low)/4294967296=s.N/4294967296 by omega])),G,(Z)⟩,KP⟩
  intro j A1 n1 c1 V x r M ⟨hM,hr,hj,hV,hx,cj⟩;have kb:=IA (s.R/total*size);have Xh:1<=r:=by rw[hr];exact EF G
  refine aD<|wq<|wm Z<|wy (aH Z)<|wy (yF 2 2 jr gT Z)<|wy (yL 0 gy Z Z Z)<|wL Z Z<|aA<|aX Z (λbx=> ?_) (λbx=> ?_)
  ·refine aI<|aD<|aG<|aD<|bD mixed<|wD 0 Z (aJ Z)<|wD 1 Z (aJ Z)<|wD 2 Z (aH Z)<|wD 3 Z (yF 0 0 jr cZ Z)<|wD 4 Z (yL 0 af Z Z Z)<|wD 5 Z (aJ Z)<|wD 6 Z (aH Z)<|wD 7 Z (yF 1 1 jr gT Z)<|wD 8 Z (yL 0 gy Z Z Z)<|wD 9 Z (pX (k:=24) (m:=16777216) Z Z Z G Z) ?_;refine wD 10 Z (dZ gy az Z)<|wC 11 Z (bF .u8 [(x/16777216)%256] af zs5 Z Z Z) ?_;rintro _ _⟨db,rfl,rfl⟩;refine⟨.inr hrZ,?_⟩;refine wC 12 Z (aQ 2 Z af zb5 Z Z Z (rdr 0 Z)) ?_;rintro _ _⟨dv,dy,rfl,rfl⟩;refine⟨.inl cA,?_⟩;refine fM (v:=sl dv (n1+1) dy) Z<|wD 13 Z (aH Z)<|wD 14 Z (yF 0 0 jr cZ Z)<|qC 15 Z cA (bB 1 Z Z Z cZ Z Z Z Z (ak Z)) ?_;rintro _ _ rfl;refine⟨.inl cA,?_⟩;refine wN<|aK<|wm Z<|wm Z<|wy (aH Z)<|wy (yF 1 1 jr gT Z)<|wy (yL 1 gy Z Z Z)<|wy (wV (k:=8) (m:=256) Z Z Z G Z)<|wy (KZ (m:=4294967296) 32 Z Z Z Z G Z)<|wy (aH Z)<|wy (yF 1 1 jr gT Z)<|bZ (bB 1 Z Z Z gT Z Z Z Z (ak Z)) ?_;rintro _ _ rfl;refine aA<|aK<|wm Z<|wy (aH Z)<|wy (yF 2 2 jr gT Z)<|wy (yL 1 gy Z Z Z)<|wy (wV (k:=8) (m:=256) Z Z Z G Z)<|wy (aH Z)<|wy (yF 2 2 jr gT Z)<|bZ (bB 1 Z Z Z gT Z Z Z Z (ak Z)) ?_;rintro _ _ rfl;refine aA ?_;exact⟨(j+1),dv,n1+1,dy,V++([(x/16777216)%256]),(x*256)%4294967296,r*256,(M*256),⟨(by rw[hM,ui,<-xe]),(by rw[hr,ui,<-xe]),(DR G hj (by rw[<-hr];assumption)),(by rw[hV,hx];exact(aEc _ _).symm),G,(by rw[cj];rfl)⟩,G,SA,λ_ h=>h.selR (F:=[_,_,_]) (F':=[_,_]) [1,2] cC Z⟩
  ·refine aR<|wq<|wn Z<|bO (R1:=((rc 183 3 g [sl A1 n1 c1, .int .u64 x, .int .u64 r])::(ru 5 A1 n1 c1 V)::R)) hiZ ?_;refine⟨_,Z,?_⟩;obtain rfl:j=shN (s.R/total*size):=LM G hj (by rw[<-hr];omega);refine⟨A1,c1,Z,?_⟩;rw[hV,hx,hr,hM,cj];rfl
 ·refine aI<|aD<|wq<|wm Z<|wm Z<|wm Z<|wy (iM au gy Z)<|wy (vH Z Z G)<|wy (aH Z)<|wy (yF 2 2 jr gT Z)<|bZ (bB 0 Z Z Z gT Z Z Z Z (ak Z)) ?_;rintro _ _ rfl;refine aA<|aG ?_;refine vK (λ(j:Nat) (A1:AF) (n1:Nat) (c1:Nat) (V:AH) (x:Int) (r:Int) (M:Int)=>[(0,PG g)]) (λj A1 n1 c1 V x r M=>((rc 183 3 g [sl A1 n1 c1, .int .u64 x, .int .u64 r])::(ru 5 A1 n1 c1 V)::R)) (λj A1 n1 c1 V x r M=>(M=(s.N+s.R/total*low)*256^j)/\(r=(s.R/total*size)*256^j)/\(j<=shN (s.R/total*size))/\(V=beL (s.k+j) (M/4294967296))/\(x=M%4294967296)/\(n1=s.k+j)) (λj A1 n1 c1 V x r M=>(4-j)) ?_ ?_
  ·exact⟨0,A,s.k,c,beL s.k (s.N/4294967296),(s.N%4294967296)+((s.R/total)*low),(s.R/total)*size,(s.N+s.R/total*low),⟨(by rw[vv,Ab]),(by rw[vv,Ab]),(oz _),(by first|(rw[MI,rq,show(s.N+s.R/total*low)/4294967296=s.N/4294967296+1 by omega])|(rw[rq,show(s.N+s.R/total*low)/4294967296=s.N/4294967296 by omega])),G,(Z)⟩,KP⟩
  intro j A1 n1 c1 V x r M ⟨hM,hr,hj,hV,hx,cj⟩;have kb:=IA (s.R/total*size);have Xh:1<=r:=by rw[hr];exact EF G
  refine aD<|wq<|wm Z<|wy (aH Z)<|wy (yF 2 2 jr gT Z)<|wy (yL 0 gy Z Z Z)<|wL Z Z<|aA<|aX Z (λef=> ?_) (λef=> ?_)
  ·refine aI<|aD<|aG<|aD<|bD mixed<|wD 0 Z (aJ Z)<|wD 1 Z (aJ Z)<|wD 2 Z (aH Z)<|wD 3 Z (yF 0 0 jr cZ Z)<|wD 4 Z (yL 0 af Z Z Z)<|wD 5 Z (aJ Z)<|wD 6 Z (aH Z)<|wD 7 Z (yF 1 1 jr gT Z)<|wD 8 Z (yL 0 gy Z Z Z)<|wD 9 Z (pX (k:=24) (m:=16777216) Z Z Z G Z) ?_;refine wD 10 Z (dZ gy az Z)<|wC 11 Z (bF .u8 [(x/16777216)%256] af zs5 Z Z Z) ?_;rintro _ _⟨mt,rfl,rfl⟩;refine⟨.inr hrZ,?_⟩;refine wC 12 Z (aQ 2 Z af zb5 Z Z Z (rdr 0 Z)) ?_;rintro _ _⟨iz,fj,rfl,rfl⟩;refine⟨.inl cA,?_⟩;refine fM (v:=sl iz (n1+1) fj) Z<|wD 13 Z (aH Z)<|wD 14 Z (yF 0 0 jr cZ Z)<|qC 15 Z cA (bB 1 Z Z Z cZ Z Z Z Z (ak Z)) ?_;rintro _ _ rfl;refine⟨.inl cA,?_⟩;refine wN<|aK<|wm Z<|wm Z<|wy (aH Z)<|wy (yF 1 1 jr gT Z)<|wy (yL 1 gy Z Z Z)<|wy (wV (k:=8) (m:=256) Z Z Z G Z)<|wy (KZ (m:=4294967296) 32 Z Z Z Z G Z)<|wy (aH Z)<|wy (yF 1 1 jr gT Z)<|bZ (bB 1 Z Z Z gT Z Z Z Z (ak Z)) ?_;rintro _ _ rfl;refine aA<|aK<|wm Z<|wy (aH Z)<|wy (yF 2 2 jr gT Z)<|wy (yL 1 gy Z Z Z)<|wy (wV (k:=8) (m:=256) Z Z Z G Z)<|wy (aH Z)<|wy (yF 2 2 jr gT Z)<|bZ (bB 1 Z Z Z gT Z Z Z Z (ak Z)) ?_;rintro _ _ rfl;refine aA ?_;exact⟨(j+1),iz,n1+1,fj,V++([(x/16777216)%256]),(x*256)%4294967296,r*256,(M*256),⟨(by rw[hM,ui,<-xe]),(by rw[hr,ui,<-xe]),(DR G hj (by rw[<-hr];assumption)),(by rw[hV,hx];exact(aEc _ _).symm),G,(by rw[cj];rfl)⟩,G,SA,λ_ h=>h.selR (F:=[_,_,_]) (F':=[_,_]) [1,2] cC Z⟩
  ·refine aR<|wq<|wn Z<|bO (R1:=((rc 183 3 g [sl A1 n1 c1, .int .u64 x, .int .u64 r])::(ru 5 A1 n1 c1 V)::R)) hiZ ?_;refine⟨_,Z,?_⟩;obtain rfl:j=shN (s.R/total*size):=LM G hj (by rw[<-hr];omega);refine⟨A1,c1,Z,?_⟩;rw[hV,hx,hr,hM,cj];rfl
theorem aYv {s:CdS} (hn:n=s.k) (hk:s.k<=1000000):
  CT 84 #[PG g] B w0 ((rc 183 3 g [sl A n c, .int .u64 (s.N%4294967296), .int .u64 s.R])::(ru 5 A n c (beL s.k (s.N/4294967296)))::R) (λv R'=> ∃(A1:AF) (c1:Nat),v=sl A1 (s.k+4) c1/\R'=(ru 5 A1 (s.k+4) c1 (beL (s.k+4) s.N))::(rc 183 3 g [sl A n c, .int .u64 (s.N%4294967296), .int .u64 s.R])::(ru 5 A n c (beL s.k (s.N/4294967296)))::R):=by
 subst hn;have j9:=kS s.k (s.N/4294967296);refine fn1 Tryz.func84 Z Z Z ?_;refine wq<|wn Z<|aD<|wq<|wm Z<|wy (kZ underlying127 Z Z)<|aA<|aP Z<|aI<|wq<|wm Z ?_;refine wy (aH Z)<|wy (yF 0 0 jr cZ Z)<|wy (yL 0 af Z Z Z)<|wa (aC aRc Z (Ct.fresh (λw hw=>rT ((rdr 1 Z) w hw) (by rw[kS];exact hk)))) ?_;rintro _ _⟨_,rfl,cm,ci,rfl,rfl⟩;refine wn Z<|aD<|wq<|wm Z<|aA<|aG<|iZ 5<|dN<|wq<|wy (Yl.t (eQ Z Z) cC)<|aA<|aD ?_;refine dG Z<|aI<|aD<|aG<|wq<|wm Z<|wn Z<|aK<|wm Z<|wm Z<|wy (aH Z)<|wy (yF 1 1 jr gT Z)<|wy (yL 1 gy Z Z Z) ?_;refine wm Z<|wy (Yl.is (bT Z Z) Z)<|wy (Yl.is (jT Z Z) Z)<|wy (Yl.is (kY Z Z) Z)<|wy (pX (k:=24) (m:=16777216) Z Z Z G Z)<|wy (dZ gy az Z)<|wa (bF .u8 [((s.N%4294967296)/16777216)%256] af zs5 Z Z Z) ?_;rintro _ _⟨ir,rfl,rfl⟩;refine wa (aQ 1 Z af zb5 Z Z Z (rdr 0 Z)) ?_;rintro _ _⟨gv,jn,rfl,rfl⟩;refine bC (v:=sl gv (((beL s.k (s.N/4294967296)).length)+1) jn) Z<|wn Z<|aK<|wy (Yl.is (bT Z Z) Z)<|wm Z<|aA<|dN<|wq<|wy (Yl.t (eQ Z Z) cC)<|aA<|aD<|dG Z<|aI ?_;refine aD<|aG<|wq<|wm Z<|wn Z<|aK<|wm Z<|wm Z<|wy (aH Z)<|wy (yF 1 1 jr gT Z)<|wy (yL 2 gy Z Z Z)<|wm Z<|wy (Yl.is (bT Z Z) Z) ?_;refine wy (Yl.is (jT Z Z) Z)<|wy (Yl.is (kY Z Z) Z)<|wy (pX (k:=16) (m:=65536) Z Z Z G Z)<|wy (dZ gy az Z)<|wa (bF .u8 [((s.N%4294967296)/65536)%256] af zs5 Z Z Z) ?_;rintro _ _⟨Hn,rfl,rfl⟩;refine wa (aQ 2 Z af zb5 Z Z Z (rdr 0 Z)) ?_;rintro _ _⟨im,da,rfl,rfl⟩;refine bC (v:=sl im ((((beL s.k (s.N/4294967296)).length)+1)+1) da) Z<|wn Z<|aK<|wy (Yl.is (bT Z Z) Z)<|wm Z<|aA<|dN<|wq<|wy (Yl.t (eQ Z Z) cC)<|aA<|aD<|dG Z<|aI ?_;refine aD<|aG<|wq<|wm Z<|wn Z<|aK<|wm Z<|wm Z<|wy (aH Z)<|wy (yF 1 1 jr gT Z)<|wy (yL 3 gy Z Z Z)<|wm Z<|wy (Yl.is (bT Z Z) Z) ?_;refine wy (Yl.is (jT Z Z) Z)<|wy (Yl.is (kY Z Z) Z)<|wy (pX (k:=8) (m:=256) Z Z Z G Z)<|wy (dZ gy az Z)<|wa (bF .u8 [((s.N%4294967296)/256)%256] af zs5 Z Z Z) ?_;rintro _ _⟨qe,rfl,rfl⟩;refine wa (aQ 3 Z af zb5 Z Z Z (rdr 0 Z)) ?_;rintro _ _⟨fc,fd,rfl,rfl⟩;refine bC (v:=sl fc (((((beL s.k (s.N/4294967296)).length)+1)+1)+1) fd) Z<|wn Z<|aK<|wy (Yl.is (bT Z Z) Z)<|wm Z<|aA<|dN<|wq<|wy (Yl.t (eQ Z Z) cC)<|aA<|aD<|dG Z<|aI ?_;refine aD<|aG<|wq<|wm Z<|wn Z<|aK<|wm Z<|wm Z<|wy (aH Z)<|wy (yF 1 1 jr gT Z)<|wy (yL 4 gy Z Z Z)<|wm Z<|wy (Yl.is (bT Z Z) Z) ?_;refine wy (Yl.is (jT Z Z) Z)<|wy (Yl.is (kY Z Z) Z)<|wy (pX (k:=0) (m:=1) Z Z Z G Z)<|wy (dZ gy az Z)<|wa (bF .u8 [((s.N%4294967296)/1)%256] af zs5 Z Z Z) ?_;rintro _ _⟨a7,rfl,rfl⟩;refine wa (aQ 4 Z af zb5 Z Z Z (rdr 0 Z)) ?_;rintro _ _⟨fg,fh,rfl,rfl⟩;refine bC (v:=sl fg ((((((beL s.k (s.N/4294967296)).length)+1)+1)+1)+1) fh) Z<|wn Z<|aK<|wy (Yl.is (bT Z Z) Z)<|wm Z<|aA<|dN<|wq<|wy (Yl.f (eQ Z Z) cC)<|aA<|aD<|aP Z<|aR ?_;refine wq<|wm Z<|wn Z<|aU [4,5,6] 7 ?_;refine⟨_,Z,?_⟩;have e:(beL s.k (s.N/4294967296)).length+1+1+1+1=s.k+4:=G
 rw[e,<-bGm s.k s.N _ rfl];exact⟨_,_,Z,Z⟩
theorem KR:
  CF 143 #[] w (λv R'=> ∃g A c,v=PG g/\R'=[(rc 198 2 g [sl A (cd0.k+4) c, .int .u64 cd0.R]),(ru 5 A (cd0.k+4) c (beL (cd0.k+4) cd0.N))]):=by
 refine fn1 Tryz.func143 Z Z Z ?_;refine wq<|wn Z<|wq<|wa (dK af zb5 Z Z) ?_;rintro _ _⟨ap,rfl,rfl⟩;refine bC (v:=sl (GG ap) ((4:Int).toNat) ((4:Int).toNat)) Z<|wy (iC (v:= .agg #[sl (GG ap) ((4:Int).toNat) ((4:Int).toNat), .int .u64 4294967295]) Z (λw=>cA))<|wa (bX (sz:=2) rfl rfl) ?_;rintro _ _⟨db,rfl,rfl⟩;refine wn Z<|bO (R1:=[(rc 198 2 db [sl (GG ap) ((4:Int).toNat) ((4:Int).toNat), .int .u64 4294967295]),(ru 5 (GG ap) ((4:Int).toNat) ((4:Int).toNat) (List.replicate ((4:Int).toNat) (0:Int)))]) hiZ ?_;exact⟨_,Z,_,_,_,Z,Z⟩
theorem bBm {x0:Int} (hn:n=b.length) (hb:aO b) (hL:b.length<=1000010) (hx:0<=x0/\x0<1099511627776):
  CT 194 #[PG g, .int .u64 x0] B w0 ((rc 198 2 g [sl A n c, .int .u64 r])::(ru 5 A n c b)::R) (λv R'=>v= .tuple #[]/\R'=(rc 198 2 g [sl A n c, .int .u64 r])::(ru 5 A n c (GK b x0))::R):=by
 subst hn;refine fn0 Tryz.func194 Z Z Z ?_;refine wq<|wm Z<|wy (aH Z)<|wy (yF 0 0 xw cZ Z)<|wy (yL 0 af Z Z Z)<|wy (aL af Z)<|wS Z Z<|wn Z<|aG ?_;refine fZ (λ(i:Int) (x:Int) (V:AH)=>[(0,PG g),(1, .int .u64 x),(4,I i)]) (λi x V=>((rc 198 2 g [sl A b.length c, .int .u64 r])::(ru 5 A b.length c V)::R)) (λi x V=>(-1<=i)/\(i<b.length)/\(0<=x/\x<1099511627776)/\(aEm b x0 V i x)) (λi x V=>(i+1).toNat) ?_ ?_
 ·exact⟨(b.length:Int)-1,x0,b,⟨G,G,G,(VY hb Z)⟩,KP⟩
 intro i x V ⟨aw,ff,hx0,hI⟩;have kc:=hI.1;have hVb:=hI.2.1.rd i;refine aD<|wq<|wm Z<|wy (iL Z Z)<|wm Z<|bR 3 [(0,PG g),(1, .int .u64 x),(4,I i),(16, .bool (decide ((0<=i)/\(0<x))))] ((rc 198 2 g [sl A b.length c, .int .u64 r])::(ru 5 A b.length c V)::R) ?_ ?_
 ·refine bJ 13 Z (λar=> ?_) (λar=> ?_)
  ·refine aB Z Z<|wm Z<|aB Z Z<|wy (bW Z Z)<|wy (aS Z Z)<|aA ?_;exact KP
  ·refine aM Z Z Z Z<|aM Z Z Z Z<|wy (aN Z Z)<|aA ?_;exact KP
 refine aA<|aX Z (λbx=> ?_) (λbx=> ?_)
 ·refine aI<|aD<|aG<|wq<|wm Z<|wm Z<|wy (aH Z)<|wy (yF 0 0 xw cZ Z)<|wy (yL 0 af Z Z Z)<|wm Z<|wy (aF af sz5 Z Z (rdr 1 Z))<|wy (aT az Z Z (rdr 1 Z))<|wy (iM az gy Z)<|wy (aSy Z Z G) ?_;refine wn Z<|wq<|wm Z<|wy (aH Z)<|wy (yF 0 0 xw cZ Z)<|wy (yL 0 af Z Z Z)<|wm Z<|wm Z<|wy (dZ gy az Z)<|wy (aF af sz5 Z Z (rdr 1 Z))<|bZ (bE 1 Z sz5 Z Z) ?_;rintro _ _ rfl;refine aA<|aK<|wm Z<|wy (pX (k:=8) (m:=256) Z Z Z G Z)<|wn Z<|aK<|wm Z<|wS Z Z<|wn Z ?_;exact⟨i-1,(x+(rd V i))/256,upd V i ((x+(rd V i))%256),⟨G,G,G,(hI.step G G Z Z)⟩,G,KP⟩
 ·refine aR ?_
  skip
  obtain rfl:=hI.stop G;exact⟨Z,Z⟩
theorem IB {s:CdS} (hn:n=s.k+4) (hc:YY s) (j4:uK low size total) (hk:s.k<=1000000):
  CT 146 #[PG g,I low,I size,I total] B w0 ((rc 198 2 g [sl A n c, .int .u64 s.R])::(ru 5 A n c (beL (s.k+4) s.N))::R) (λv R'=> ∃(A1:AF) (c1:Nat),v=bt/\R'=(rc 198 2 g [sl A1 ((sF s low size total).k+4) c1, .int .u64 ((sF s low size total).R)])::(ru 5 A1 ((sF s low size total).k+4) c1 (beL ((sF s low size total).k+4) (sF s low size total).N))::R):=by
 subst hn;obtain⟨r0,r1,n0,nr⟩:=hc;have Mu:=j4;obtain⟨s1,s2,s3,s4⟩:=Mu;obtain⟨f1,f2,f3,f4,f5⟩:=oQ j4 ⟨r0,r1⟩;refine fn1 Tryz.func146 Z Z Z ?_;refine wq<|wn Z<|aD<|wq<|wm Z<|wm Z<|wm Z<|wa (aC bOr Z (Ct.quiet (λw hw=>aOn j4))) ?_;rintro _ _⟨rfl,rfl⟩;refine wy (dC Z)<|aA<|aP Z<|aI<|wq<|wm Z<|wy (aH Z)<|wy (yF 1 1 xw gT Z)<|wy (yL 0 gy Z Z Z)<|wm Z<|wy (iM au gy Z)<|wy (GQ Z Z G G)<|wn Z ?_;refine wq<|wm Z<|wm Z<|wm Z<|wy (iM au gy Z)<|wy (vH Z Z G)<|wa (aC bOq Z ((bBm (by rw[kS]) (zV _ _) (by rw[kS];omega) G))) ?_;rintro _ _⟨rfl,rfl⟩;refine aA<|wq<|wm Z<|wm Z<|wm Z<|wy (iM au gy Z)<|wy (vH Z Z G)<|wy (aH Z)<|wy (yF 1 1 xw gT Z)<|bZ (bB 0 Z Z Z gT Z Z Z Z (ak Z)) ?_;rintro _ _ rfl;refine aA<|aD<|aG ?_;refine CU (λ(j:Nat) (A1:AF) (n1:Nat) (c1:Nat) (V:AH) (r:Int) (M:Int)=>[(0,PG g)]) (λj A1 n1 c1 V r M=>((rc 198 2 g [sl A1 n1 c1, .int .u64 r])::(ru 5 A1 n1 c1 V)::R)) (λj A1 n1 c1 V r M=>(M=(s.N+s.R/total*low)*256^j)/\(r=(s.R/total*size)*256^j)/\(j<=shN (s.R/total*size))/\(V=beL (s.k+j+4) M)/\(n1=s.k+j+4)) (λj A1 n1 c1 V r M=>(4-j)) ?_ ?_
 ·exact⟨0,A,s.k+4,c,GK (beL (s.k+4) s.N) ((s.R/total)*low),(s.R/total)*size,(s.N+s.R/total*low),⟨(by rw[vv,Ab]),(by rw[vv,Ab]),(oz _),(by rw[MI]),(Z)⟩,KP⟩
 intro j A1 n1 c1 V r M ⟨hM,hr,hj,hV,cj⟩;have kb:=IA (s.R/total*size);have Xh:1<=r:=by rw[hr];exact EF G
 refine aD<|wq<|wm Z<|wy (aH Z)<|wy (yF 1 1 xw gT Z)<|wy (yL 0 gy Z Z Z)<|wL Z Z<|aA<|aX Z (λar=> ?_) (λar=> ?_)
 ·refine aI<|aG<|wq<|wm Z<|wm Z<|wy (aH Z)<|wy (yF 0 0 xw cZ Z)<|wy (yL 0 af Z Z Z)<|wa (bF .u8 [0] af zs5 Z Z Z) ?_;rintro _ _⟨db,rfl,rfl⟩;refine wa (aQ 2 Z af zb5 Z Z Z (rdr 0 Z)) ?_;rintro _ _⟨dv,dy,rfl,rfl⟩;refine bC (v:=sl dv (n1+1) dy) Z<|wy (aH Z)<|wy (yF 0 0 xw cZ Z)<|bZ (bB 1 Z Z Z cZ Z Z Z Z (ak Z)) ?_;rintro _ _ rfl;refine aA<|aK<|wm Z<|wm Z<|wy (aH Z)<|wy (yF 1 1 xw gT Z)<|wy (yL 1 gy Z Z Z)<|wy (wV (k:=8) (m:=256) Z Z Z G Z)<|wy (aH Z)<|wy (yF 1 1 xw gT Z)<|bZ (bB 1 Z Z Z gT Z Z Z Z (ak Z)) ?_;rintro _ _ rfl;refine aA ?_;exact⟨(j+1),dv,n1+1,dy,V++([0]),r*256,(M*256),⟨(by rw[hM,ui,<-xe]),(by rw[hr,ui,<-xe]),(DR G hj (by rw[<-hr];assumption)),(by rw[hV,show s.k+(j+1)+4=s.k+j+4+1 by omega,aSi]),(by rw[cj];omega)⟩,G,SA,λ_ h=>h.selR (F:=[_,_,_]) (F':=[_,_]) [1,2] cC Z⟩
 ·refine aR<|wq<|wn Z<|bO (R1:=((rc 198 2 g [sl A1 n1 c1, .int .u64 r])::(ru 5 A1 n1 c1 V)::R)) hiZ ?_;refine⟨_,Z,?_⟩;obtain rfl:j=shN (s.R/total*size):=LM G hj (by rw[<-hr];omega);refine⟨A1,c1,Z,?_⟩;rw[hV,hr,hM,cj];rfl
end
section
variable {w w0:World} {fi o cls x i:Int} {B g g0 g1 g2 c:Nat} {R:List Row} {A:AF} {C l:AH}
abbrev syb (b:AH):AH:=(dE 0 (dB bL b))++[257]
theorem BU:
  CF 135 #[I fi] w (λv R'=>v=I (jE fi)):=by
 refine fn1 Tryz.func135 Z Z Z ?_;refine wq<|wn Z<|aD<|aG<|wq<|wm Z<|wL Z Z<|wn Z<|aX Z (λar=> ?_) (λar=> ?_)
 ·refine wq<|wn Z<|bK ?_;refine⟨_,Z,?_⟩;exact bq (Value.int .i64) (by unfold jE;rw[dm cF])
 ·refine wq<|wm Z<|wL Z Z<|wn Z<|aX Z (λbx=> ?_) (λbx=> ?_)
  ·refine wq<|wn Z<|bK ?_;refine⟨_,Z,?_⟩;exact bq (Value.int .i64) (by unfold jE;rw[df cF,dm cF])
  ·refine aI<|wq<|wn Z<|bK ?_;refine⟨_,Z,?_⟩;exact bq (Value.int .i64) (by unfold jE;rw[df cF,df cF])
theorem EY (ho:o=0\/o=1):
  CF 74 #[I o] w (λv R'=>v=bt):=by
 refine fn1 Tryz.func74 Z Z Z ?_;refine wq<|wn Z<|wq<|wm Z<|wy (eT Z Z)<|wm Z<|bR 3 [(8, .bool (decide ((o=0)\/(o=1))))] [] ?_ ?_
 ·refine bJ 5 Z (λar=> ?_) (λar=> ?_)
  ·refine aM Z Z Z Z<|aM Z Z Z Z<|wy (aS Z Z)<|aA ?_;exact KP
  ·refine aB Z Z<|wm Z<|aB Z Z<|wy (eT Z Z)<|wy (aN Z Z)<|aA ?_;exact KP
 refine gL 8 Z (ho)<|wn Z<|bK ?_;refine⟨_,Z,?_⟩;rfl
theorem UR:
  CF 75 #[I o] w (λv R'=> ∃(g g0 g1 g2:Nat) (A0 A1 A2:AF) (c0 c1 c2:Nat),v=PG g/\R'=[(rc 180 5 g [PG g0,PG g1,PG g2,I 0,I o]),(rc 188 2 g0 [sl A0 258 c0,I 258]),(ri 3 A0 258 c0 zX),(rc 188 2 g1 [sl A1 258 c1,I 258]),(ri 3 A1 258 c1 zX),(rc 188 2 g2 [sl A2 258 c2,I 258]),(ri 3 A2 258 c2 zX)]):=by
 refine fn1 Tryz.func75 Z Z Z ?_;refine wq<|wn Z<|wq<|wm Z<|wy (iC (v:= .agg #[.pointer none, .pointer none, .pointer none,I 0,I o]) Z (λw=>cA))<|wa (bX (sz:=5) rfl rfl) ?_;rintro _ _⟨ap,rfl,rfl⟩;refine wn Z<|aD<|wq<|wm Z<|aA<|aG<|iZ 4<|dN<|wq<|wy (Yl.t (eQ Z Z) cC)<|aA<|aD ?_;refine dG Z<|aI<|aD<|aG<|wq<|wm Z<|wn Z<|bD mixed<|wD 0 Z (aJ Z)<|wD 1 Z (aJ Z)<|wD 3 Z (aH Z)<|wD 4 Z (yF 0 0 uj TN Z)<|wC 2 Z (aC aZr Z (Ct.fresh (λw hw=>xW))) ?_;rintro _ _⟨_,rfl,db,dv,dy,rfl,rfl⟩;refine⟨.inr λ_ h=>h.right (R':=[_,_]),?_⟩;refine wD 5 Z (bS (q:=0) (rdr 2 Z) Cy DJ Z Z (ak Z) cC cC Z)<|qC 6 Z cA (bB 2 Z Z Z DJ Z Z Z Z (ak Z)) ?_;rintro _ _ rfl;refine⟨.inl cA,?_⟩;refine wN<|aK<|wy (Yl.is (bT Z Z) Z)<|wm Z<|aA<|dN<|wq<|wy (Yl.t (eQ Z Z) cC)<|aA<|aD<|dG Z<|aI<|aD<|aG ?_;refine wq<|wm Z<|wn Z<|bD mixed<|wD 0 Z (aJ Z)<|wD 1 Z (aJ Z)<|wD 3 Z (aH Z)<|wD 4 Z (yF 0 0 uj TN Z)<|wC 2 Z (aC aZr Z (Ct.fresh (λw hw=>xW))) ?_;rintro _ _⟨_,rfl,mt,iz,fj,rfl,rfl⟩;refine⟨.inr λ_ h=>h.right (R':=[_,_]),?_⟩;refine wD 5 Z (bS (q:=1) (rdr 4 Z) Cy DJ Z Z (ak Z) cC cC Z)<|qC 6 Z cA (bB 4 Z Z Z DJ Z Z Z Z (ak Z)) ?_;rintro _ _ rfl;refine⟨.inl cA,?_⟩;refine wN<|aK<|wy (Yl.is (bT Z Z) Z)<|wm Z<|aA<|dN<|wq<|wy (Yl.t (eQ Z Z) cC)<|aA<|aD<|dG Z<|aI<|aD<|aG ?_;refine wq<|wm Z<|wn Z<|bD mixed<|wD 0 Z (aJ Z)<|wD 1 Z (aJ Z)<|wD 3 Z (aH Z)<|wD 4 Z (yF 0 0 uj TN Z)<|wC 2 Z (aC aZr Z (Ct.fresh (λw hw=>xW))) ?_;rintro _ _⟨_,rfl,a6,es,dr,rfl,rfl⟩;refine⟨.inr λ_ h=>h.right (R':=[_,_]),?_⟩;refine wD 5 Z (bS (q:=2) (rdr 6 Z) Cy DJ Z Z (ak Z) cC cC Z)<|qC 6 Z cA (bB 6 Z Z Z DJ Z Z Z Z (ak Z)) ?_;rintro _ _ rfl;refine⟨.inl cA,?_⟩;refine wN<|aK<|wy (Yl.is (bT Z Z) Z)<|wm Z<|aA<|dN<|wq<|wy (Yl.f (eQ Z Z) cC)<|aA<|aD<|aP Z<|aR<|wq ?_;refine wm Z<|wn Z<|aU [6,4,5,2,3,0,1] 99 ?_;exact⟨_,Z,_,_,_,_,_,_,_,_,_,_,Z,Z⟩
theorem pK (hk:cls*o=0):
  CT 79 #[PG g] B w0 ((rc 180 5 g [PG g0,PG g1,PG g2,I cls,I o])::R) (λv R'=>v=PG g0/\R'=(rc 180 5 g [PG g0,PG g1,PG g2,I cls,I o])::R):=by
 refine fn1 Ky Z Z Z ?_;refine wq<|wn Z<|aD<|bD mixed<|wD 0 Z (aJ Z)<|wD 1 Z (aJ Z)<|wD 2 Z (aH Z)<|wD 3 Z (yF 3 3 uj sz3 Z)<|wD 4 Z (yL 0 au Z Z Z)<|wD 5 Z (aJ Z)<|wD 6 Z (aH Z)<|wD 7 Z (yF 4 4 uj sz3 Z)<|wD 8 Z (yL 0 au Z Z Z) ?_;refine wD 9 Z (Yl.is (jT Z Z) (by rw[hk])) ?_;refine wD 10 Z (aH Z)<|wD 11 Z (yF 0 0 uj TN Z)<|wD 12 Z (bS (q:=0) (rdr 0 Z) Cy DJ Z Z (ak Z) cC cC Z)<|wD 13 Z (yL 0 Fp Z Z Z)<|wD 14 Z (aW Z)<|wN<|bO (R1:=((rc 180 5 g [PG g0,PG g1,PG g2,I cls,I o])::R)) hiZ ?_;exact⟨_,Z,Z,Z⟩
theorem pJ (hk:cls*o=1):
  CT 79 #[PG g] B w0 ((rc 180 5 g [PG g0,PG g1,PG g2,I cls,I o])::R) (λv R'=>v=PG g1/\R'=(rc 180 5 g [PG g0,PG g1,PG g2,I cls,I o])::R):=by
 refine fn1 Ky Z Z Z ?_;refine wq<|wn Z<|aD<|bD mixed<|wD 0 Z (aJ Z)<|wD 1 Z (aJ Z)<|wD 2 Z (aH Z)<|wD 3 Z (yF 3 3 uj sz3 Z)<|wD 4 Z (yL 0 au Z Z Z)<|wD 5 Z (aJ Z)<|wD 6 Z (aH Z)<|wD 7 Z (yF 4 4 uj sz3 Z)<|wD 8 Z (yL 0 au Z Z Z) ?_;refine wD 9 Z (Yl.is (jT Z Z) (by rw[hk])) ?_;refine wD 10 Z (aH Z)<|wD 11 Z (yF 0 0 uj TN Z)<|wD 12 Z (bS (q:=1) (rdr 0 Z) Cy DJ Z Z (ak Z) cC cC Z)<|wD 13 Z (yL 0 Fp Z Z Z)<|wD 14 Z (aW Z)<|wN<|bO (R1:=((rc 180 5 g [PG g0,PG g1,PG g2,I cls,I o])::R)) hiZ ?_;exact⟨_,Z,Z,Z⟩
theorem pI (hk:cls*o=2):
  CT 79 #[PG g] B w0 ((rc 180 5 g [PG g0,PG g1,PG g2,I cls,I o])::R) (λv R'=>v=PG g2/\R'=(rc 180 5 g [PG g0,PG g1,PG g2,I cls,I o])::R):=by
 refine fn1 Ky Z Z Z ?_;refine wq<|wn Z<|aD<|bD mixed<|wD 0 Z (aJ Z)<|wD 1 Z (aJ Z)<|wD 2 Z (aH Z)<|wD 3 Z (yF 3 3 uj sz3 Z)<|wD 4 Z (yL 0 au Z Z Z)<|wD 5 Z (aJ Z)<|wD 6 Z (aH Z)<|wD 7 Z (yF 4 4 uj sz3 Z)<|wD 8 Z (yL 0 au Z Z Z) ?_;refine wD 9 Z (Yl.is (jT Z Z) (by rw[hk])) ?_;refine wD 10 Z (aH Z)<|wD 11 Z (yF 0 0 uj TN Z)<|wD 12 Z (bS (q:=2) (rdr 0 Z) Cy DJ Z Z (ak Z) cC cC Z)<|wD 13 Z (yL 0 Fp Z Z Z)<|wD 14 Z (aW Z)<|wN<|bO (R1:=((rc 180 5 g [PG g0,PG g1,PG g2,I cls,I o])::R)) hiZ ?_;exact⟨_,Z,Z,Z⟩
theorem NQ (hk:cls*o=0) (hs:0<=fi/\fi<C.length) (dq:mE C):
  CT 83 #[PG g,I fi] B w0 ((rc 180 5 g [PG g0,PG g1,PG g2,I cls,I o])::(rc 188 2 g0 [sl A 258 c,I (cK C)])::(ri 3 A 258 c C)::R) (λv R'=>v= .tuple #[]/\R'=(rc 180 5 g [PG g0,PG g1,PG g2,I (jE fi),I o])::(rc 188 2 g0 [sl A 258 c,I (cK (mJ C fi))])::(ri 3 A 258 c (mJ C fi))::R):=by
 have kf:=dq.1;refine fn0 Kz Z Z Z ?_;refine wq<|wm Z<|wa (aC wP Z (Ct.at 0 Z (pK cF))) ?_;rintro _ _⟨rfl,rfl⟩;refine wm Z<|wa (aC aZq Z (Ct.pk [1,2,0] 3 (h:=xV (by rw[kf]) hs dq))) ?_;rintro _ _⟨rfl,rfl⟩;refine JL [2,0,1] 3<|aA<|aK<|wm Z<|wm Z<|wa (aC aZp Z (Ct.quiet (λw hw=>BU))) ?_;rintro _ _⟨rfl,rfl⟩;refine wy (aH Z)<|wy (yF 3 3 uj sz3 Z)<|bZ (bB 0 Z Z Z sz3 Z Z Z Z (ak Z)) ?_;rintro _ _ rfl;refine aA ?_
 skip
 exact⟨Z,Z⟩
theorem NP (hk:cls*o=1) (hs:0<=fi/\fi<C.length) (dq:mE C):
  CT 83 #[PG g,I fi] B w0 ((rc 180 5 g [PG g0,PG g1,PG g2,I cls,I o])::(rc 188 2 g1 [sl A 258 c,I (cK C)])::(ri 3 A 258 c C)::R) (λv R'=>v= .tuple #[]/\R'=(rc 180 5 g [PG g0,PG g1,PG g2,I (jE fi),I o])::(rc 188 2 g1 [sl A 258 c,I (cK (mJ C fi))])::(ri 3 A 258 c (mJ C fi))::R):=by
 have kf:=dq.1;refine fn0 Kz Z Z Z ?_;refine wq<|wm Z<|wa (aC wP Z (Ct.at 0 Z (pJ cF))) ?_;rintro _ _⟨rfl,rfl⟩;refine wm Z<|wa (aC aZq Z (Ct.pk [1,2,0] 3 (h:=xV (by rw[kf]) hs dq))) ?_;rintro _ _⟨rfl,rfl⟩;refine JL [2,0,1] 3<|aA<|aK<|wm Z<|wm Z<|wa (aC aZp Z (Ct.quiet (λw hw=>BU))) ?_;rintro _ _⟨rfl,rfl⟩;refine wy (aH Z)<|wy (yF 3 3 uj sz3 Z)<|bZ (bB 0 Z Z Z sz3 Z Z Z Z (ak Z)) ?_;rintro _ _ rfl;refine aA ?_
 skip
 exact⟨Z,Z⟩
theorem NN (hk:cls*o=2) (hs:0<=fi/\fi<C.length) (dq:mE C):
  CT 83 #[PG g,I fi] B w0 ((rc 180 5 g [PG g0,PG g1,PG g2,I cls,I o])::(rc 188 2 g2 [sl A 258 c,I (cK C)])::(ri 3 A 258 c C)::R) (λv R'=>v= .tuple #[]/\R'=(rc 180 5 g [PG g0,PG g1,PG g2,I (jE fi),I o])::(rc 188 2 g2 [sl A 258 c,I (cK (mJ C fi))])::(ri 3 A 258 c (mJ C fi))::R):=by
 have kf:=dq.1;refine fn0 Kz Z Z Z ?_;refine wq<|wm Z<|wa (aC wP Z (Ct.at 0 Z (pI cF))) ?_;rintro _ _⟨rfl,rfl⟩;refine wm Z<|wa (aC aZq Z (Ct.pk [1,2,0] 3 (h:=xV (by rw[kf]) hs dq))) ?_;rintro _ _⟨rfl,rfl⟩;refine JL [2,0,1] 3<|aA<|aK<|wm Z<|wm Z<|wa (aC aZp Z (Ct.quiet (λw hw=>BU))) ?_;rintro _ _⟨rfl,rfl⟩;refine wy (aH Z)<|wy (yF 3 3 uj sz3 Z)<|bZ (bB 0 Z Z Z sz3 Z Z Z Z (ak Z)) ?_;rintro _ _ rfl;refine aA ?_
 skip
 exact⟨Z,Z⟩
theorem WN {s:PpS} (h:s.cls*o=0):lY o s x=⟨mJ s.c0 x,s.c1,s.c2,jE x,rX s.cd s.c0 x⟩:=by
 unfold lY aOc xI;rw[dm h,dm h]
theorem WM {s:PpS} (h:s.cls*o=1):lY o s x=⟨s.c0,mJ s.c1 x,s.c2,jE x,rX s.cd s.c1 x⟩:=by
 unfold lY aOc xI;rw[df G,dm h,df G,dm h]
theorem WL {s:PpS} (h:s.cls*o=2):lY o s x=⟨s.c0,s.c1,mJ s.c2 x,jE x,rX s.cd s.c2 x⟩:=by
 unfold lY aOc xI;rw[df G,df G,df G,df G]
theorem nX {s t:PpS} (h:s=encP o (l.take i.toNat)) (h0:0<=i) (hi:i<l.length) (ht:lY o s (rd l i)=t):t=encP o (l.take (i+1).toNat):=by
 rw[dJ h0 hi,aQy,<-h,ht]
theorem YC {s:PpS} (hl:aJi l) (h:s=encP o (l.take i.toNat)):SV s/\s.cd.k<=2*l.length:=by
 have:=FO (o:=o) (l:=l.take i.toNat) (λx hx=>hl x (ll hx));rw[<-h,ax] at this;exact⟨this.1,G⟩
theorem QU {s:PpS} (h:SV s) (ho:o=0\/o=1):s.cls*o=0\/s.cls*o=1\/s.cls*o=2:=by
 have:=h.2.1;rcases ho with rfl|rfl<;>omega
theorem uP {ju:AF} {pt jx:Nat} {b:AH} (fz:Rd w ju pt jx 1 (ints .u8 b)) (cv:aO b) (ho:o=0\/o=1) (hN:b.length<=100000):
  CF 37 #[sl ju pt jx,I o] w (λv R'=> ∃A c,v= .tuple #[sl A (bM b o).length c,bt]/\R'=[(ru 5 A ((bM b o).length) c (bM b o))]):=by
 obtain rfl:=fz.lenI;refine fn2 Tryz.func37 Z Z Z ?_;have Hc:=fz.max;have w8:=rW cv;have kb:=HZ b;have Kf:=qE (dB bL b) 0;rw[iY] at Kf;have xf:(bQ b).length=(dE 0 (dB bL b)).length+1:=by unfold bQ;rw[ah];rfl
 refine wq<|wg Z<|wn Z<|aD<|wq<|wm Z<|wa (aC bMx Z (Ct.quiet (λw hw=>EY ho))) ?_;rintro _ _⟨rfl,rfl⟩;refine wy (dC Z)<|wm Z<|aB Z Z<|wm Z<|aB Z Z<|wy (aL af Z)<|aB Z Z<|wy (Yl.f (bW Z Z))<|wy (aN Z Z)<|aA<|aP Z<|aI<|wq<|wm Z ?_;refine wa (aC bMw Z (Ct.fresh (λw hw=>UR))) ?_;rintro _ _⟨_,rfl,ap,db,gw,ir,gv,go,iz,fj,vu,da,rfl,rfl⟩;refine wn Z<|wq<|wa (aC bRy Z (Ct.fresh (λw hw=>PH))) ?_;rintro _ _⟨_,rfl,oc,li,io,rfl,rfl⟩;refine wn Z<|aD<|wq<|wm Z<|wa (aC bRw Z (Ct.fresh (λw hw=>aPc ((fz.c _) w hw) cv G))) ?_;rintro _ _⟨_,rfl,gh,gi,rfl,rfl⟩;refine wa (aC bRx Z (Ct.fresh (λw hw=>aNn ((rdr 0 Z) w hw) (pO cv) (by rw[iY];omega)))) ?_;rintro _ _⟨_,rfl,fg,fh,rfl,rfl⟩;refine wa (bF .i64 [257] aa zs3 Z Z Z) ?_;rintro _ _⟨qs,rfl,rfl⟩;refine wa (aQ 1 Z aa zb3 Z Z Z (rdr 0 Z)) ?_;rintro _ _⟨mj,ml,rfl,rfl⟩;refine bC (v:=sl mj (((dE 0 (dB bL b)).length)+1) ml) Z<|wy (aL aa Z)<|wm Z<|aA<|aG ?_;refine LC (λ(i:Int) (Aw:AF) (cw:Nat) (Sx:PpS)=>[(6,PG ap),(7,PG oc),(28,sl mj (((dE 0 (dB bL b)).length)+1) ml),(29,I ((((dE 0 (dB bL b)).length)+1:Nat):Int)),(30,I i)]) (λi Aw cw Sx=>[(ri 3 (GG qs) 1 1 ([257])),(ri 3 mj (((dE 0 (dB bL b)).length)+1) ml (syb b)),(ru 5 gh ((b).length) gi (dB bL b)),(rc 183 3 oc [sl Aw Sx.cd.k cw, .int .u64 (Sx.cd.N%4294967296), .int .u64 Sx.cd.R]),(ru 5 Aw Sx.cd.k cw (beL Sx.cd.k (Sx.cd.N/4294967296))),(rc 180 5 ap [PG db,PG gw,PG ir,I Sx.cls,I o]),(rc 188 2 db [sl gv 258 fj,I (cK Sx.c0)]),(ri 3 gv 258 fj Sx.c0),(rc 188 2 gw [sl go 258 vu,I (cK Sx.c1)]),(ri 3 go 258 vu Sx.c1),(rc 188 2 ir [sl iz 258 da,I (cK Sx.c2)]),(ri 3 iz 258 da Sx.c2)]) (λi Aw cw Sx=>(0<=i)/\(i<=(bQ b).length)/\(Sx=encP o ((bQ b).take i.toNat))) (λi Aw cw Sx=>((bQ b).length-i).toNat) ?_ ?_
 ·exact⟨0,li,io,pp0,⟨G,G,(Z)⟩,KP⟩
 intro i Aw cw Sx ⟨aw,ff,hS⟩;have de:=YC w8 hS;refine wq<|wL Z Z<|aA<|aD<|aX Z (λar=> ?_) (λar=> ?_)
 ·have hx:=w8 _ (bG (L:=bQ b) (k:=i) aw G);refine aI<|aD<|aG<|wq<|wy (aF aa sz3 Z Z (rdr 1 Z))<|wy (aT au Z Z (rdr 1 Z))<|wn Z<|wq ?_;rcases QU de.1 ho with hk|hk|hk
  ·refine wm Z<|wa (aC wP Z (Ct.at 5 Z (pK hk))) ?_;rintro _ _⟨rfl,rfl⟩;refine wm Z<|wa (aC aRb Z (Ct.pk [6,7,0,1,2,3,4,5,8,9,10,11] 99 (h:=lV (by rw[de.1.1.1.1]) (by rw[de.1.1.1.1];exact hx) de.1.1.1))) ?_;rintro _ _⟨rfl,rfl⟩;refine wm Z<|wX Z Z<|wX Z Z<|wX Z Z<|wg Z<|wg Z<|wn Z<|wq<|wm Z<|wm Z<|wm Z<|wm Z<|wa (aC wP Z (Ct.at 7 Z (pK hk))) ?_;rintro _ _⟨rfl,rfl⟩;refine wa (aC aHx Z (Ct.sub (R1:=[(rc 188 2 db [sl gv 258 fj,I (cK Sx.c0)]),(ri 3 gv 258 fj Sx.c0),(ri 3 (GG qs) 1 1 ([257])),(ri 3 mj (((dE 0 (dB bL b)).length)+1) ml (syb b)),(ru 5 gh ((b).length) gi (dB bL b)),(rc 183 3 oc [sl Aw Sx.cd.k cw, .int .u64 (Sx.cd.N%4294967296), .int .u64 Sx.cd.R]),(ru 5 Aw Sx.cd.k cw (beL Sx.cd.k (Sx.cd.N/4294967296))),(rc 180 5 ap [PG db,PG gw,PG ir,I Sx.cls,I o]),(rc 188 2 gw [sl go 258 vu,I (cK Sx.c1)]),(ri 3 go 258 vu Sx.c1),(rc 188 2 ir [sl iz 258 da,I (cK Sx.c2)]),(ri 3 iz 258 da Sx.c2)]) hiZ (jV))) ?_;rintro _ _⟨rfl,rfl⟩;refine wa (aC bKv Z (Ct.pk [5,6,0,1,2,3,4,7,8,9,10,11] 99 (h:=OO Z de.1.2.2 (kT de.1.1.1 hx.1 hx.2) G))) ?_;rintro _ _⟨kd,ke,rfl,rfl⟩;refine aA<|aK<|wm Z<|wm Z<|wa (aC aRa Z (Ct.pk [7,2,3,0,1,4,5,6,8,9,10,11] 99 (h:=NQ hk (by rw[de.1.1.1.1];exact hx) de.1.1.1))) ?_;rintro _ _⟨rfl,rfl⟩;refine aA<|aK<|wA Z Z<|wm Z<|aA ?_;exact⟨i+1,kd,ke,(⟨mJ Sx.c0 (rd (bQ b) i),Sx.c1,Sx.c2,jE (rd (bQ b) i),rX Sx.cd Sx.c0 (rd (bQ b) i)⟩:PpS),⟨G,G,(nX hS aw G (WN hk))⟩,G,SA,λ_ h=>h.sel [5,6,7,3,4,0,1,2,8,9,10,11] cC Z⟩
  ·refine wm Z<|wa (aC wP Z (Ct.at 5 Z (pJ hk))) ?_;rintro _ _⟨rfl,rfl⟩;refine wm Z<|wa (aC aRb Z (Ct.pk [8,9,0,1,2,3,4,5,6,7,10,11] 99 (h:=lV (by rw[de.1.1.2.1.1]) (by rw[de.1.1.2.1.1];exact hx) de.1.1.2.1))) ?_;rintro _ _⟨rfl,rfl⟩;refine wm Z<|wX Z Z<|wX Z Z<|wX Z Z<|wg Z<|wg Z<|wn Z<|wq<|wm Z<|wm Z<|wm Z<|wm Z<|wa (aC wP Z (Ct.at 7 Z (pJ hk))) ?_;rintro _ _⟨rfl,rfl⟩;refine wa (aC aHx Z (Ct.sub (R1:=[(rc 188 2 gw [sl go 258 vu,I (cK Sx.c1)]),(ri 3 go 258 vu Sx.c1),(ri 3 (GG qs) 1 1 ([257])),(ri 3 mj (((dE 0 (dB bL b)).length)+1) ml (syb b)),(ru 5 gh ((b).length) gi (dB bL b)),(rc 183 3 oc [sl Aw Sx.cd.k cw, .int .u64 (Sx.cd.N%4294967296), .int .u64 Sx.cd.R]),(ru 5 Aw Sx.cd.k cw (beL Sx.cd.k (Sx.cd.N/4294967296))),(rc 180 5 ap [PG db,PG gw,PG ir,I Sx.cls,I o]),(rc 188 2 db [sl gv 258 fj,I (cK Sx.c0)]),(ri 3 gv 258 fj Sx.c0),(rc 188 2 ir [sl iz 258 da,I (cK Sx.c2)]),(ri 3 iz 258 da Sx.c2)]) hiZ (jV))) ?_;rintro _ _⟨rfl,rfl⟩;refine wa (aC bKv Z (Ct.pk [5,6,0,1,2,3,4,7,8,9,10,11] 99 (h:=OO Z de.1.2.2 (kT de.1.1.2.1 hx.1 hx.2) G))) ?_;rintro _ _⟨rj,rr,rfl,rfl⟩;refine aA<|aK<|wm Z<|wm Z<|wa (aC aRa Z (Ct.pk [7,2,3,0,1,4,5,6,8,9,10,11] 99 (h:=NP hk (by rw[de.1.1.2.1.1];exact hx) de.1.1.2.1))) ?_;rintro _ _⟨rfl,rfl⟩;refine aA<|aK<|wA Z Z<|wm Z<|aA ?_;exact⟨i+1,rj,rr,(⟨Sx.c0,mJ Sx.c1 (rd (bQ b) i),Sx.c2,jE (rd (bQ b) i),rX Sx.cd Sx.c1 (rd (bQ b) i)⟩:PpS),⟨G,G,(nX hS aw G (WM hk))⟩,G,SA,λ_ h=>h.sel [5,6,7,3,4,0,8,9,1,2,10,11] cC Z⟩
  ·refine wm Z<|wa (aC wP Z (Ct.at 5 Z (pI hk))) ?_;rintro _ _⟨rfl,rfl⟩;refine wm Z<|wa (aC aRb Z (Ct.pk [10,11,0,1,2,3,4,5,6,7,8,9] 99 (h:=lV (by rw[de.1.1.2.2.1]) (by rw[de.1.1.2.2.1];exact hx) de.1.1.2.2))) ?_;rintro _ _⟨rfl,rfl⟩;refine wm Z<|wX Z Z<|wX Z Z<|wX Z Z<|wg Z<|wg Z<|wn Z<|wq<|wm Z<|wm Z<|wm Z<|wm Z<|wa (aC wP Z (Ct.at 7 Z (pI hk))) ?_;rintro _ _⟨rfl,rfl⟩;refine wa (aC aHx Z (Ct.sub (R1:=[(rc 188 2 ir [sl iz 258 da,I (cK Sx.c2)]),(ri 3 iz 258 da Sx.c2),(ri 3 (GG qs) 1 1 ([257])),(ri 3 mj (((dE 0 (dB bL b)).length)+1) ml (syb b)),(ru 5 gh ((b).length) gi (dB bL b)),(rc 183 3 oc [sl Aw Sx.cd.k cw, .int .u64 (Sx.cd.N%4294967296), .int .u64 Sx.cd.R]),(ru 5 Aw Sx.cd.k cw (beL Sx.cd.k (Sx.cd.N/4294967296))),(rc 180 5 ap [PG db,PG gw,PG ir,I Sx.cls,I o]),(rc 188 2 db [sl gv 258 fj,I (cK Sx.c0)]),(ri 3 gv 258 fj Sx.c0),(rc 188 2 gw [sl go 258 vu,I (cK Sx.c1)]),(ri 3 go 258 vu Sx.c1)]) hiZ (jV))) ?_;rintro _ _⟨rfl,rfl⟩;refine wa (aC bKv Z (Ct.pk [5,6,0,1,2,3,4,7,8,9,10,11] 99 (h:=OO Z de.1.2.2 (kT de.1.1.2.2 hx.1 hx.2) G))) ?_;rintro _ _⟨rm,rv,rfl,rfl⟩;refine aA<|aK<|wm Z<|wm Z<|wa (aC aRa Z (Ct.pk [7,2,3,0,1,4,5,6,8,9,10,11] 99 (h:=NN hk (by rw[de.1.1.2.2.1];exact hx) de.1.1.2.2))) ?_;rintro _ _⟨rfl,rfl⟩;refine aA<|aK<|wA Z Z<|wm Z<|aA ?_;exact⟨i+1,rm,rv,(⟨Sx.c0,Sx.c1,mJ Sx.c2 (rd (bQ b) i),jE (rd (bQ b) i),rX Sx.cd Sx.c2 (rd (bQ b) i)⟩:PpS),⟨G,G,(nX hS aw G (WL hk))⟩,G,SA,λ_ h=>h.sel [5,6,7,3,4,0,8,9,10,11,1,2] cC Z⟩
 ·refine aR<|wq<|wm Z<|wa (aC bRv Z (Ct.pk [3,4,0,1,2,5,6,7,8,9,10,11] 99 (h:=aYv Z G))) ?_;rintro _ _⟨ue,un,rfl,rfl⟩;refine wg Z<|wn Z<|aU [0] 99 ?_;refine⟨_,_,Z,Z,?_⟩;rw[bg G] at hS;have e:(bM b o).length=Sx.cd.k+4:=by unfold bM;rw[kS,<-hS]
  have e2:bM b o=beL (Sx.cd.k+4) Sx.cd.N:=by unfold bM;rw[<-hS]
  rw[e,e2];exact⟨_,_,Z,Z⟩
end
theorem JX (w:World):(callFunc 249 #[]).run Tryz.prog w= .ok (.value (.tuple #[])) w:=run_call_mark0 Tryz.func249 cA cA cA .disable cA w
theorem OI (w:World):(callFunc 251 #[]).run Tryz.prog w= .ok (.value (.tuple #[])) w:=run_call_mark0 Tryz.func251 cA cA cA .enable cA w
theorem aAt (a:Addr) (w:World):(callFunc 252 #[.pointer (some a)]).run Tryz.prog w= .ok (.value (.tuple #[])) w:=run_call_marked Tryz.func252 cA cA cA .acquire cA a w
theorem II (a:Addr) (w:World):(callFunc 254 #[.pointer (some a)]).run Tryz.prog w= .ok (.value (.tuple #[])) w:=run_call_marked Tryz.func254 cA cA cA .releaseMerge cA a w
theorem RV (a:Addr) (x:Value) (u:FrameMode) (w:World) (hc:w.cell? a=some x) (hz:w.frozen? a=false):
  CallsD Tryz.prog 185 #[.pointer (some a), .bool true] u w λe u' w'=>u'=u/\(e= .returned (.tuple #[])/\w'=w.drew.setCell a (.int .u32 1)):=by
 have hc':w.drew.cell? a=some x:=by go_simp
 have hz':w.drew.frozen? a=false:=by go_simp
 have gd:=run_call_store (P:=Tryz.prog) Tryz.func227 cA cA cA cA (k:= .u32) (y:=1) hc' hz'
 go_enter_d Tryz.func185,Tryz.ntmps185
 go_wp2
 go_region_calls
 all_goals (go_end0;exact⟨rfl,rfl⟩)
set_option maxRecDepth 100000 in
theorem MX (a:Addr) (u:FrameMode) (w:World) (hc:w.cell? a=some (.int .i32 1)) (hz:w.frozen? a=false):
  CallsD Tryz.prog 184 #[.pointer (some a)] u w λe u' w'=>u'=u/\(e= .returned (.tuple #[])/\w'=w.setCell a (.int .i32 0)):=by
 have hd:=JX;have he:=OI;have hr:=II;have Oj:=Hl (P:=Tryz.prog) Tryz.func186 cA cA cA .i32 cA (y:= -1) (s:=0) hc hz (by simp[go_sem];rfl);have hcv:=run_convert_to_unsafe (P:=Tryz.prog) (src:=290) (dst:=293) Tryz.underlying290 Tryz.underlying293 cA hc
 go_enter_d Tryz.func184,Tryz.ntmps184
 go_wp2
 go_end0
 go_wp2
 go_end0
 exact⟨rfl,rfl⟩
set_option maxRecDepth 100000 in
theorem aXd (a:Addr) (w:World) (hc:w.cell? a=some (.int .i32 0)) (hz:w.frozen? a=false):
  Calls Tryz.prog 183 #[.pointer (some a)] w λe w'=>e= .returned (.tuple #[])/\w'=w.setCell a (.int .i32 1):=by
 have hd:=JX;have he:=OI;have ha:=aAt;have hcas:=run_call_cas_hit (P:=Tryz.prog) Tryz.func250 cA cA cA .i32 cA (y:=1) hc hz;have hc':(w.setCell a (.int .i32 1)).cell? a=some (.int .i32 1):=World.cell?_setCell_same w a _ hc;have hcv:=run_convert_to_unsafe (P:=Tryz.prog) (src:=290) (dst:=293) Tryz.underlying290 Tryz.underlying293 cA hc'
 go_enter Tryz.func183,Tryz.ntmps183
 go_wp2
 first|go_end0|(simp only[Exit.inBlock,Exit.then];refine bodyPost_ret (results_none rfl _ _ _) rfl ?_)|refine bodyPost_ret (results_none rfl _ _ _) rfl ?_
 go_wp2
 go_end0
 exact⟨rfl,rfl⟩
section
variable {B:Nat} {w0:World} {R:List Row} {T g:Nat} {r r':Int} {t t':AH}
theorem FP {w:World} {d s:Int} (h:Hp B w0 w (dR T g d s r t::R)) (j:Nat):w.frozen? ⟨g,j,none⟩=false:=h.openAt 0 j rfl rfl rfl
theorem FR {w:World} {d s:Int} (h:Hp B w0 w (dR T g d s r t::R)):w.cell? ⟨g,0,none⟩=some (.int .u32 d):=h.cellAt 0 (r:=dR T g d s r t) (j:=0) rfl rfl rfl
theorem aDj {w:World} {d s:Int} (h:Hp B w0 w (dR T g d s r t::R)):w.cell? ⟨g,1,none⟩=some (.int .i32 s):=h.cellAt 0 (r:=dR T g d s r t) (j:=1) rfl rfl rfl
theorem bAb {w:World} {d s:Int} (h:Hp B w0 w (dR T g d s r t::R)):w.cell? ⟨g,3,none⟩=some (.int .i32 r):=h.cellAt 0 (r:=dR T g d s r t) (j:=3) rfl rfl rfl
theorem aDi {w:World} {d s:Int} (h:Hp B w0 w (dR T g d s r t::R)) (x:Int):Hp B w0 (w.setCell ⟨g,0,none⟩ (.int .u32 x)) (dR T g x s r t::R):=h.set1 0 (r:=dR T g d s r t) (j:=0) (v:= .int .u32 x) rfl rfl rfl
theorem KG {w:World} {d s:Int} (h:Hp B w0 w (dR T g d s r t::R)) (x:Int):Hp B w0 (w.setCell ⟨g,1,none⟩ (.int .i32 x)) (dR T g d x r t::R):=h.set1 0 (r:=dR T g d s r t) (j:=1) (v:= .int .i32 x) rfl rfl rfl
theorem aDh {w:World} {d s:Int} (h:Hp B w0 w (dR T g d s r t::R)) (x:Int):Hp B w0 (w.setCell ⟨g,3,none⟩ (.int .i32 x)) (dR T g d s x t::R):=h.set1 0 (r:=dR T g d s r t) (j:=3) (v:= .int .i32 x) rfl rfl rfl
theorem bAc {w:World} {R:List Row} (h:Hp B w0 w R):Hp B w0 w.drew R:=h.drawn _ (Ip _)
set_option maxRecDepth 100000 in
theorem aWl {w:World} (hh:Hp B w0 w (dR T g 0 0 r t::R)) (hm: ∀w,Hp B w0 w (dR T g 0 1 r t::R)->Calls Tryz.prog 86 #[.pointer (some ⟨g,0,none⟩)] w λe w'=>e= .returned (.tuple #[])/\Hp B w0 w' (dR T g 0 1 r' t'::R)):
  Calls Tryz.prog 137 #[.pointer (some ⟨g,0,none⟩), .func (.func 86) #[.pointer (some ⟨g,0,none⟩)] #[]] w λe w'=>e= .returned (.tuple #[])/\Hp B w0 w' (dR T g 1 0 r' t'::R):=by
 have h1:=KG hh 1;have hl:=run_call_load (P:=Tryz.prog) Tryz.func182 cA cA cA .u32 cA (FR h1);have Oz: ∀(x:Bool) (w:World),(Op.unary .not (.bool x)).run Tryz.prog w= .ok (.bool (!x)) w:=λ_ _=>rfl;have k1:=aDj hh;have k2:=FP hh 1
 go_enter_defers Tryz.func137,Tryz.ntmps137
 go_wp2_with (first|(go_at_call 183;refine(aXd ⟨g,1,none⟩ _ (by go_simp) (by go_simp)).mono ?_;rintro e w' ⟨rfl,rfl⟩)|(go_at_call 86;refine(hm _ h1).mono ?_;rintro e w' ⟨rfl,h2⟩)|(go_at_call 136;go_in))
 refine leaves_cons (f:=185) (args:= #[.pointer (some ⟨g,0,none⟩), .bool true]) cD (by simp[go_sem]) ?_;refine(RV ⟨g,0,none⟩ _ .returning _ (FR h2) (FP h2 0)).mono ?_;rintro e u' Su ⟨rfl,rfl,rfl⟩;have h3:=aDi (bAc h2) 1;refine leaves_cons (f:=184) (args:= #[.pointer (some ⟨g,1,none⟩)]) (by simp[settle]) (by simp[go_sem]) ?_;refine(MX ⟨g,1,none⟩ _ _ (aDj h3) (FP h3 1)).mono ?_;rintro e u' Su ⟨rfl,rfl,rfl⟩;have h4:=KG h3 0;simp[Leaves,settle,results,Tryz.results137];exact h4
set_option maxRecDepth 100000 in
theorem aOz (hm: ∀w,Hp B w0 w (dR T g 0 1 r t::R)->Calls Tryz.prog 86 #[.pointer (some ⟨g,0,none⟩)] w λe w'=>e= .returned (.tuple #[])/\Hp B w0 w' (dR T g 0 1 r' t'::R)):
  Ct Tryz.prog 85 #[.pointer (some ⟨g,0,none⟩), .func (.func 86) #[.pointer (some ⟨g,0,none⟩)] #[]] B w0 (dR T g 0 0 r t::R) (λv R'=>v= .tuple #[]/\R'=dR T g 1 0 r' t'::R):=by
 intro w hh;have hl:=run_call_load (P:=Tryz.prog) Tryz.func182 cA cA cA .u32 cA (FR hh);have Oz: ∀(x:Bool) (w:World),(Op.unary .not (.bool x)).run Tryz.prog w= .ok (.bool (!x)) w:=λ_ _=>rfl
 go_enter Tryz.func85,Tryz.ntmps85
 go_wp2_with (first|(go_at_call 137;refine(aWl hh hm).mono ?_;rintro e w' ⟨rfl,h2⟩)|(go_at_call 136;go_in))
 go_end0
 exact⟨_,_,rfl,h2,rfl,rfl⟩
theorem aWm {fv:Value}:Ct Tryz.prog 85 #[.pointer (some ⟨g,0,none⟩),fv] B w0 (dR T g 1 0 r t::R) (λv R'=>v= .tuple #[]/\R'=dR T g 1 0 r t::R):=by
 intro w hh;have hl:=run_call_load (P:=Tryz.prog) Tryz.func182 cA cA cA .u32 cA (FR hh);have Oz: ∀(x:Bool) (w:World),(Op.unary .not (.bool x)).run Tryz.prog w= .ok (.bool (!x)) w:=λ_ _=>rfl
 go_enter Tryz.func85,Tryz.ntmps85
 go_wp2
 go_end0
 exact⟨_,_,rfl,hh,rfl,rfl⟩
theorem bCt (hr:0<=r/\r<1000000): ∀ {d s:Int} {w:World},Hp B w0 w (dR T g d s r t::R)-> ∃w',(callFunc 186 #[.pointer (some ⟨g,3,none⟩), .int .i32 1]).run Tryz.prog w= .ok (.value (.int .i32 (r+1))) w'/\Hp B w0 w' (dR T g d s (r+1) t::R):=by
 intro d s w hh;refine⟨_,Hl (P:=Tryz.prog) Tryz.func186 cA cA cA .i32 cA (y:=1) (s:=r+1) (bAb hh) (FP hh 3) ?_,aDh hh (r+1)⟩;have:IntKind.i32.wrap (r+1)=r+1:=by rw[IntKind.wrap_i32];omega
 simp[Op.intArith,this]
end
section
variable {w w0:World} {B T g:Nat} {R:List Row} {d s r r':Int} {t:AH}
theorem aGr {i:Int}:
  CF 149 #[I i] w (λv R'=>v= .int .u32 (bv (SQ (BitVec.ofInt 32 i)))):=by
 refine fn1 Tryz.func149 Z Z Z ?_;refine wq<|wn Z<|wq<|wm Z<|wy (WE au tq Z)<|wn Z<|aD<|wq<|wn Z ?_;refine aG ?_;refine dI (λ(k:Int) (x:BitVec 32)=>[(3, .int .u32 (bv x)),(4,I k)]) (λk x=>[]) (λk x=>(0<=k)/\(k<=8)/\(SQ (BitVec.ofInt 32 i)=JG (8-k).toNat x)) (λk x=>(8-k).toNat) ?_ ?_
 ·exact⟨0,BitVec.ofInt 32 i,⟨G,G,(Z)⟩,KP⟩
 intro k x ⟨iu,hk8,hx⟩;refine aD<|wq<|wm Z<|wL Z Z<|aA<|aX Z (λar=> ?_) (λar=> ?_)
 ·refine aI<|aD<|aG<|wq<|wm Z<|wy (aEo (p:=x) (q:=1#32) Z Z)<|wy (bHc (p:=x &&& (1#32)) (q:=1#32) Z Z)<|aA<|aX Z (λbx=> ?_) (λbx=> ?_)
  ·refine aK<|wm Z<|wy (ML (k:=1) Z Z Z)<|wy (GN (p:=x>>>1) (q:=3988292384#32) Z Z)<|wn Z<|aK<|wm Z<|wA Z Z<|wn Z ?_;exact⟨k+1,(x>>>1)^^^(3988292384#32),⟨G,G,(by rw[hx,zS G];unfold VJ;rw[dm cF])⟩,G,KP⟩
  ·refine aK<|wm Z<|wy (ML (k:=1) Z Z Z)<|wn Z<|aK<|wm Z<|wA Z Z<|wn Z ?_;exact⟨k+1,x>>>1,⟨G,G,(by rw[hx,zS G];unfold VJ;rw[df cF])⟩,G,KP⟩
 ·refine aR<|wq<|wm Z<|wn Z<|bK ?_;refine⟨_,Z,?_⟩;obtain rfl:k=8:=G
  rw[hx];rfl
theorem bCi {an:AF} {ba am:Nat} {u:AH} (ac:Rd w an ba am 1 (ints .u8 u)) (al:aO u):
  CF 91 #[sl an ba am] w (λv R'=>v= .int .u32 (bv (fT u))):=by
 obtain rfl:=ac.lenI;refine fn1 Tryz.func91 Z Z Z ?_;have ia:=ac.max;refine wq<|wn Z<|wq<|wn Z<|aD<|wq<|wn Z<|aG ?_;refine dI (λ(k:Int) (x:BitVec 32)=>[(0,sl an u.length am),(3, .int .u32 (bv x)),(4,I k)]) (λk x=>[]) (λk x=>(0<=k)/\(k<=u.length)/\(FZ 4294967295#32 u=FZ x (u.drop k.toNat++[]))) (λk x=>(u.length-k).toNat) ?_ ?_
 ·exact⟨0,4294967295#32,⟨G,G,(by rw[iw];rfl)⟩,KP⟩
 intro k x ⟨iu,vd,hx⟩;refine aD<|wq<|wm Z<|wm Z<|wy (aL af Z)<|wL Z Z<|aA<|aX Z (λar=> ?_) (λar=> ?_)
 ·refine aI<|aD<|aG<|aK<|wm Z<|wy (ML (k:=8) Z Z Z)<|wm Z<|wy (nR tq az Z)<|wm Z<|wm Z<|wy (aF af sz5 Z Z (ac.c _))<|wy (aT az Z Z (ac.c _))<|wy (bIn Z Z)<|wy (jG az au Z (by have:=bIm (x:=x) (al.rd k);have:=MG (x:=x) (al.rd k);omega)) ?_;refine wa (aC bPo Z (Ct.quiet (λw hw=>aGr))) ?_;rintro _ _⟨rfl,rfl⟩;refine wy (GN Z Z)<|wn Z<|aK<|wm Z<|wA Z Z<|wn Z ?_;exact⟨k+1,(x>>>8)^^^(SQ (BitVec.ofInt 32 ((BitVec.ofInt 8 (IntKind.u8.wrap (bv x))^^^BitVec.ofInt 8 (rd u k)).toNat:Int))),⟨G,G,(by rw[hx,RA iu G];have e:=bIm (x:=x) (al.rd k);rw[e,sH];rfl)⟩,G,KP⟩
 ·refine aR<|wq<|wm Z<|wy (bIq (p:=x) Z)<|wn Z<|bK ?_;refine⟨_,Z,?_⟩;refine bq (Value.int .u32) (bq bv ?_);rw[QI G] at hx;unfold fT;rw[hx,BitVec.xor_comm];rfl
theorem bAr (w:World):(Instr.build 150 #[]).run Tryz.prog w= .ok (.agg (wI 0 0 0 (List.replicate 256 0)).toArray) w:=cA
theorem nI:
  CF 39 #[] w (λv R'=> ∃g,v=PG g/\R'=[dR 150 g 0 0 0 (List.replicate 256 0)]):=by
 refine fn1 Tryz.func39 Z Z Z ?_;refine wq<|wn Z<|wq<|wy (aSx bAr)<|wa (bX (sz:=260) Z cA) ?_;rintro _ _⟨ap,rfl,rfl⟩;refine wn Z<|aU [0] 99 ?_;exact⟨_,Z,_,Z,Z⟩
theorem aRo (hr:0<=r/\r<1000000):
  CT 138 #[.pointer (some ⟨g,3,none⟩), .int .i32 1] B w0 (dR T g d s r t::R) (λv R'=>v= .int .i32 (r+1)/\R'=dR T g d s (r+1) t::R):=by
 refine fn1 Tryz.func138 Z Z Z ?_;refine wq<|wn Z<|wq<|wm Z<|wy (aH Z)<|wy (yF 0 3 underlying147 bRe Z)<|wm Z<|wa (aMr Z (λw hw=>bCt hr hw)) ?_;rintro _ _⟨rfl,rfl⟩;refine wn Z<|bK ?_;exact⟨_,Z,Z,Z⟩
theorem aDk (hr:0<=r/\r<1000000) (ht:t.length=256):
  CT 86 #[PG g] B w0 (dR T g d s r t::R) (λv R'=>v= .tuple #[]/\R'=dR T g d s (r+1) uH::R):=by
 refine fn0 Tryz.func86 Z Z Z ?_;refine wq<|wm Z<|wy (aH Z)<|wy (yF 3 3 Jo bMo Z)<|wa (aC bPv Z (Ct.at 0 Z (aRo G))) ?_;rintro _ _⟨rfl,rfl⟩;refine aA<|wq<|wm Z<|aA<|aG ?_;refine fG (λ(k:Int)=>[(0,PG g),(9,I k)]) (λk=>(dR T g d s (r+1) (uH.take k.toNat++t.drop k.toNat)::R)) (λk=>(0<=k)/\(k<=256)) (λk=>(256-k).toNat) ?_ ?_
 ·exact⟨0,⟨G,G⟩,KP⟩
 intro k ⟨iu,vd⟩;refine wq<|wL Z Z<|aA<|aD<|aX Z (λar=> ?_) (λar=> ?_)
 ·refine aI<|aD<|aG<|wq<|wm Z<|wn Z<|wq<|wm Z<|wy (WE au tq Z)<|wn Z<|aD ?_;refine wq<|wm Z<|aA<|aG ?_;refine dI (λ(j:Int) (x:BitVec 32)=>[(0,PG g),(2,I k),(3, .int .u32 (bv x)),(9,I k),(14,I j)]) (λj x=>(dR T g d s (r+1) (uH.take k.toNat++t.drop k.toNat)::R)) (λj x=>(0<=j)/\(j<=8)/\(SQ (BitVec.ofInt 32 k)=JG (8-j).toNat x)) (λj x=>(8-j).toNat) ?_ ?_
  ·exact⟨0,BitVec.ofInt 32 k,⟨G,G,(Z)⟩,KP⟩
  intro j x ⟨tj,hj8,hx⟩;refine wq<|wL Z Z<|aA<|aD<|aX Z (λbx=> ?_) (λbx=> ?_)
  ·refine aI<|aD<|aG<|wq<|wm Z<|wy (aEo (p:=x) (q:=1#32) Z Z)<|wn Z<|wq<|wm Z<|wy (ML (k:=1) Z Z Z)<|wn Z ?_;refine wq<|wm Z<|wy (bHc (p:=x &&& (1#32)) (q:=1#32) Z Z)<|aA<|aX Z (λef=> ?_) (λef=> ?_)
   ·refine aK<|wm Z<|wy (GN (p:=x>>>1) (q:=3988292384#32) Z Z)<|wn Z<|aK<|wA Z Z<|wm Z<|aA ?_;exact⟨j+1,(x>>>1)^^^(3988292384#32),⟨G,G,(by rw[hx,zS G];unfold VJ;rw[dm cF])⟩,G,KP⟩
   ·refine aI<|aK<|wA Z Z<|wm Z<|aA ?_;exact⟨j+1,x>>>1,⟨G,G,(by rw[hx,zS G];unfold VJ;rw[df cF])⟩,G,KP⟩
  ·refine aR<|aK<|wm Z<|wm Z<|wm Z<|wy (aH Z)<|wy (yF 4 4 Jo bHi Z)<|wy (TA 0 Z Z underlying148 bJc Z Z (by show _<(wI _ _ _ _).length;rw[JH,ah,ax,bn,yP,ht];omega) G G) ?_;refine bZ (bB 0 Z Z Z bJc Z Z Z Z (by show _<(wI _ _ _ _).length;rw[JH,ah,ax,bn,yP,ht];omega)) ?_;rintro _ _ rfl;refine gJ (R1:=(dR T g d s (r+1) (uH.take (k+1).toNat++t.drop (k+1).toNat)::R)) (by have hj:j=8:=G;subst hj;have hf:=aRm ht iu (show k<256 by omega);rw[hx] at hf;simp only[Ht,dR,aRn];rw[<-hf];rfl) ?_;refine aA<|aK<|wA Z Z<|wm Z<|aA ?_;exact⟨k+1,⟨G,G⟩,G,KP⟩
 ·refine aR ?_
  skip
  obtain rfl:k=256:=G
  refine⟨Z,?_⟩;have e:uH.take (256:Int).toNat++t.drop (256:Int).toNat=uH:=by rw[bg (by rw[yP];decide),ol (by rw[ht];decide),iw]
  rw[e]
theorem bDz {g:Nat} (gd:(d=0/\r'=r+1/\t.length=256/\0<=r/\r<1000000)\/(d=1/\r'=r/\t=uH)):
  CT 85 #[PG g, .func (.func 86) #[PG g] #[]] B w0 (dR T g d 0 r t::R) (λv R'=>v= .tuple #[]/\R'=dR T g 1 0 r' uH::R):=by
 rcases gd with⟨rfl,rfl,ht,hr⟩|⟨rfl,rfl,rfl⟩
 ·exact aOz (λw hw=>(aDk hr ht w hw).mono (by rintro e w' ⟨v,R',rfl,hh,rfl,rfl⟩;exact⟨rfl,hh⟩))
 ·exact aWm
theorem nH {A:AF} {m c:Nat} {vals:AG} {ls:AD} (gd:(d=0/\r'=r+1/\t.length=256/\0<=r/\r<1000000)\/(d=1/\r'=r/\t=uH)) (hA:RdC B w0 R A m c 1 vals) (hm:m=vals.length) (yd:yU B w0 R vals ls) (On:Big ls):
  CT 40 #[PG g,sl A m c] B w0 (dR T g d 0 r t::R) (λv R'=>v= .int .u32 (bv (fT ls.flatten))/\R'=dR T g 1 0 r' uH::R):=by
 refine fn1 Tryz.func40 Z Z Z ?_;have wk:=On.1;have nw:=yd.1;refine wq<|wn Z<|aD<|wq<|wm Z<|wy (kZ underlying82 Z Z)<|aA<|aP Z<|aI<|wq<|wm Z ?_;refine wy (aH Z)<|wy (yF 0 0 Jo bMp Z)<|wm Z<|wy (mX Z Z)<|wa (aC bRu Z (Ct.at 0 Z (bDz gd))) ?_;rintro _ _⟨rfl,rfl⟩;refine aA<|wq<|wn Z<|aD<|wq<|wm Z<|wy (aL ay Z)<|wm Z<|aA<|aG ?_;refine dI (λ(k:Int) (x:BitVec 32)=>[(0,PG g),(5, .int .u32 (bv x)),(18,sl A m c),(19,I (m:Int)),(20,I k)]) (λk x=>(dR T g 1 0 r' uH::R)) (λk x=>(0<=k)/\(k<=m)/\(FZ 4294967295#32 ls.flatten=FZ x (ls.drop k.toNat).flatten)) (λk x=>(m-k).toNat) ?_ ?_
 ·exact⟨0,4294967295#32,⟨G,G,(Z)⟩,KP⟩
 intro k x ⟨iu,vd,hx⟩;refine wq<|wL Z Z<|aA<|aD<|aX Z (λar=> ?_) (λar=> ?_)
 ·refine aI<|aD<|aG<|wq<|wy (aF ay cZ Z Z (RdC.tail hA)) ?_;obtain⟨A1,c1,l1,Xr,b7,Pf,xa⟩:=yd.at iu (by have:=yd.1;omega);have j9:=On.2 _ _ b7;refine wy (kH af Z Z Z (RdC.tail hA) Xr)<|wn Z<|wq<|wm Z<|wy (aL af Z)<|wm Z<|aA<|aG ?_;refine dI (λ(j:Int) (y:BitVec 32)=>[(0,PG g),(5, .int .u32 (bv y)),(18,sl A m c),(19,I (m:Int)),(20,I k),(24,sl A1 l1.length c1),(25,I (l1.length:Int)),(26,I j)]) (λj y=>(dR T g 1 0 r' uH::R)) (λj y=>(0<=j)/\(j<=l1.length)/\(FZ 4294967295#32 ls.flatten=FZ y (l1.drop j.toNat++(ls.drop (k+1).toNat).flatten))) (λj y=>(l1.length-j).toNat) ?_ ?_
  ·exact⟨0,x,⟨G,G,(by rw[hx,drop_flat iu b7];rfl)⟩,KP⟩
  intro j y ⟨tj,w4,hy⟩;refine wq<|wL Z Z<|aA<|aD<|aX Z (λbx=> ?_) (λbx=> ?_)
  ·refine aI<|aD<|aG<|wq<|wy (aF af sz5 Z Z (RdC.tail Pf))<|wy (aT az Z Z (RdC.tail Pf))<|wn Z<|aK<|wm Z<|wy (ML (k:=8) Z Z Z)<|wm Z<|wm Z<|wy (aEo (p:=y) (q:=255#32) Z Z) ?_;refine wm Z<|wy (WE az tq Z)<|wy (GN Z Z)<|wy (aH Z)<|wy (yF 4 4 Jo bHi Z)<|wy (TA 0 Z Z underlying148 bJc Z Z (by show _<(wI _ _ _ _).length;rw[JH,yP];omega) (by exact(MG (x:=y) (xa.rd j)).1) (by exact(MG (x:=y) (xa.rd j)).2)) ?_;refine wy (bIr 0 Z Z tq Z Z (bAd (bFv (MG (x:=y) (xa.rd j)).2)))<|wy (GN Z Z)<|wn Z<|aK<|wA Z Z<|wm Z<|aA ?_;exact⟨j+1,(y>>>8)^^^(SQ (aDv y (rd l1 j))),⟨G,G,(by rw[hy,RA tj G];rfl)⟩,G,KP⟩
  ·refine aR<|aK<|wA Z Z<|wm Z<|aA ?_;exact⟨k+1,y,⟨G,G,(by rw[hy,QI G];rfl)⟩,G,KP⟩
 ·refine aR<|wq<|wm Z<|wy (GN (p:=x) (q:=4294967295#32) Z Z)<|wn Z<|bK ?_;refine⟨_,Z,?_⟩;refine⟨?_,Z⟩;rw[QI G] at hx;unfold fT;rw[hx];rfl
end
section
variable {w:World} {an:AF} {ba am:Nat} {u:AH}
theorem aPq (ac:Rd w an ba am 1 (ints .u8 u)) (al:aO u) (cg:0<u.length) (Tj:u.length<=1000000):
  CF 112 #[sl an ba am] w (λv R'=>v=I (lp u)):=by
 obtain rfl:=ac.lenI;refine fn1 Tryz.func112 Z Z Z ?_;have ia:=ac.max;refine wq<|wn Z<|aD<|wq<|wn Z<|aG ?_;refine fG (λ(p:Int)=>[(0,sl an u.length am),(3,I p)]) (λp=>[]) (λp=>(1<=p)/\(p<=u.length+1)/\(lp u=lpF u ((u.length:Int)+1-p).toNat p)) (λp=>((u.length:Int)+1-p).toNat) ?_ ?_
 ·exact⟨1,⟨G,G,(by unfold lp;congr 1;omega)⟩,KP⟩
 intro p ⟨qq,oa,hl⟩;refine aD<|wq<|wm Z<|wm Z<|wy (aL af Z)<|wy (qM Z Z)<|aA<|aX Z (λar=> ?_) (λar=> ?_)
 ·refine aI<|aD<|aG<|aD<|bD mixed<|wD 0 Z (aJ Z)<|wD 1 Z (aJ Z)<|wD 2 Z (dH af sz5 Z Z)<|wD 3 Z (iB af az ry Z (RdC.fromI (ac.c _) G))<|wD 4 Z (aJ Z)<|wD 5 Z (aJ Z)<|wD 6 Z (aL af Z)<|wD 7 Z (aJ Z)<|wD 8 Z (kY Z Z)<|wD 9 Z (eD af sz5 Z Z (ac.c _)) ?_;refine wD 10 Z (iB af az ry Z (RdC.toI (ac.c _) G))<|wD 11 Z (ZC Z Z (aO.drop al _) (aO.take al _))<|wN<|aX Z (λbx=> ?_) (λbx=> ?_)
  ·refine wq<|wm Z<|wn Z<|bK ?_;refine⟨_,Z,?_⟩;exact bq (Value.int .i64) (by rw[hl,aKy G cF])
  ·refine aI<|aK<|wm Z<|wA Z Z<|wn Z ?_;exact⟨p+1,⟨G,G,(by rw[hl,aXc G cF];congr 1;omega)⟩,G,KP⟩
 ·refine aR<|wq<|wn Z<|bK ?_;refine⟨_,Z,?_⟩;have:=PT cg;have e0:((u.length:Int)+1-p).toNat=0:=G
  rw[e0] at hl;unfold lpF at hl;omega
theorem NU (ac:Rd w an ba am 1 (ints .u8 u)) (al:aO u) (cg:0<u.length) (Tj:u.length<=1000000):
  CF 59 #[sl an ba am] w (λv R'=>v= .tuple #[sl an (rl u).toNat am,I ((u.length:Int)/rl u)]):=by
 obtain rfl:=ac.lenI;refine fn2 Tryz.func59 Z Z Z ?_;have ia:=ac.max;have Ow:=PT cg;refine wq<|wg Z<|wn Z<|wq<|wm Z<|wa (aC bQe Z (Ct.quiet (λw hw=>aPq ((ac.c _) w hw) cE cE cE))) ?_;rintro _ _⟨rfl,rfl⟩;refine wn Z<|aD<|wq<|wm Z<|wy (eT Z Z)<|aA<|aX Z (λar=> ?_) (λar=> ?_)
 ·refine wq<|wg Z<|wn Z<|bK ?_;refine⟨_,_,Z,Z,?_⟩;omega
 ·refine aI<|aD<|wq<|wm Z<|wy (aL af Z)<|wm Z<|wy (tC Z Z)<|wy (fQ Z Z)<|aA<|aX Z (λbx=> ?_) (λbx=> ?_)
  ·refine aK<|wm Z<|wy (aL af Z)<|wn Z<|aD<|bD mixed<|wD 0 Z (aJ Z)<|wD 1 Z (aJ Z)<|wD 2 Z (eD af sz5 Z Z (ac.c _))<|wD 3 Z (aJ Z)<|wD 4 Z (aL af Z)<|wD 5 Z (aJ Z)<|wD 6 Z (wW Z Z G G G)<|wD 7 Z (aW Z) ?_;refine wD 8 Z (aW Z)<|wN<|bK ?_;refine⟨_,_,Z,Z,?_⟩;have e:rl u=u.length:=by unfold rl;rw[dm cF]
   rw[e]
  ·refine aI<|aD<|bD mixed<|wD 0 Z (aJ Z)<|wD 1 Z (aJ Z)<|wD 2 Z (eD af sz5 Z Z (ac.c _))<|wD 3 Z (aJ Z)<|wD 4 Z (aL af Z)<|wD 5 Z (aJ Z)<|wD 6 Z (wW Z Z G G G)<|wD 7 Z (aW Z)<|wD 8 Z (aW Z)<|wN<|bK ?_;refine⟨_,_,Z,Z,?_⟩;have e:rl u=lp u:=by unfold rl;rw[df cF]
   rw[e]
end
section
variable {B g n c:Nat} {w0:World} {R:List Row} {A:AF} {x:AH} {us cc r total:Int}
theorem vU {C:AH} {y v0:Int} (hn:n=C.length) (dq:mE C) (hy:0<=y/\y<258) (hv:cK (C.take y.toNat)<=v0/\v0<cK (C.take y.toNat)+rd C y):
  CT 242 #[PG g,I v0] B w0 ((rc 188 2 g [sl A n c,I (cK C)])::(ri 3 A n c C)::R) (λv R'=>v= .tuple #[I y,bt]/\R'=(rc 188 2 g [sl A n c,I (cK C)])::(ri 3 A n c C)::R):=by
 subst hn;have kf:=dq.1;have hpy:=dq.le.part hy.1 hy.2;have Pe:=uL (i:=y) dq.2.1 hy.1 G;refine fn2 Tryz.func242 Z Z Z ?_;refine wq<|wg Z<|wn Z<|aD<|wq<|wm Z<|wy (Yl.f (eQ Z Z))<|wm Z<|aB Z Z<|wm Z<|aB Z Z<|wm Z ?_;refine aB Z Z<|wa (aC aHx Z ((jV))) ?_;rintro _ _⟨rfl,rfl⟩;refine aB Z Z<|wy (Yl.f (iL Z Z))<|wy (aN Z Z)<|aA<|aP Z<|aI<|aD<|aG ?_;refine dI (λ(i:Int) (x:Int)=>[(0,PG g),(1,I x),(4,I i)]) (λi x=>((rc 188 2 g [sl A C.length c,I (cK C)])::(ri 3 A C.length c C)::R)) (λi x=>(0<=i)/\(i<=y)/\(x=v0-cK (C.take i.toNat))) (λi x=>(y-i).toNat) ?_ ?_
 ·exact⟨0,v0,⟨G,G,(by rw[show cK (C.take (0:Int).toNat)=0 from rfl];omega)⟩,KP⟩
 intro i x ⟨aw,ff,hx⟩;have hp:=dq.le.part aw G;refine aD<|wq<|wm Z<|wm Z<|wy (aH Z)<|wy (yF 0 0 qw eY Z)<|wy (yL 0 aa Z Z Z)<|wm Z<|wy (aF aa sz3 Z Z (rdr 1 Z))<|wy (aT au Z Z (rdr 1 Z))<|wy (iL Z Z)<|aA<|aX Z (λar=> ?_) (λar=> ?_)
 ·have cg:i≠y:=by rintro rfl;omega
  refine aI<|aG<|wq<|wm Z<|wm Z<|wy (aH Z)<|wy (yF 0 0 qw eY Z)<|wy (yL 0 aa Z Z Z)<|wm Z<|wy (aF aa sz3 Z Z (rdr 1 Z))<|wy (aT au Z Z (rdr 1 Z))<|wS Z Z<|wn Z ?_;refine aK<|wm Z<|wA Z Z<|wn Z ?_;exact⟨i+1,x-(rd C i),⟨G,G,(by rw[oP aw G];omega)⟩,G,KP⟩
 ·refine aR<|wq<|wm Z<|wg Z<|wn Z<|bO (R1:=((rc 188 2 g [sl A C.length c,I (cK C)])::(ri 3 A C.length c C)::R)) hiZ ?_;refine⟨_,_,Z,Z,?_⟩;obtain rfl:i=y:=bCl dq.2.1 aw ff G hv.1 G;exact⟨Z,Z⟩
theorem rZ {M:Int} {m:Nat} (hn:n=x.length) (Bx:aO x) (hN:x.length<=1000000) (hu:us=(m:Int)) (hc:cc=uT (x.take m)-M) (hb:0<=cc/\cc<4294967296) (hm:m<x.length):
  CT 270 #[PG g] B w0 ((rc 310 4 g [sl A n c,I us, .int .u64 cc, .int .u64 r])::(ru 5 A n c x)::R) (λv R'=>v=bt/\R'=(rc 310 4 g [sl A n c,I ((m+1:Nat):Int), .int .u64 (uT (x.take (m+1))-M*256), .int .u64 r])::(ru 5 A n c x)::R):=by
 subst hn;subst hu;have hbx:=Bx.rd (m:Int);refine fn1 Tryz.func270 Z Z Z ?_;refine wq<|wn Z<|aD<|aD<|bD mixed<|wD 0 Z (aJ Z)<|wD 1 Z (aH Z)<|wD 2 Z (yF 1 1 qg sz3 Z)<|wD 3 Z (yL 0 au Z Z Z)<|wD 4 Z (aJ Z)<|wD 5 Z (aH Z)<|wD 6 Z (yF 0 0 qg cZ Z)<|wD 7 Z (yL 0 af Z Z Z) ?_;refine wD 8 Z (aL af Z)<|wD 9 Z (Yl.f (iL Z Z))<|wN<|aP Z<|aI<|aD<|bD mixed<|wD 0 Z (aJ Z)<|wD 1 Z (aJ Z)<|wD 2 Z (aH Z)<|wD 3 Z (yF 2 2 qg gT Z)<|wD 4 Z (yL 0 gy Z Z Z)<|wD 5 Z (wV (k:=8) (m:=256) Z Z Z G Z)<|wD 6 Z (aJ Z)<|wD 7 Z (aH Z) ?_;refine wD 8 Z (yF 0 0 qg cZ Z)<|wD 9 Z (yL 0 af Z Z Z)<|wD 10 Z (aJ Z)<|wD 11 Z (aH Z)<|wD 12 Z (yF 1 1 qg sz3 Z)<|wD 13 Z (yL 0 au Z Z Z)<|wD 14 Z (aF af sz5 Z Z (rdr 1 Z))<|wD 15 Z (aT az Z Z (rdr 1 Z))<|wD 16 Z (iM az gy Z)<|wD 17 Z (bMd (p:=cc) (m:=256) 8 Z Z Z G G)<|wD 18 Z (aH Z)<|wD 19 Z (yF 2 2 qg gT Z)<|qC 20 Z cA (bB 0 Z Z Z gT Z Z Z Z (ak Z)) ?_;rintro _ _ rfl;refine⟨.inl cA,?_⟩;refine wN<|wq<|wm Z<|wy (aH Z)<|wy (yF 1 1 qg sz3 Z)<|wy (yL 0 au Z Z Z)<|wA Z Z<|wy (aH Z)<|wy (yF 1 1 qg sz3 Z)<|bZ (bB 0 Z Z Z sz3 Z Z Z Z (ak Z)) ?_;rintro _ _ rfl;refine aA<|wq<|wn Z<|bO (R1:=((rc 310 4 g [sl A x.length c,I ((m:Int)+1), .int .u64 (cc*256+rd x (m:Int)), .int .u64 r])::(ru 5 A x.length c x)::R)) hiZ ?_;refine⟨_,Z,?_⟩;rw[aDf hm hc];exact⟨Z,Z⟩
theorem PI {w:World} {an:AF} {ba am:Nat} {u:AH} (ac:Rd w an ba am 1 (ints .u8 u)) (al:aO u) (hN:u.length<=1000000) (h4:4<=u.length):
  CF 240 #[sl an ba am] w (λv R'=> ∃g A c,v= .tuple #[PG g,bt]/\R'=[(rc 310 4 g [sl A u.length c,I ((cd0.k+4:Nat):Int), .int .u64 (cuC u cd0), .int .u64 cd0.R]),(ru 5 A u.length c u)]):=by
 obtain rfl:=ac.lenI;refine fn2 Tryz.func240 Z Z Z ?_;have ia:=ac.max;have ij:=EN 0 (u.take 0) (by rw[ax];omega) (al.take _);have yi:=EN 1 (u.take 1) (by rw[ax];omega) (al.take _);have Zn:=EN 2 (u.take 2) (by rw[ax];omega) (al.take _);have Tr:=EN 3 (u.take 3) (by rw[ax];omega) (al.take _);refine wq<|wg Z<|wn Z<|aD<|wq<|wm Z<|wy (aL af Z)<|wy (Yl.f (eQ Z Z))<|aA<|aP Z<|aI<|aD ?_;refine aK<|wm Z<|wa (aC aRc Z (Ct.fresh (λw hw=>rT ((ac.c _) w hw) hN))) ?_;rintro _ _⟨_,rfl,cm,ci,rfl,rfl⟩;refine wy (iC (v:= .agg #[sl cm u.length ci,I 0, .int .u64 0, .int .u64 4294967295]) Z (λw=>cA))<|wa (bX (sz:=4) rfl rfl) ?_;rintro _ _⟨gw,rfl,rfl⟩;refine wn Z<|aD<|wq<|wm Z<|aA<|aG<|iZ 5<|dN<|wq<|wy (Yl.t (eQ Z Z) cC)<|aA<|aD ?_;refine dG Z<|aI<|aD<|aG<|aK<|wm Z<|wa (aC aCw Z ((rZ (m:=0) (M:=0) Z al hN Z Z (by first|exact⟨cC,cC⟩|(simp only[ny,Nat.reduceAdd,Jv,Ju];omega)) G))) ?_;rintro _ _⟨rfl,rfl⟩;refine aA<|aK<|wy (Yl.is (bT Z Z) Z)<|wm Z<|aA<|dN<|wq<|wy (Yl.t (eQ Z Z) cC)<|aA<|aD<|dG Z<|aI<|aD<|aG ?_;refine aK<|wm Z<|wa (aC aCw Z ((rZ (m:=0+1) (M:=(0*256)) Z al hN Z Z (by first|exact⟨cC,cC⟩|(simp only[ny,Nat.reduceAdd,Jv,Ju];omega)) G))) ?_;rintro _ _⟨rfl,rfl⟩;refine aA<|aK<|wy (Yl.is (bT Z Z) Z)<|wm Z<|aA<|dN<|wq<|wy (Yl.t (eQ Z Z) cC)<|aA<|aD<|dG Z<|aI<|aD<|aG ?_;refine aK<|wm Z<|wa (aC aCw Z ((rZ (m:=0+1+1) (M:=(0*256*256)) Z al hN Z Z (by first|exact⟨cC,cC⟩|(simp only[ny,Nat.reduceAdd,Jv,Ju];omega)) G))) ?_;rintro _ _⟨rfl,rfl⟩;refine aA<|aK<|wy (Yl.is (bT Z Z) Z)<|wm Z<|aA<|dN<|wq<|wy (Yl.t (eQ Z Z) cC)<|aA<|aD<|dG Z<|aI<|aD<|aG ?_;refine aK<|wm Z<|wa (aC aCw Z ((rZ (m:=0+1+1+1) (M:=(0*256*256*256)) Z al hN Z Z (by first|exact⟨cC,cC⟩|(simp only[ny,Nat.reduceAdd,Jv,Ju];omega)) G))) ?_;rintro _ _⟨rfl,rfl⟩;refine aA<|aK<|wy (Yl.is (bT Z Z) Z)<|wm Z<|aA<|dN<|wq<|wy (Yl.f (eQ Z Z) cC)<|aA<|aD<|aP Z<|aR<|wq ?_;refine wm Z<|wg Z<|wn Z<|bO (R1:=[(rc 310 4 gw [sl cm u.length ci,I ((0+1+1+1+1:Nat):Int), .int .u64 (uT (u.take (0+1+1+1+1))-(0*256*256*256)*256), .int .u64 4294967295]),(ru 5 cm u.length ci u)]) hiZ ?_;refine⟨_,_,Z,Z,?_⟩;exact⟨_,_,_,Z,Z⟩
theorem IX (hn:n=x.length) (ht:1<=total/\total<=65536) (hr:16777216<=r/\r<4294967296) (hc:0<=cc/\cc<4294967296) (hv:cc/(r/total)<total):
  CT 241 #[PG g,I total] B w0 ((rc 310 4 g [sl A n c,I us, .int .u64 cc, .int .u64 r])::(ru 5 A n c x)::R) (λv R'=>v= .tuple #[I (cc/(r/total)),bt]/\R'=(rc 310 4 g [sl A n c,I us, .int .u64 cc, .int .u64 r])::(ru 5 A n c x)::R):=by
 subst hn;have hq:256<=r/total:=(Bc G).2 G;have Xq:0<=cc/(r/total):=Gj hc.1 G;refine fn2 Tryz.func241 Z Z Z ?_;refine wq<|wg Z<|wn Z<|aD<|wq<|wm Z<|wy (kZ underlying280 Z Z)<|wm Z<|aB Z Z<|wm Z<|aB Z Z<|wy (Yl.f (eQ Z Z)) ?_;refine wy (aN Z Z)<|wm Z<|aB Z Z<|wm Z<|aB Z Z<|wy (Yl.f (bW Z Z))<|wy (aN Z Z)<|aA<|aP Z<|aI<|wq<|wm Z<|wy (aH Z)<|wy (yF 3 3 qg gT Z) ?_;refine wy (yL 0 gy Z Z Z)<|wm Z<|wy (iM au gy Z)<|wy (GQ Z Z G G)<|wn Z<|aD<|wq<|wm Z<|wy (Yl.f (eT Z Z))<|wm Z<|aB Z Z<|wm Z<|aB Z Z ?_;refine wy (aH Z)<|aB Z Z<|wy (yF 2 2 qg gT Z)<|aB Z Z<|wy (yL 0 gy Z Z Z)<|aB Z Z<|wm Z<|aB Z Z<|wy (GQ Z Z G G)<|aB Z Z<|wm Z<|aB Z Z<|wy (iM au gy Z)<|aB Z Z<|wy (Yl.f (iL Z Z)) ?_;refine wy (aN Z Z)<|aA<|aP Z<|aI<|wq<|wm Z<|wy (aH Z)<|wy (yF 2 2 qg gT Z)<|wy (yL 0 gy Z Z Z)<|wm Z<|wy (GQ Z Z G G)<|wy (jG gy au Z)<|wg Z<|wg Z ?_;refine aA<|bO (R1:=((rc 310 4 g [sl A x.length c,I us, .int .u64 cc, .int .u64 r])::(ru 5 A x.length c x)::R)) hiZ ?_;refine⟨_,_,Z,Z,?_⟩;exact⟨Z,Z⟩
theorem HV {s:CdS} {low size:Int} (hn:n=x.length) (Bx:aO x) (hN:x.length<=1000000) (hs:16777216<=s.R/\s.R<4294967296) (j4:uK low size total) (Iv:s.R/total*low<=cuC x s) (Vy:cuC x s<s.R/total*(low+size)) (hlen:(sF s low size total).k+4<=x.length):
  CT 243 #[PG g,I low,I size,I total] B w0 ((rc 310 4 g [sl A n c,I ((s.k+4:Nat):Int), .int .u64 (cuC x s), .int .u64 s.R])::(ru 5 A n c x)::R) (λv R'=>v=bt/\R'=(rc 310 4 g [sl A n c,I (((sF s low size total).k+4:Nat):Int), .int .u64 (cuC x (sF s low size total)), .int .u64 ((sF s low size total).R)])::(ru 5 A n c x)::R):=by
 subst hn;have Mu:=j4;obtain⟨s1,s2,s3,s4⟩:=Mu;obtain⟨f1,f2,f3,f4,f5⟩:=oQ j4 hs;have Tl:=Kn (s.R/total) low size;have Wl:s.k+shN (s.R/total*size)+4<=x.length:=hlen;refine fn1 Tryz.func243 Z Z Z ?_;refine wq<|wn Z<|aD<|wq<|wm Z<|wy (kZ underlying280 Z Z)<|wm Z<|aB Z Z<|wm Z<|aB Z Z<|wm Z<|aB Z Z ?_;refine wm Z<|aB Z Z<|wa (aC bIf Z (Ct.quiet (λw hw=>KC j4))) ?_;rintro _ _⟨rfl,rfl⟩;refine aB Z Z<|wy (dC Z)<|wy (aN Z Z)<|aA<|aP Z<|aI<|wq<|wm Z<|wy (aH Z)<|wy (yF 3 3 qg gT Z)<|wy (yL 0 gy Z Z Z)<|wm Z<|wy (iM au gy Z)<|wy (GQ Z Z G G) ?_;refine wn Z<|aD<|wq<|wm Z<|wy (aH Z)<|wy (yF 2 2 qg gT Z)<|wy (yL 0 gy Z Z Z)<|wm Z<|wm Z<|wy (iM au gy Z)<|wy (vH Z Z G)<|wy (Yl.f (eQ Z Z))<|wm Z ?_;refine aB Z Z<|wm Z<|aB Z Z<|wy (aH Z)<|aB Z Z<|wy (yF 2 2 qg gT Z)<|aB Z Z<|wy (yL 0 gy Z Z Z)<|aB Z Z<|wm Z<|aB Z Z<|wm Z<|aB Z Z<|wm Z<|aB Z Z ?_;refine wA Z Z<|aB Z Z<|wy (iM au gy Z)<|aB Z Z<|wy (vH Z Z G)<|aB Z Z<|wy (Yl.f (iL Z Z))<|wy (aN Z Z)<|aA<|aP Z<|aI<|wq<|wm Z<|wy (aH Z) ?_;refine wy (yF 2 2 qg gT Z)<|wy (yL 0 gy Z Z Z)<|wm Z<|wm Z<|wy (iM au gy Z)<|wy (vH Z Z G)<|wy (bIo Z Z G)<|wy (aH Z)<|wy (yF 2 2 qg gT Z)<|bZ (bB 0 Z Z Z gT Z Z Z Z (ak Z)) ?_;rintro _ _ rfl;refine aA<|aD<|wq<|wm Z<|wm Z<|wm Z<|wy (iM au gy Z)<|wy (vH Z Z G)<|wy (aH Z)<|wy (yF 3 3 qg gT Z)<|bZ (bB 0 Z Z Z gT Z Z Z Z (ak Z)) ?_;rintro _ _ rfl;refine aA<|aG ?_;refine LC (λ(j:Nat) (cc:Int) (r:Int) (M:Int)=>[(0,PG g)]) (λj cc r M=>((rc 310 4 g [sl A x.length c,I ((s.k+j+4:Nat):Int), .int .u64 cc, .int .u64 r])::(ru 5 A x.length c x)::R)) (λj cc r M=>(M=(s.N+s.R/total*low)*256^j)/\(r=(s.R/total*size)*256^j)/\(j<=shN (s.R/total*size))/\(cc=uT (x.take (s.k+j+4))-M)/\(0<=cc/\cc<r)) (λj cc r M=>(4-j)) ?_ ?_
 ·exact⟨0,(cuC x s-s.R/total*low),(s.R/total)*size,(s.N+s.R/total*low),⟨(by rw[vv,Ab]),(by rw[vv,Ab]),(oz _),(by show cuC x s-s.R/total*low=uT (x.take (s.k+4))-_;unfold cuC;omega),G⟩,KP⟩
 intro j cc r M ⟨hM,hr,hj,hc,hb⟩;have kb:=IA (s.R/total*size);have Xh:1<=r:=by rw[hr];exact EF G
 refine aD<|wq<|wm Z<|wy (aH Z)<|wy (yF 3 3 qg gT Z)<|wy (yL 0 gy Z Z Z)<|wL Z Z<|aA<|aX Z (λar=> ?_) (λar=> ?_)
 ·have hj2:j+1<=shN (s.R/total*size):=DR G hj (by rw[<-hr];assumption);have gg:=aDf (x:=x) (m:=s.k+j+4) G hc;have hbx:=Bx.rd ((s.k+j+4:Nat):Int);have vx:0<=uT (x.take (s.k+j+4+1))-M*256/\uT (x.take (s.k+j+4+1))-M*256<r*256:=G
  refine aI<|aD<|aG<|wq<|wm Z<|wa (aC aCw Z ((rZ (m:=(s.k+j+4)) (M:=M) Z Bx hN Z hc G G))) ?_;rintro _ _⟨rfl,rfl⟩;refine wy (dC Z)<|aA<|aP Z<|aI<|aK<|wm Z<|wy (aH Z)<|wy (yF 3 3 qg gT Z)<|wy (yL 0 gy Z Z Z)<|wy (wV (k:=8) (m:=256) Z Z Z G Z)<|wy (aH Z)<|wy (yF 3 3 qg gT Z)<|bZ (bB 0 Z Z Z gT Z Z Z Z (ak Z)) ?_;rintro _ _ rfl;refine aA ?_;exact⟨(j+1),(uT (x.take (s.k+j+4+1))-M*256),r*256,(M*256),⟨(by rw[hM,ui,<-xe]),(by rw[hr,ui,<-xe]),(hj2),(Z),(vx)⟩,G,KP⟩
 ·refine aR<|wq<|wn Z<|bO (R1:=((rc 310 4 g [sl A x.length c,I ((s.k+j+4:Nat):Int), .int .u64 cc, .int .u64 r])::(ru 5 A x.length c x)::R)) hiZ ?_;refine⟨_,Z,?_⟩;obtain rfl:j=shN (s.R/total*size):=LM G hj (by rw[<-hr];omega);rw[hc,hr,hM];exact⟨Z,Z⟩
end
end Go.Proofs.YtnbfoleohpdhjaaGreat
