/- Own work. -/
import Derived.Lib.SmallJoins
import Derived.Deep.Slices
import Derived.Test.YtdbebmmhdefgdaaGreatO6
set_option linter.unusedVariables false
set_option linter.unusedSimpArgs false
set_option maxHeartbeats 8000000
namespace Go.Eng
open Go Go.RowKit Go.Pure
structure OpR where
 K:Int
 A:AF
 c:Nat
 d:AH
 N:Int
 p0:Int
 p1:Int
 p2:Int
 p3:Int
instance:Inhabited OpR:=⟨⟨0,none,0,[],0,0,0,0,0⟩⟩
def aCd (o:OpR):AG:=[.int .i64 o.K, .slice o.A o.d.length o.c, .int .i64 o.N, .int .i64 o.p0, .int .i64 o.p1, .int .i64 o.p2, .int .i64 o.p3]
def vB (l:List OpR):AG:=l.flatMap aCd
def rdO (l:List OpR) (i:Int):OpR:=l.getD i.toNat default
def XL (w:World) (l:List OpR):Prop:= ∀o∈l,Rd w o.A o.d.length o.c 1 (ints .u8 o.d)/\aP o.d
theorem XL.at {w:World} {l:List OpR} (h:XL w l) {i:Int} (h0:0<=i) (h1:i<l.length):Rd w (rdO l i).A (rdO l i).d.length (rdO l i).c 1 (ints .u8 (rdO l i).d)/\aP (rdO l i).d:=by
 unfold rdO;rw[ak,av G];exact h _ (mf _)
theorem XL.c {w w':World} {R:List Row} {l:List OpR} (h:XL w l) (hw:Hp w.heap.size w w' R):XL w' l:=λo ho=>⟨(h o ho).1.c _ w' hw,(h o ho).2⟩
theorem qV (l:List OpR):(vB l).length=l.length*7:=by
 induction l with
 |nil=>rfl
 |cons o l ih=>
  show(aCd o++vB l).length=_;rw[ah,ih,dh];show 7+_=_;omega
theorem VU {l:List OpR} {i:Int} (h0:0<=i) (h1:i<l.length):((vB l).drop (i.toNat*7)).take 7=aCd (rdO l i):=by
 have e:l=l.take i.toNat++rdO l i::l.drop (i.toNat+1):=by
  conv=>lhs;rw[<-gu i.toNat l]
  congr 1;rw[kv G];congr 1;unfold rdO;rw[ak,av G];rfl
 have hl:(vB (l.take i.toNat)).length=i.toNat*7:=by rw[qV,ax,za G]
 have e2:vB l=vB (l.take i.toNat)++(aCd (rdO l i)++vB (l.drop (i.toNat+1))):=by
  conv=>lhs;rw[e]
  unfold vB;rw[List.flatMap_append];rfl
 rw[e2,Ez hl];rfl
theorem aAq {l:List OpR} {i:Int} {q:Nat} {v:Value} (h0:0<=i) (h1:i<l.length) (hq:Nat.blt q 7=true) (hv:(aCd (rdO l i))[q]? =some v):(vB l)[i.toNat*7+q]? =some v:=by
 have Po:q<7:=au hq;rw[<-VU h0 h1,ow Po,qm] at hv;exact hv
section
variable {P:Program} {n:Nd} {B:Nat} {w0:World} {L:Env} {R:List Row} {ty:TypeId}
theorem lD {x:Operand} {t tf:TypeId} {fs:Array Field} {k st off m c:Nat} {A:AF} {i:Int} {l:List OpR} (hu:P.underlying t=some (.struct fs)) (hf:(fs[k]?).map (λf=>(f.offset,f.type))=some (off,tf)) (gs:(P.info? tf).map (·.size)=some st) (w8:Nat.blt 0 st=true)
  (hx:ev L x=some (.pointer (pat A (i.toNat*7)))) (hr:RdC B w0 R A m c 7 (vB l)) (h0:0<=i) (h1:i<l.length):Yl P n B w0 (.fieldAddr t x k) ty L R (.pointer (pat A (i.toNat*7+off))):=by
 obtain⟨f,Sv,he⟩:=il.1 hf;simp only[yt] at he;obtain⟨rfl,rfl⟩:=he;intro a w o ho k9 hs hp;obtain⟨a0,rfl,_⟩:=(hr w hp).at_ (i.toNat*7+0) _ (aAq h0 h1 rfl rfl);have:=vG (P:=P) (n:=n) (B:=B) (w0:=w0) (R:=R) (ty:=ty) hu Sv gs w8 (show ev L x=some (.pointer (some (a0.add (i.toNat*7)))) from hx) a w o ho k9 hs hp;rw[add_add] at this;exact this
theorem rV {x:Operand} {t:TypeId} {d:TypeDesc} {A:AF} {m c:Nat} {l:List OpR} {i:Int} {q:Nat} {v:Value} (hu:P.underlying t=some d) (hd:AA d=false) (hx:ev L x=some (.pointer (pat A (i.toNat*7+q)))) (hr:RdC B w0 R A m c 7 (vB l)) (h0:0<=i) (h1:i<l.length) (hq:Nat.blt q 7=true) (hv:(aCd (rdO l i))[q]? =some v):
  Yl P n B w0 (.load t x) ty L R v:=rF hu hd hx rfl hr (aAq h0 h1 hq hv)
theorem aIu {x:Operand} {t:TypeId} {d:TypeDesc} {A:AF} {m c:Nat} {l:List OpR} {i:Int} (hu:P.underlying t=some d) (hd:AA d=true) (gs:(P.info? t).map (·.size)=some 7) (hx:ev L x=some (.pointer (pat A (i.toNat*7)))) (hr:RdC B w0 R A m c 7 (vB l)) (h0:0<=i) (h1:i<l.length):
  Yl P n B w0 (.load t x) ty L R (.agg #[.int .i64 (rdO l i).K, .slice (rdO l i).A (rdO l i).d.length (rdO l i).c, .int .i64 (rdO l i).N, .int .i64 (rdO l i).p0, .int .i64 (rdO l i).p1, .int .i64 (rdO l i).p2, .int .i64 (rdO l i).p3]):=by
 have:=aIv (P:=P) (n:=n) (B:=B) (w0:=w0) (R:=R) (ty:=ty) hu hd gs hx rfl hr (by rw[qV];omega) G;rwa[VU h0 h1] at this
end
end Go.Eng
namespace Go.Proofs.YtdbebmmhdefgdaaGreat
open Go Go.Eng Go.Pure
open Tryz
set_option maxRecDepth 100000
theorem aOr {w:World} {io:AF} {mt iz:Nat} {l:List OpR} (dr:Rd w io mt iz 7 (vB l)) (Kj:XL w l):
  CF 28 #[sl io mt iz] w (λv R'=> ∃b:Bool,v= .bool (decide (b=true))/\(b=false->l.length<=12/\ ∀q:Int,0<=q->q<l.length->(rdO l q).d.length<=40)):=by
 obtain rfl:mt=l.length:=by have:=dr.len;rw[qV] at this;omega
 refine fn1 Tryz.func28 Z Z Z ?_;refine wq<|wn Z<|aC<|wq<|wn Z<|aH ?_;refine fM (λ(i:Int)=>[(0,sl io l.length iz),(3,I i)]) (λi=>[]) (λi=>(0<=i)/\(i<=l.length)/\(i<=20)/\(∀q:Int,0<=q->q<i->(rdO l q).d.length<=40)) (λi=>(20-i).toNat) ?_ ?_
 ·exact⟨0,⟨G,G,G,(λq h1 h2=>G)⟩,KP⟩
 intro i ⟨aw,ia,Ly,hn⟩;refine aC<|wq<|wm Z<|wm Z<|wy (aN qi Z)<|wL Z Z<|wm Z<|cK 3 [(0,sl io l.length iz),(3,I i),(11, .bool (decide ((i<(l.length:Int))/\(i<20))))] [] ?_ ?_
 ·refine bR 8 Z (λaq=> ?_) (λaq=> ?_)
  ·refine aB Z Z<|wm Z<|aB Z Z<|wL Z Z<|wy (aT Z Z)<|aA ?_;exact KP
  ·refine aM Z Z Z Z<|aM Z Z Z Z<|wy (aO Z Z)<|aA ?_;exact KP
 refine aA<|bA Z (λbp=> ?_) (λbp=> ?_)
 ·refine aI<|aC<|aH<|wq<|wm Z<|wm Z<|wy (dU qi uY Z Z (dr.c _) Z)<|wy (lD (off:=1) dz Z dA Z Z (dr.c _) G G) ?_;have Zp:=(Kj.at (i:=i) G G).1;refine wy (rV af Z Z (dr.c _) G G Z Z)<|wy (aN af Z)<|wy (dE Z Z)<|aA<|bA Z (λew=> ?_) (λew=> ?_)
  ·refine wq<|wn Z<|bS ?_;exact⟨_,Z,true,Z,λh=>by cases h⟩
  ·refine aI<|aL<|wm Z<|wA Z Z<|wn Z ?_
   exact⟨i+1,⟨G,G,G,(λq h1 h2=>by
     rcases bn q i with h|h
     ·exact hn q h1 h
     ·obtain rfl:q=i:=G
      omega)⟩,G,KP⟩
 ·refine aU<|wq<|wm Z<|wy (aN qi Z)<|wy (dE Z Z)<|wn Z<|bS ?_;refine⟨_,Z,?_⟩
  exact⟨decide (12<(l.length:Int)),cD,λh=>by
   have h': ¬(12<(l.length:Int)):=by simpa using h
   exact⟨G,λq h0 h1=>hn q h0 G⟩⟩
end Go.Proofs.YtdbebmmhdefgdaaGreat
namespace Go.Eng
open Go Go.RowKit Go.Pure
section
variable {P:Program} {n:Nd} {B:Nat} {w0:World}
theorem XT {σ0 σ1 σ2 σ3 σ4 σ5 σ6 σ7 σ8 σ9 σ10 σ11 σ12 σ13 σ14 σ15 σ16:Type} {c:Code} {Q:fC} {L:Env} {R:List Row} (Lx:σ0->σ1->σ2->σ3->σ4->σ5->σ6->σ7->σ8->σ9->σ10->σ11->σ12->σ13->σ14->σ15->σ16->Env) (Rx:σ0->σ1->σ2->σ3->σ4->σ5->σ6->σ7->σ8->σ9->σ10->σ11->σ12->σ13->σ14->σ15->σ16->List Row) (J:σ0->σ1->σ2->σ3->σ4->σ5->σ6->σ7->σ8->σ9->σ10->σ11->σ12->σ13->σ14->σ15->σ16->Prop) (μ:σ0->σ1->σ2->σ3->σ4->σ5->σ6->σ7->σ8->σ9->σ10->σ11->σ12->σ13->σ14->σ15->σ16->Nat)
  (h0: ∃x0 x1 x2 x3 x4 x5 x6 x7 x8 x9 xi xj xl xo Kx Ky Kz,J x0 x1 x2 x3 x4 x5 x6 x7 x8 x9 xi xj xl xo Kx Ky Kz/\Sub (Lx x0 x1 x2 x3 x4 x5 x6 x7 x8 x9 xi xj xl xo Kx Ky Kz) L/\ ∀w,Hp B w0 w R->Hp B w0 w (Rx x0 x1 x2 x3 x4 x5 x6 x7 x8 x9 xi xj xl xo Kx Ky Kz))
  (round: ∀x0 x1 x2 x3 x4 x5 x6 x7 x8 x9 xi xj xl xo Kx Ky Kz,J x0 x1 x2 x3 x4 x5 x6 x7 x8 x9 xi xj xl xo Kx Ky Kz->W P n B w0 c {Q with nrm:=λL' R'=> ∃y0 y1 y2 y3 y4 y5 y6 y7 y8 y9 s9 t6 t7 t8 Qw Qx Qy,J y0 y1 y2 y3 y4 y5 y6 y7 y8 y9 s9 t6 t7 t8 Qw Qx Qy/\μ y0 y1 y2 y3 y4 y5 y6 y7 y8 y9 s9 t6 t7 t8 Qw Qx Qy<μ x0 x1 x2 x3 x4 x5 x6 x7 x8 x9 xi xj xl xo Kx Ky Kz/\Sub (Lx y0 y1 y2 y3 y4 y5 y6 y7 y8 y9 s9 t6 t7 t8 Qw Qx Qy) L'/\ ∀w,Hp B w0 w R'->Hp B w0 w (Rx y0 y1 y2 y3 y4 y5 y6 y7 y8 y9 s9 t6 t7 t8 Qw Qx Qy)} (Lx x0 x1 x2 x3 x4 x5 x6 x7 x8 x9 xi xj xl xo Kx Ky Kz) (Rx x0 x1 x2 x3 x4 x5 x6 x7 x8 x9 xi xj xl xo Kx Ky Kz)):W P n B w0 (.loop c) Q L R:=by
 obtain⟨x0,x1,x2,x3,x4,x5,x6,x7,x8,x9,xi,xj,xl,xo,Kx,Ky,Kz,h1,h2,h3⟩:=h0;refine pM (σ:=σ0 × σ1 × σ2 × σ3 × σ4 × σ5 × σ6 × σ7 × σ8 × σ9 × σ10 × σ11 × σ12 × σ13 × σ14 × σ15 × σ16) (λp=>Lx p.1 p.2.1 p.2.2.1 p.2.2.2.1 p.2.2.2.2.1 p.2.2.2.2.2.1 p.2.2.2.2.2.2.1 p.2.2.2.2.2.2.2.1 p.2.2.2.2.2.2.2.2.1 p.2.2.2.2.2.2.2.2.2.1 p.2.2.2.2.2.2.2.2.2.2.1 p.2.2.2.2.2.2.2.2.2.2.2.1 p.2.2.2.2.2.2.2.2.2.2.2.2.1 p.2.2.2.2.2.2.2.2.2.2.2.2.2.1 p.2.2.2.2.2.2.2.2.2.2.2.2.2.2.1 p.2.2.2.2.2.2.2.2.2.2.2.2.2.2.2.1 p.2.2.2.2.2.2.2.2.2.2.2.2.2.2.2.2) (λp=>Rx p.1 p.2.1 p.2.2.1 p.2.2.2.1 p.2.2.2.2.1 p.2.2.2.2.2.1 p.2.2.2.2.2.2.1 p.2.2.2.2.2.2.2.1 p.2.2.2.2.2.2.2.2.1 p.2.2.2.2.2.2.2.2.2.1 p.2.2.2.2.2.2.2.2.2.2.1 p.2.2.2.2.2.2.2.2.2.2.2.1 p.2.2.2.2.2.2.2.2.2.2.2.2.1 p.2.2.2.2.2.2.2.2.2.2.2.2.2.1 p.2.2.2.2.2.2.2.2.2.2.2.2.2.2.1 p.2.2.2.2.2.2.2.2.2.2.2.2.2.2.2.1 p.2.2.2.2.2.2.2.2.2.2.2.2.2.2.2.2) (λp=>J p.1 p.2.1 p.2.2.1 p.2.2.2.1 p.2.2.2.2.1 p.2.2.2.2.2.1 p.2.2.2.2.2.2.1 p.2.2.2.2.2.2.2.1 p.2.2.2.2.2.2.2.2.1 p.2.2.2.2.2.2.2.2.2.1 p.2.2.2.2.2.2.2.2.2.2.1 p.2.2.2.2.2.2.2.2.2.2.2.1 p.2.2.2.2.2.2.2.2.2.2.2.2.1 p.2.2.2.2.2.2.2.2.2.2.2.2.2.1 p.2.2.2.2.2.2.2.2.2.2.2.2.2.2.1 p.2.2.2.2.2.2.2.2.2.2.2.2.2.2.2.1 p.2.2.2.2.2.2.2.2.2.2.2.2.2.2.2.2) (λp=>μ p.1 p.2.1 p.2.2.1 p.2.2.2.1 p.2.2.2.2.1 p.2.2.2.2.2.1 p.2.2.2.2.2.2.1 p.2.2.2.2.2.2.2.1 p.2.2.2.2.2.2.2.2.1 p.2.2.2.2.2.2.2.2.2.1 p.2.2.2.2.2.2.2.2.2.2.1 p.2.2.2.2.2.2.2.2.2.2.2.1 p.2.2.2.2.2.2.2.2.2.2.2.2.1 p.2.2.2.2.2.2.2.2.2.2.2.2.2.1 p.2.2.2.2.2.2.2.2.2.2.2.2.2.2.1 p.2.2.2.2.2.2.2.2.2.2.2.2.2.2.2.1 p.2.2.2.2.2.2.2.2.2.2.2.2.2.2.2.2) ⟨(x0,x1,x2,x3,x4,x5,x6,x7,x8,x9,xi,xj,xl,xo,Kx,Ky,Kz),h1,h2,h3⟩ λp hp=>iG (round p.1 p.2.1 p.2.2.1 p.2.2.2.1 p.2.2.2.2.1 p.2.2.2.2.2.1 p.2.2.2.2.2.2.1 p.2.2.2.2.2.2.2.1 p.2.2.2.2.2.2.2.2.1 p.2.2.2.2.2.2.2.2.2.1 p.2.2.2.2.2.2.2.2.2.2.1 p.2.2.2.2.2.2.2.2.2.2.2.1 p.2.2.2.2.2.2.2.2.2.2.2.2.1 p.2.2.2.2.2.2.2.2.2.2.2.2.2.1 p.2.2.2.2.2.2.2.2.2.2.2.2.2.2.1 p.2.2.2.2.2.2.2.2.2.2.2.2.2.2.2.1 p.2.2.2.2.2.2.2.2.2.2.2.2.2.2.2.2 hp) ?_ (λ_ _ h=>h) (λ_ _ _ h=>h);rintro L' R' ⟨y0,y1,y2,y3,y4,y5,y6,y7,y8,y9,s9,t6,t7,t8,Qw,Qx,Qy,g1,g2,g3,g4⟩;exact⟨(y0,y1,y2,y3,y4,y5,y6,y7,y8,y9,s9,t6,t7,t8,Qw,Qx,Qy),⟨g1,g2⟩,g3,g4⟩
end
end Go.Eng
namespace Go.Eng
open Go Go.RowKit
section
variable {P:Program} {n:Nd} {B:Nat} {w0:World} {ops:Array Oper} {K:Env->List Row->Prop} {L:Env} {R R1:List Row}
end
end Go.Eng
namespace Go.Proofs.YtdbebmmhdefgdaaGreat
open Go Go.Eng Go.Pure
open Tryz
set_option maxRecDepth 100000
theorem aLf {B:Nat} {w0:World} {R:List Row} {g:Nat} {At Ap:AF} {nt ct np cp:Nat} {s d:AH} {l:AE} {was:AD} {dd:AH} {Ad:AF} {nd cd:Nat} {K N k so od sz:Int} (kt:nt=s.length) (km:np=l.length) (hC:Cp l was dd s) (cg:aP s) (hN:s.length<=40000) (Kn:K=2\/K=4\/K=6->s.length<=120) (hl:l.length<=100) (hd:RdC B w0 R Ad nd cd 1 (ints .u8 d)) (hnd:nd=d.length) (bd:aP d) (hD:d.length<=40000):
  CT 30 #[PG g, .agg #[I K,sl Ad nd cd,I N,I k,I so,I od,I sz]] B w0 (DK g At nt ct Ap np cp s l R) (λv R'=> ∃(e:Int) (A8:AF) (c8:Nat) (s':AH) (A7:AF) (c7:Nat) (l':AE) (vu:AD) (i7:AH),v=I e/\R'=DK g A8 s'.length c8 A7 l'.length c7 s' l' R/\Cp l' vu i7 s'/\aP s'/\s'.length<=40000/\l'.length<=l.length+1/\DStep K N k so od sz d s was dd e s' vu i7):=by
 subst kt;subst km;have stay: ∀(e:Int) (v:Value) (R':List Row),v=I e->R'=DK g At s.length ct Ap l.length cp s l R->DStep K N k so od sz d s was dd e s was dd-> ∃(e:Int) (A8:AF) (c8:Nat) (s':AH) (A7:AF) (c7:Nat) (l':AE) (vu:AD) (i7:AH),v=I e/\R'=DK g A8 s'.length c8 A7 l'.length c7 s' l' R/\Cp l' vu i7 s'/\aP s'/\s'.length<=40000/\l'.length<=l.length+1/\DStep K N k so od sz d s was dd e s' vu i7:=λe v R' h1 h2 h3=>⟨e,At,ct,s,Ap,cp,l,was,dd,h1,h2,hC,cg,hN,G,h3⟩;have hc:(K<1\/7<K)\/K=1\/K=2\/K=3\/K=4\/K=5\/K=6\/K=7:=G
 rcases hc with h|rfl|rfl|rfl|rfl|rfl|rfl|rfl
 ·exact(aHc rfl rfl h).mono λv R' ⟨a,b⟩=>stay 1 v R' a b (.other h)
 ·refine (aYi rfl rfl hd hnd G).mono ?_;rintro v R' ⟨A8,c8,rfl,rfl⟩;exact⟨0,A8,c8,d,none,0,[],[],[],Z,Z, .nil,bd,hD,cD, .set rfl⟩
 ·have hS:=Kn cC;by_cases n1:N=1
  ·subst n1;refine(aHb Z Z cg G G).mono ?_;rintro v R' ⟨b,hb,A8,c8,A7,c7,rfl,rfl⟩;have e:ofL s b=(gB 1 s).2:=by rw[vO hb.1 hb.2]
   exact⟨0,A8,c8,ofL s b,A7,c7,_,was++[s],dd++[1],Z,Z,hC.add cg hS (.inl ⟨Z,vN cg hb.1 hb.2⟩),uL cg hb.1,by rw[(wH hb.1 hb.2).length_eq];omega,by rw[ah];exact di _,e▸ .turn rfl (.inl rfl)⟩
  by_cases n2:N=2
  ·subst n2;refine(aHa Z Z cg G G).mono ?_;rintro v R' ⟨T,hT,A8,c8,A7,c7,rfl,rfl⟩;have e:T.map (lastB (bws s))=(gB 2 s).2:=by rw[vP hT.1 hT.2]
   exact⟨0,A8,c8,T.map (lastB (bws s)),A7,c7,_,was++[s],dd++[1],Z,by rw[cu],hC.add cg hS (.inr (.inl ⟨rfl,TW cg hT.1 hT.2⟩)),kJ hT.1 (by rw[lL];exact cg),by rw[cu,yI hT.1];omega,by rw[ah];exact di _,e▸ .turn rfl (.inr rfl)⟩
  exact(aCn Z Z ⟨n1,n2⟩).mono λv R' ⟨a,b⟩=>stay 1 v R' a b (.turnN Z ⟨n1,n2⟩)
 ·rcases hC.inv with⟨rfl,rfl,rfl⟩|⟨l0,was0,dd0,K',at_,s0,rfl,rfl,rfl,h1,h2,h3,h4⟩
  ·exact(aCp (s:=s)).mono λv R' ⟨a,b⟩=>stay 6 v R' a b (.undoN cC (.inl rfl))
  have wj:l0.length<=1000:=by rw[ah] at hl;omega
  rcases h4 with⟨rfl,ok,hb⟩|⟨rfl,hb⟩|⟨rfl,hb⟩|⟨rfl,k',so',od',Wh,hs,hk,hp⟩
  ·refine (aYo (s0:=s0) (l:=l0) rfl rfl wj cg G ok hb).mono ?_;rintro v R' ⟨A8,c8,rfl,rfl⟩;exact⟨0,A8,c8,s0,Ap,cp,l0,was0,dd0,Z,Z,h1,h2,G,by rw[ah];omega, .undo (by unfold UK kdD;decide) rfl rfl⟩
  ·refine (aYn (s0:=s0) (l:=l0) rfl rfl wj cg G hb).mono ?_;rintro v R' ⟨A8,c8,rfl,rfl⟩;exact⟨0,A8,c8,s0,Ap,cp,l0,was0,dd0,Z,Z,h1,h2,G,by rw[ah];omega, .undo (by unfold UK kdD;decide) rfl rfl⟩
  ·exact(aCo rfl rfl wj cC).mono λv R' ⟨a,b⟩=>stay 6 v R' a b (.undoN cC (.inr ⟨_,_,rfl,by unfold UK kdD;decide⟩))
  ·exact(aCo rfl rfl wj cC).mono λv R' ⟨a,b⟩=>stay 6 v R' a b (.undoN cC (.inr ⟨_,_,rfl,by unfold UK kdD;decide⟩))
 ·have hS:=Kn cC;refine(aHd Z Z cg G G).mono ?_;rintro v R' ⟨A8,c8,A7,c7,rfl,rfl⟩;exact⟨0,A8,c8,bG aV s,A7,c7,_,was++[s],dd++[2],Z,Z,hC.add cg hS (.inr (.inr (.inl ⟨Z,qL cg⟩))),lW cg,by rw[fV];omega,by rw[ah];exact di _, .front rfl⟩
 ·rcases hC.inv with⟨rfl,rfl,rfl⟩|⟨l0,was0,dd0,K',at_,s0,rfl,rfl,rfl,h1,h2,h3,h4⟩
  ·exact(aYl (s:=s)).mono λv R' ⟨a,b⟩=>stay 6 v R' a b (.undoN cC (.inl rfl))
  have wj:l0.length<=1000:=by rw[ah] at hl;omega
  rcases h4 with⟨rfl,ok,hb⟩|⟨rfl,hb⟩|⟨rfl,hb⟩|⟨rfl,k',so',od',Wh,hs,hk,hp⟩
  ·exact(NW rfl rfl wj cC).mono λv R' ⟨a,b⟩=>stay 6 v R' a b (.undoN cC (.inr ⟨_,_,rfl,by unfold UK kdD;decide⟩))
  ·exact(NW rfl rfl wj cC).mono λv R' ⟨a,b⟩=>stay 6 v R' a b (.undoN cC (.inr ⟨_,_,rfl,by unfold UK kdD;decide⟩))
  ·refine (aYm (s0:=s0) (l:=l0) rfl rfl wj cg G hb).mono ?_;rintro v R' ⟨A8,c8,rfl,rfl⟩;exact⟨0,A8,c8,s0,Ap,cp,l0,was0,dd0,Z,Z,h1,h2,G,by rw[ah];omega, .undo (by unfold UK kdD;decide) rfl rfl⟩
  ·exact(NW rfl rfl wj cC).mono λv R' ⟨a,b⟩=>stay 6 v R' a b (.undoN cC (.inr ⟨_,_,rfl,by unfold UK kdD;decide⟩))
 ·have hS:=Kn cC;by_cases k3:k=3
  ·subst k3;exact(aHf Z Z).mono λv R' ⟨a,b⟩=>stay 1 v R' a b (.boxN Z (.inl Z))
  by_cases mn:((0<=k/\k<=3)/\(0<=so/\so<=2)/\(od=0\/od=1)/\(1<=sz/\sz<=16777216))
  ·have hk:k=0\/k=1\/k=2:=G
   refine(aHe Z Z cg hS G mn.2 hk).mono ?_;rintro v R' ⟨A8,c8,A7,c7,rfl,rfl⟩;exact⟨0,A8,c8,jZ k so od sz s,A7,c7,_,was++[s],dd++[3],Z,Z,hC.add cg hS (.inr (.inr (.inr ⟨Z,k,so,od,sz,Z,hk,mn.2⟩))),(NQ cg G G G G G).1,zV cg hS G,by rw[ah];exact di _, .box rfl hk mn.2⟩
  exact(aHg Z Z k3 mn).mono λv R' ⟨a,b⟩=>stay 1 v R' a b (.boxN Z (.inr mn))
 ·rcases hC.inv with⟨rfl,rfl,rfl⟩|⟨l0,was0,dd0,K',at_,s0,rfl,rfl,rfl,h1,h2,h3,h4⟩
  ·exact(aYj (s:=s)).mono λv R' ⟨a,b⟩=>stay 6 v R' a b (.undoN cC (.inl rfl))
  have wj:l0.length<=1000:=by rw[ah] at hl;omega
  rcases h4 with⟨rfl,ok,hb⟩|⟨rfl,hb⟩|⟨rfl,hb⟩|⟨rfl,k',so',od',Wh,hs,hk,hp⟩
  ·exact(NV rfl rfl wj cC).mono λv R' ⟨a,b⟩=>stay 6 v R' a b (.undoN cC (.inr ⟨_,_,rfl,by unfold UK kdD;decide⟩))
  ·exact(NV rfl rfl wj cC).mono λv R' ⟨a,b⟩=>stay 6 v R' a b (.undoN cC (.inr ⟨_,_,rfl,by unfold UK kdD;decide⟩))
  ·exact(NV rfl rfl wj cC).mono λv R' ⟨a,b⟩=>stay 6 v R' a b (.undoN cC (.inr ⟨_,_,rfl,by unfold UK kdD;decide⟩))
  ·refine (aYk (s0:=s0) (l:=l0) rfl rfl wj cg G hs h2 G hk hp).mono ?_;rintro v R' ⟨A8,c8,rfl,rfl⟩;exact⟨0,A8,c8,s0,Ap,cp,l0,was0,dd0,Z,Z,h1,h2,G,by rw[ah];omega, .undo (by unfold UK kdD;decide) rfl rfl⟩
theorem playDoes_ct {w:World} {io:AF} {mt iz:Nat} {l:List OpR} (dr:Rd w io mt iz 7 (vB l)) (Kj:XL w l):
  CF 10 #[sl io mt iz] w (λv R'=>v=bt):=by
 obtain rfl:mt=l.length:=by have:=dr.len;rw[qV] at this;omega
 refine fn1 Tryz.func10 Z Z Z ?_;refine wq<|wn Z<|aC<|wq<|wm Z<|wa (aD bRi Z (Ct.quiet (λw hw=>aOr ((dr.c _) w hw) (Kj.c hw)))) ?_;rintro _ _⟨rfl,b1,rfl,xt⟩;refine aA<|bA Z (λaq=> ?_) (λaq=> ?_)
 ·refine wq<|wn Z<|bN (R1:=[]) (λ_ h=>(h.selR (F:=[]) (F':=[]) [] cC Z).left (X:=[])) ?_;refine⟨_,Z,?_⟩;rfl
 ·have Td:=xt (by cases b1 with|false=>rfl|true=>exact absurd rfl aq);refine aI<|wq<|wa (aD bJo Z (Ct.fresh (λw hw=>MU))) ?_;rintro _ _⟨_,rfl,am,rfl,rfl⟩;refine wy (dW (v:= .agg #[sl none 0 0,sl none 0 0,sl none 0 0]) Z (λw=>cA))<|wa (bO (sz:=3) rfl rfl) ?_;rintro _ _⟨bx,rfl,rfl⟩;refine dB (R1:=((rc 54 3 bx [sl none 0 0,sl none 0 0,sl none 0 0])::⟨22,1,none,0,0,[],false⟩::(ri 3 none 0 0 ([]))::(rc 102 2 am [sl none 0 0,sl none 0 0])::(ru 5 none 0 0 ([]))::⟨106,2,none,0,0,prs ([]),false⟩::[])) (Sub.refl _) (λ_ h=>((h.nil 3 1).nil 22 1).sel [2,0,1,3,4,5] cC Z)<|wg Z<|wn Z<|aC<|wq<|wn Z<|aH ?_;refine XT (λ(i:Int) (At:AF) (ct:Nat) (s:AH) (Ap:AF) (cp:Nat) (lx:AE) (As:AF) (cs:Nat) (Aw:AF) (cw:Nat) (vv:AG) (Ad:AF) (cd:Nat) (dd:AH) (was:AD) (Rs:List Row)=>[(0,sl io l.length iz),(3,PG am),(4,PG bx),(5,I i)]) (λi At ct s Ap cp lx As cs Aw cw vv Ad cd dd was Rs=>((rc 54 3 bx [sl As s.length cs,sl Aw vv.length cw,sl Ad dd.length cd])::⟨22,1,Aw,vv.length,cw,vv,false⟩::(ri 3 Ad dd.length cd dd)::(DK am At s.length ct Ap lx.length cp s lx Rs))) (λi At ct s Ap cp lx As cs Aw cw vv Ad cd dd was Rs=>(0<=i)/\(i<=l.length)/\(Cp lx was dd s)/\(aP s)/\(s.length<=40000)/\((lx.length:Int)<=i)/\(RdT Rs As s.length cs s)/\(SlR .u8 Rs vv was)) (λi At ct s Ap cp lx As cs Aw cw vv Ad cd dd was Rs=>(l.length-i).toNat) ?_ ?_
  ·exact⟨0,none,0,[],none,0,[],none,0,none,0,[],none,0,[],[],[],⟨G,G,(Cp.nil),(aP.nil),cC,cC,(RdT.none _),(SlR.nilR _ _)⟩,KP⟩
  intro i At ct s Ap cp lx As cs Aw cw vv Ad cd dd was Rs ⟨aw,ia,hC,w4,pf,un,hT,hW⟩;refine aC<|wq<|wm Z<|wy (xK lu Z Z)<|wm Z<|aB Z Z<|wm Z<|aB Z Z<|wm Z<|aB Z Z<|wy (aN qi Z)<|aB Z Z<|wL Z Z<|wy (aT Z Z) ?_;refine aA<|bA Z (λbp=> ?_) (λbp=> ?_)
  ·refine aI<|aC<|aH<|aC<|wq<|wm Z<|wy (aF Z)<|wy (yF 0 0 lc dA Z)<|wy (yL 0 af Z Z Z)<|wy (aN af Z)<|wy (dE Z Z)<|wm Z<|cK 7 [(0,sl io l.length iz),(3,PG am),(4,PG bx),(5,I i),(34, .bool (decide ((120<(s.length:Int))/\(((rdO l i).K)≠1))))] ((rc 54 3 bx [sl As s.length cs,sl Aw vv.length cw,sl Ad dd.length cd])::⟨22,1,Aw,vv.length,cw,vv,false⟩::(ri 3 Ad dd.length cd dd)::(DK am At s.length ct Ap lx.length cp s lx Rs)) ?_ ?_
   ·refine bR 27 Z (λew=> ?_) (λew=> ?_)
    ·refine aB Z Z<|wm Z<|aB Z Z<|wm Z<|aB Z Z<|wy (dU qi uY Z Z (dr.c _) Z)<|aB Z Z<|wy (lD (off:=0) dz Z sz3 Z Z (dr.c _) G G)<|aB Z Z<|wy (rV ai Z Z (dr.c _) G G Z Z)<|aB Z Z<|wy (fE Z Z)<|wy (aT Z Z)<|aA ?_;exact KP
    ·refine aM Z Z Z Z<|aM Z Z Z Z<|aM Z Z Z Z<|aM Z Z Z Z<|aM Z Z Z Z<|aM Z Z Z Z<|wy (aO Z Z)<|aA ?_;exact KP
   refine wm Z<|cK 7 [(0,sl io l.length iz),(3,PG am),(4,PG bx),(5,I i),(42, .bool (decide (((120<(s.length:Int))/\(((rdO l i).K)≠1))/\(((rdO l i).K)≠3))))] ((rc 54 3 bx [sl As s.length cs,sl Aw vv.length cw,sl Ad dd.length cd])::⟨22,1,Aw,vv.length,cw,vv,false⟩::(ri 3 Ad dd.length cd dd)::(DK am At s.length ct Ap lx.length cp s lx Rs)) ?_ ?_
   ·refine bR 35 Z (λkd=> ?_) (λkd=> ?_)
    ·refine aB Z Z<|wm Z<|aB Z Z<|wm Z<|aB Z Z<|wy (dU qi uY Z Z (dr.c _) Z)<|aB Z Z<|wy (lD (off:=0) dz Z sz3 Z Z (dr.c _) G G)<|aB Z Z<|wy (rV ai Z Z (dr.c _) G G Z Z)<|aB Z Z<|wy (fE Z Z)<|wy (aT Z Z)<|aA ?_;exact KP
    ·refine aM Z Z Z Z<|aM Z Z Z Z<|aM Z Z Z Z<|aM Z Z Z Z<|aM Z Z Z Z<|aM Z Z Z Z<|wy (aO Z Z)<|aA ?_;exact KP
   refine wm Z<|cK 7 [(0,sl io l.length iz),(3,PG am),(4,PG bx),(5,I i),(50, .bool (decide ((((120<(s.length:Int))/\(((rdO l i).K)≠1))/\(((rdO l i).K)≠3))/\(((rdO l i).K)≠5))))] ((rc 54 3 bx [sl As s.length cs,sl Aw vv.length cw,sl Ad dd.length cd])::⟨22,1,Aw,vv.length,cw,vv,false⟩::(ri 3 Ad dd.length cd dd)::(DK am At s.length ct Ap lx.length cp s lx Rs)) ?_ ?_
   ·refine bR 43 Z (λme=> ?_) (λme=> ?_)
    ·refine aB Z Z<|wm Z<|aB Z Z<|wm Z<|aB Z Z<|wy (dU qi uY Z Z (dr.c _) Z)<|aB Z Z<|wy (lD (off:=0) dz Z sz3 Z Z (dr.c _) G G)<|aB Z Z<|wy (rV ai Z Z (dr.c _) G G Z Z)<|aB Z Z<|wy (fE Z Z)<|wy (aT Z Z)<|aA ?_;exact KP
    ·refine aM Z Z Z Z<|aM Z Z Z Z<|aM Z Z Z Z<|aM Z Z Z Z<|aM Z Z Z Z<|aM Z Z Z Z<|wy (aO Z Z)<|aA ?_;exact KP
   refine wm Z<|cK 7 [(0,sl io l.length iz),(3,PG am),(4,PG bx),(5,I i),(58, .bool (decide (((((120<(s.length:Int))/\(((rdO l i).K)≠1))/\(((rdO l i).K)≠3))/\(((rdO l i).K)≠5))/\(((rdO l i).K)≠7))))] ((rc 54 3 bx [sl As s.length cs,sl Aw vv.length cw,sl Ad dd.length cd])::⟨22,1,Aw,vv.length,cw,vv,false⟩::(ri 3 Ad dd.length cd dd)::(DK am At s.length ct Ap lx.length cp s lx Rs)) ?_ ?_
   ·refine bR 51 Z (λvq=> ?_) (λvq=> ?_)
    ·refine aB Z Z<|wm Z<|aB Z Z<|wm Z<|aB Z Z<|wy (dU qi uY Z Z (dr.c _) Z)<|aB Z Z<|wy (lD (off:=0) dz Z sz3 Z Z (dr.c _) G G)<|aB Z Z<|wy (rV ai Z Z (dr.c _) G G Z Z)<|aB Z Z<|wy (fE Z Z)<|wy (aT Z Z)<|aA ?_;exact KP
    ·refine aM Z Z Z Z<|aM Z Z Z Z<|aM Z Z Z Z<|aM Z Z Z Z<|aM Z Z Z Z<|aM Z Z Z Z<|wy (aO Z Z)<|aA ?_;exact KP
   refine aA<|bA Z (λr7=> ?_) (λr7=> ?_)
   ·refine aU<|aL<|wm Z<|wA Z Z<|wn Z ?_;exact⟨i+1,At,ct,s,Ap,cp,lx,As,cs,Aw,cw,vv,Ad,cd,dd,was,Rs,⟨G,G,G,G,G,G,G,G⟩,G,KP⟩
   ·refine aI<|aC<|aEj (λi=>[9,10].contains i) (λ_:Unit=>[]) (λ_ h=>Hp.nilx h) mixed<|jO 0 Z cA Z Z (aK Z)<|jO 1 Z cA Z Z (aK Z)<|jO 2 Z cA Z Z (aK Z)<|jO 3 Z cA Z Z (dU qi uY Z Z (dr.c _) Z) ?_;have se:=(Kj.at (i:=i) G G).1;refine jO 4 Z cA Z Z (aIu dz Z uY Z (dr.c _) G G)<|jO 6 Z cA Z Z (aK Z)<|jO 7 Z cA Z Z (aK Z)<|jO 8 Z cA Z Z (aK Z)<|XQ 9 Z cA Z Z (λ_=>dU qi uY Z Z (dr.c _) Z G G) ?_;have k8:=(Kj.at (i:=i) G G).1;refine XQ 10 Z cA Z Z (λ_=>aIu dz Z uY Z (dr.c _) G G)<|bAn 5 Z cA (au cA) Z (aD bJn Z (Ct.pick [3,4,5,0,1,2] 6 cC Z (aLf (was:=was) (dd:=dd) Z Z hC w4 pf (λh=>G) G (se.c _) rfl (Kj.at (i:=i) aw G).2 (by have:=Td.2 i aw G;omega)))) ?_;rintro _ _⟨e1,ef,kc,s1,fc,dv,l1,Px,wx,rfl,rfl,Xd,Do,Zb,zj,Xp⟩;have Ye:=Xd.len;refine⟨.inl cA,λ_ h=>Hp.nilx h,?_⟩;refine oM (R1:=((rc 102 2 am [sl ef s1.length kc,sl fc l1.length dv])::(ru 5 ef s1.length kc s1)::⟨106,2,fc,l1.length,dv,prs l1,false⟩::(DX bx As s.length cs Aw vv.length cw vv Ad dd.length cd dd Rs))) Z<|bAn 11 Z cA (au cA) Z (aD bMg Z (Ct.pick [3,4,5,0,1,2] 6 cC Z (SE (X:=[(rc 102 2 am [sl ef s1.length kc,sl fc l1.length dv]),(ru 5 ef s1.length kc s1),⟨106,2,fc,l1.length,dv,prs l1,false⟩]) (T:=Rs) Z Z Z hT hW (by have:=hC.len;omega) Xp w4 (λh=>G) (by have:=hC.len;omega) (k8.c _) rfl (by have:=Td.2 i aw G;omega)))) ?_;rintro _ _⟨Mr,eh,bo,kl,ci,xf,im,ir,rfl,rfl,Sc,d8⟩;refine⟨.inl cA,λ_ h=>Hp.nilx h,?_⟩;refine oM (R1:=((rc 54 3 bx [sl eh s1.length bo,sl kl xf.length ci,sl im wx.length ir])::⟨22,1,kl,xf.length,ci,xf,false⟩::(ri 3 im wx.length ir wx)::(rc 102 2 am [sl ef s1.length kc,sl fc l1.length dv])::(ru 5 ef s1.length kc s1)::⟨106,2,fc,l1.length,dv,prs l1,false⟩::(Mr++Rs))) Z<|jO 12 Z cA Z Z (Yl.f (fE Z Z) (λh=>h Z))<|jO 13 Z cA Z Z (aK Z)<|mQ 14 Z cA Z Z Z Z (aK Z)<|mQ 17 Z cA Z Z Z Z (aK Z)<|mQ 18 Z cA Z Z Z Z (aF Z)<|mQ 19 Z cA Z Z Z Z (yF 0 0 lc dA Z)<|mQ 20 Z cA Z Z Z Z (yL 0 af Z Z Z)<|mQ 21 Z cA Z Z Z Z (tT af ay Db Z (λ_ h=>Sc _ _ _ (h.right (R':=[_,_,_,_,_,_]))))<|aIw 15 Z cA (au cA) Z Z Z (aD bJm Z (Ct.pick [3,4,5,0,1,2] 6 cC Z (ET Z Z G))) ?_;rintro _ _⟨fh,rx,rfl,rfl⟩;refine⟨.inr λ_ h=>h.pickT [4,5,6,1,2,3] 7 cC Z,λ_ h=>Hp.nilx h,?_⟩;refine oM (R1:=((ru 5 fh s1.length rx s1)::(rc 102 2 am [sl ef s1.length kc,sl fc l1.length dv])::(ru 5 ef s1.length kc s1)::⟨106,2,fc,l1.length,dv,prs l1,false⟩::(rc 54 3 bx [sl eh s1.length bo,sl kl xf.length ci,sl im wx.length ir])::⟨22,1,kl,xf.length,ci,xf,false⟩::(ri 3 im wx.length ir wx)::(Mr++Rs))) Z<|mQ 16 Z cA Z Z Z Z (tT af ay Db Z (rdr 0 Z))<|mQ 22 Z cA Z Z Z Z (Yl.f (aRr Z Z Do Do) (λh=>h Z))<|jO 23 Z cA Z Z (aO Z Z)<|jO 24 Z cA Z Z (aK Z)<|mQ 25 Z cA Z Z Z Z (aK Z)<|mQ 27 Z cA Z Z Z Z (aK Z)<|aIw 26 Z cA (au cA) Z Z Z (aD bLy Z (Ct.pick [1,2,3,0,4,5,6] 7 cC Z (NY Z Z))) ?_;rintro _ _⟨rfl,rfl⟩;refine⟨.inr λ_ h=>h.pickT [3,0,1,2,4,5,6] 7 cC Z,λ_ h=>Hp.nilx h,?_⟩;refine oM (R1:=((rc 102 2 am [sl ef s1.length kc,sl fc l1.length dv])::(ru 5 ef s1.length kc s1)::⟨106,2,fc,l1.length,dv,prs l1,false⟩::(ru 5 fh s1.length rx s1)::(rc 54 3 bx [sl eh s1.length bo,sl kl xf.length ci,sl im wx.length ir])::⟨22,1,kl,xf.length,ci,xf,false⟩::(ri 3 im wx.length ir wx)::(Mr++Rs))) Z<|aIw 28 Z cA (au cA) Z Z Z (aD bRh Z (Ct.pick [4,5,6,0,1,2,3] 7 cC Z (ZT Z Z Z))) ?_;rintro _ _⟨rfl,rfl⟩;refine⟨.inr λ_ h=>h.pickT [3,4,5,6,0,1,2] 7 cC Z,λ_ h=>Hp.nilx h,?_⟩;refine oM (R1:=((rc 54 3 bx [sl eh s1.length bo,sl kl xf.length ci,sl im wx.length ir])::⟨22,1,kl,xf.length,ci,xf,false⟩::(ri 3 im wx.length ir wx)::(rc 102 2 am [sl ef s1.length kc,sl fc l1.length dv])::(ru 5 ef s1.length kc s1)::⟨106,2,fc,l1.length,dv,prs l1,false⟩::(ru 5 fh s1.length rx s1)::(Mr++Rs))) Z<|mQ 29 Z cA Z Z Z Z (Yl.f (fE Z Z) (λh=>h G))<|jO 30 Z cA Z Z (aO Z Z)<|aEg cA<|aJ Z<|aI<|aL<|wm Z<|wA Z Z<|wn Z ?_;exact⟨i+1,ef,kc,s1,fc,dv,l1,eh,bo,kl,ci,xf,im,ir,wx,Px,(Mr++Rs),⟨G,G,G,G,G,G,G,G⟩,G,SA,λ_ h=>h.selR (F:=[_,_,_,_,_,_,_]) (F':=[_,_,_,_,_,_]) [0,1,2,3,4,5] cC Z⟩
  ·refine aU<|wq<|wm Z<|wy (xK lu Z Z)<|wm Z<|aB Z Z<|wa (aD bRg Z (Ct.quiet (λw hw=>aGj))) ?_;rintro _ _⟨rfl,rfl⟩;refine wy (aT Z Z)<|wn Z<|bN (R1:=[]) (λ_ h=>(h.selR (F:=[_,_,_,_,_,_]) (F':=[]) [] cC Z).left (X:=[])) ?_;refine⟨_,Z,?_⟩;rfl
end Go.Proofs.YtdbebmmhdefgdaaGreat
namespace Go.Eng
open Go Go.ChangeShapes Go.WideShapes Go.RowKit
section
variable {H:Type} {enc:TypeId × Value->H} {P:Program} {w:World} {base:Nat} {spare:Nat->Bool} {held:Bool}
theorem bAr {t t0 t1 t3:TypeId} {cs:AG} {c0 c1 c2 c3 c4 c5 c6:Value} {x:DataW H × List MemPlace} {al:Nat} {f0 f1 f2 f3 g0 g1 g2 g3:Field} (hs:P.underlying t=some (.struct #[f0,f1,f2,f3])) (hg:P.underlying t3=some (.struct #[g0,g1,g2,g3]))
  (h0:f0.type=t0/\f1.type=t1/\f2.type=t0/\f3.type=t3/\f0.offset=0/\f1.offset=1/\f2.offset=2/\f3.offset=3) (h1:g0.type=t0/\g1.type=t0/\g2.type=t0/\g3.type=t0/\g0.offset=0/\g1.offset=1/\g2.offset=2/\g3.offset=3)
  (z0:P.cellsOf t0=1) (z1:P.cellsOf t1=1) (z3:P.cellsOf t3=4) (hi:P.underlying t0=some (.int .i64)) (hf:DataW.trod enc P w base spare held al t [c0,c1,c2,c3,c4,c5,c6]=some x):
  ∃(K N p0 p1 p2 p3:Int) (n:Nat) (y:DataW H × List MemPlace),c0= .int .i64 K/\c2= .int .i64 N/\c3= .int .i64 p0/\c4= .int .i64 p1/\c5= .int .i64 p2/\c6= .int .i64 p3/\DataW.trod enc P w base spare held n t1 [c1]=some y:=by
 obtain⟨y0,y1,y2,y3,n,_,_,k0,k1,k2,k3⟩:=Go.Joins.trod_struct4 hs hf;obtain⟨a0,a1,a2,a3,b0,b1,b2,b3⟩:=h0;rw[a0,b0,z0] at k0;rw[a1,b1,z1] at k1;rw[a2,b2,z0] at k2;rw[a3,b3,z3] at k3;simp only[Di,Cb,Fp,yc] at k0 k1 k2 k3;obtain⟨u0,u1,u2,u3,m,_,_,j0,j1,j2,j3⟩:=Go.Joins.trod_struct4 hg k3;obtain⟨a0,a1,a2,a3,b0,b1,b2,b3⟩:=h1;rw[a0,b0,z0] at j0;rw[a1,b1,z0] at j1;rw[a2,b2,z0] at j2;rw[a3,b3,z0] at j3;simp only[Di,Cb,Fp,yc] at j0 j1 j2 j3;obtain⟨K,e0,_⟩:=Bl hi k0;obtain⟨N,e2,_⟩:=Bl hi k2;obtain⟨p0,d0,_⟩:=Bl hi j0;obtain⟨p1,d1,_⟩:=Bl hi j1;obtain⟨p2,d2,_⟩:=Bl hi j2;obtain⟨p3,d3,_⟩:=Bl hi j3;simp only[Jk,Au] at e0 e2 d0 d1 d2 d3;exact⟨K,N,p0,p1,p2,p3,n,y1,e0,e2,d0,d1,d2,d3,k1⟩
end
end Go.Eng
namespace Go.Eng
open Go Go.ChangeShapes Go.WideShapes Go.RowKit Go.Pure
theorem aOe {l:List OpR} {j:Nat} {v:Value} (hj:j<l.length*7) (h:(vB l)[j]? =some v):(aCd (rdO l ((j/7:Nat):Int)))[j%7]? =some v:=by
 have h1:j/7<l.length:=G
 rw[<-VU (l:=l) (i:=((j/7:Nat):Int)) G G,ow G,qm];rw[show((j/7:Nat):Int).toNat*7+j%7=j by omega];exact h
theorem bLg {α:Type} {cs:List α} (h:cs.length=7): ∃c0 c1 c2 c3 c4 c5 c6,cs=[c0,c1,c2,c3,c4,c5,c6]:=by
 match cs,h with
 |[c0,c1,c2,c3,c4,c5,c6],_=>exact⟨c0,c1,c2,c3,c4,c5,c6,rfl⟩
section
variable {H:Type} {enc:TypeId × Value->H} {P:Program} {w:World} {base:Nat} {held:Bool}
theorem ops_open {t e t0 t1 t3 tb:TypeId} {cs:AG} {x:DataW H × List MemPlace} {al:Nat} {f0 f1 f2 f3 g0 g1 g2 g3:Field} (ht:P.underlying t=some (.slice e)) (hs:P.underlying e=some (.struct #[f0,f1,f2,f3])) (hg:P.underlying t3=some (.struct #[g0,g1,g2,g3]))
  (h0:f0.type=t0/\f1.type=t1/\f2.type=t0/\f3.type=t3/\f0.offset=0/\f1.offset=1/\f2.offset=2/\f3.offset=3) (h1:g0.type=t0/\g1.type=t0/\g2.type=t0/\g3.type=t0/\g0.offset=0/\g1.offset=1/\g2.offset=2/\g3.offset=3)
  (hc:P.cellsOf e=7) (z0:P.cellsOf t0=1) (z1:P.cellsOf t1=1) (z3:P.cellsOf t3=4) (zb:P.cellsOf tb=1) (hi:P.underlying t0=some (.int .i64)) (hd:P.underlying t1=some (.slice tb)) (hu:P.underlying tb=some (.int .u8)) (hf:DataW.trod enc P w base (λ_=>true) held al t cs=some x):
  ∃(a:AF) (cap:Nat) (l:List OpR),cs=[.slice a l.length cap]/\Rd w a l.length cap 7 (vB l)/\XL w l:=by
 rcases Go.Deep.open_slice ht hf with⟨lf,_⟩|⟨a,len,cap,m,n,D,Pl,lf,_,hl,hm,hmm,_,ud⟩
 ·exact⟨none,0,[],lf,⟨rfl,cC,di _,λj v hv=>by simp[vB] at hv⟩,λo ho=>by cases ho⟩
 simp only[Fz] at hmm;have Yz:=hmm.symm;subst Yz
 have each: ∀i,i<len-> ∃o:OpR,(∀q v,(aCd o)[q]? =some v->w.cell? (a.add (i*7+q))=some v)/\Rd w o.A o.d.length o.c 1 (ints .u8 o.d)/\aP o.d:=by
  intro i Yq;obtain⟨cs',rp,htr⟩:=ud i G;rw[hc] at rp;obtain⟨_,hlen,hq⟩:=World.cells?_some rp;obtain⟨c0,c1,c2,c3,c4,c5,c6,rfl⟩:=bLg hlen;obtain⟨K,N,p0,p1,p2,p3,k,y,rfl,rfl,rfl,rfl,rfl,rfl,hy⟩:=bAr (cs:=[]) hs hg h0 h1 z0 z1 z3 hi htr
  obtain⟨A,c,d,hA,hr,hb⟩: ∃(A:AF) (c:Nat) (d:AH),c1= .slice A d.length c/\Rd w A d.length c 1 (ints .u8 d)/\ ∀x∈d,(Lit.int .u8 x).wf=true:=by
   rcases open_ints hd hu zb hy with⟨lf,_⟩|⟨x,l,c,zs,lf,_,hl,hm,hz,_,rp,hwz⟩
   ·simp only[Jk,Au] at lf;exact⟨none,0,[],lf,bBy _,λ_ h=>by cases h⟩
   ·simp only[Jk,Au] at lf;obtain⟨r,hr,r1,r2⟩:=bBx hl hm (by simpa using hz) rp hwz;exact⟨some x,c,r,by rw[lf,hr],r1,r2⟩
  subst hA;refine⟨⟨K,A,c,d,N,p0,p1,p2,p3⟩,λq v hv=> ?_,hr,xD hb⟩;have hq7:q<7:=(dw.1 hv).1;have:=hq q hq7;rw[add_add] at this;rw[this];exact hv
 obtain⟨f,Qc⟩:=Go.Deep.choose_lt each;have Vp:((List.range len).map f).length=len:=cD
 have jj: ∀i:Nat,i<len->rdO ((List.range len).map f) (i:Int)=f i:=λi h=>by
  unfold rdO;simp[ak,Al h]
 refine⟨some a,cap,(List.range len).map f,by rw[Vp];exact lf,⟨qV _,by rw[Vp];unfold maxLen at hm;omega,by rw[Vp];exact hl,λj v hv=>⟨a,rfl,?_⟩⟩,λo ho=> ?_⟩
 ·have hj:j<((List.range len).map f).length*7:=by
   rw[<-qV];exact(dw.1 hv).1
  have h2:=aOe hj hv;rw[Vp] at hj;rw[jj _ G] at h2;have:=(Qc (j/7) G).1 _ _ h2;rwa[show j/7*7+j%7=j by omega] at this
 ·obtain ⟨i,Ng,rfl⟩:=iy.1 ho;exact(Qc i (jq.1 Ng)).2
end
end Go.Eng
namespace Go.Proofs.YtdbebmmhdefgdaaGreat
open Go Go.Eng Go.Pure
open Tryz
set_option maxRecDepth 100000
theorem OY:([5,3,1,0,4,2]:AH).Perm (iota ([98,97,110,97,110,97]:AH).length)/\([5,3,1,0,4,2]:AH).Pairwise (bU [98,97,110,97,110,97]):=by
 refine⟨by decide+kernel,?_⟩;have h:([5,3,1,0,4,2]:AH).Pairwise (λx y=>cmpL (([98,97,110,97,110,97]:AH).drop x.toNat) (([98,97,110,97,110,97]:AH).drop y.toNat)<0):=by decide+kernel
 exact h.imp λh=>gM.1 h
theorem aBh {w:World}:
  CF 18 #[] w (λv R'=>v=bt):=by
 refine fn1 Tryz.func18 Z Z Z ?_;refine wq<|wn Z<|wq<|wa (aD bLq Z (Ct.fresh (λw hw=>IG))) ?_;rintro _ _⟨_,rfl,am,rfl,rfl⟩;refine wn Z<|aC<|wq<|wm Z<|wy (dL Gb Z Z)<|aA<|aJ Z<|aI<|wq<|wm Z<|wa (bH .u8 [98,97,110,97,110,97] af zs5 Z Z Z) ?_;rintro _ _⟨du,rfl,rfl⟩;refine wa (aIo 0 Z Z af ay Z Z) ?_;rintro _ _⟨rfl,rfl⟩;refine wa (aD bRb Z (Ct.pick [1,0] 99 cC Z (aCu (rdr 0 Z) (by first|rfl|(simp;done)|omega) (by show aP [98,97,110,97,110,97];unfold aP;decide) (by show [98,97,110,97,110,97].length<=100000;decide) cC))) ?_;rintro _ _⟨b1,iu,dy,js,jt,rfl,cq,dj,rfl⟩;refine wm Z<|wX Z Z<|wX Z Z<|wa (iC (sz:=3) bKe Z) ?_;rintro _ _⟨gl,rfl,rfl⟩;refine bV (fQ (vs:=[sl iu (([98,97,110,97,110,97]).length) js,sl dy (([98,97,110,97,110,97]).length) jt,bt]) 0 Z bHn Z Z Z (by intro v hv;simp at hv;rcases hv with rfl|rfl|rfl<;>rfl) Z) ?_;rintro _ _ rfl;refine wn Z<|wq<|wm Z<|wR Z Z<|wm Z<|aB Z Z<|wy (yF 2 2 underlying79 sz4 Z)<|aB Z Z<|wy (yL 0 Ah Z Z Z)<|wy (aT Z Z)<|wm Z<|aB Z Z<|wy (yF 0 0 underlying79 dO Z) ?_;refine aB Z Z<|wy (yL 0 aa Z Z Z)<|aB Z Z<|wa (bH .i64 [5,3,1,0,4,2] aa zs3 Z Z Z) ?_;rintro _ _⟨ka,rfl,rfl⟩;refine aB Z Z<|wa (aD bRa Z (Ct.quiet (λw hw=>aWj ((rdr 2 Z) w hw) ((rdr 0 Z) w hw) (by rw[cq.length_eq,bB];decide)))) ?_;rintro _ _⟨rfl,rfl⟩;refine fH 24 Z (uK cq OY.1 dj OY.2)<|wy (aT Z Z)<|wn Z<|aQ [] 99 cC Z ?_;refine⟨_,Z,?_⟩;rfl
theorem topPlays_ct {w:World} {io:AF} {mt iz:Nat} {l:List OpR} (dr:Rd w io mt iz 7 (vB l)) (Kj:XL w l):
  CF 15 #[sl io mt iz] w (λv R'=>v=bt):=by
 obtain rfl:mt=l.length:=by have:=dr.len;rw[qV] at this;omega
 refine fn1 Tryz.func15 Z Z Z ?_;refine wq<|wn Z<|aC<|wq<|wm Z<|wy (aN qi Z)<|wy (dE Z Z)<|aA<|bA Z (λaq=> ?_) (λaq=> ?_)
 ·refine wq<|wn Z<|bN (R1:=[]) (λ_ h=>(h.selR (F:=[]) (F':=[]) [] cC Z).left (X:=[])) ?_;refine⟨_,Z,?_⟩;rfl
 ·refine aI<|aC<|wq<|wn Z<|aH ?_;refine fM (λ(j:Int)=>[(0,sl io l.length iz),(3,I j)]) (λj=>([])) (λj=>(0<=j)/\(j<=l.length)/\(∀q:Int,0<=q->q<j->(rdO l q).d.length<=40)) (λj=>(l.length-j).toNat) ?_ ?_
  ·exact⟨0,⟨G,G,(λq h1 h2=>G)⟩,KP⟩
  intro j ⟨ue,l7,hn⟩;refine aC<|wq<|wm Z<|wm Z<|wy (aN qi Z)<|wL Z Z<|aA<|bA Z (λbp=> ?_) (λbp=> ?_)
  ·refine aI<|aC<|aH<|wq<|wm Z<|wm Z<|wy (dU qi uY Z Z (dr.c _) Z)<|wy (lD (off:=1) dz Z dA Z Z (dr.c _) G G) ?_;have Zp:=(Kj.at (i:=j) G G).1;refine wy (rV af Z Z (dr.c _) G G Z Z)<|wy (aN af Z)<|wy (dE Z Z)<|aA<|bA Z (λew=> ?_) (λew=> ?_)
   ·refine wq<|wn Z<|bN (R1:=[]) (λ_ h=>(h.selR (F:=[]) (F':=[]) [] cC Z).left (X:=[])) ?_;refine⟨_,Z,?_⟩;rfl
   ·refine aI<|aL<|wm Z<|wA Z Z<|wn Z ?_
    exact⟨j+1,⟨G,G,(λq h1 h2=>by
      rcases bn q j with h|h
      ·exact hn q h1 h
      ·obtain rfl:q=j:=G
       omega)⟩,G,KP⟩
  ·have ju: ∀q:Int,0<=q->q<l.length->(rdO l q).d.length<=40:=λq h1 h2=>hn q h1 G;refine aU<|wq<|wa (aD bJo Z (Ct.fresh (λw hw=>MU))) ?_;rintro _ _⟨_,rfl,bx,rfl,rfl⟩;refine wy (dW (v:= .agg #[sl none 0 0,sl none 0 0,sl none 0 0]) Z (λw=>cA))<|wa (bO (sz:=3) rfl rfl) ?_;rintro _ _⟨du,rfl,rfl⟩;refine dB (R1:=((rc 54 3 du [sl none 0 0,sl none 0 0,sl none 0 0])::⟨22,1,none,0,0,[],false⟩::(ri 3 none 0 0 ([]))::(rc 102 2 bx [sl none 0 0,sl none 0 0])::(ru 5 none 0 0 ([]))::⟨106,2,none,0,0,prs ([]),false⟩::[])) (Sub.refl _) (λ_ h=>((h.nil 3 1).nil 22 1).sel [2,0,1,3,4,5] cC Z)<|wg Z<|wn Z<|aC<|wq<|wn Z<|aH ?_;refine XT (λ(i:Int) (At:AF) (ct:Nat) (s:AH) (Ap:AF) (cp:Nat) (lx:AE) (As:AF) (cs:Nat) (Aw:AF) (cw:Nat) (vv:AG) (Ad:AF) (cd:Nat) (dd:AH) (was:AD) (Rs:List Row)=>[(0,sl io l.length iz),(4,PG bx),(5,PG du),(6,I i)]) (λi At ct s Ap cp lx As cs Aw cw vv Ad cd dd was Rs=>((rc 54 3 du [sl As s.length cs,sl Aw vv.length cw,sl Ad dd.length cd])::⟨22,1,Aw,vv.length,cw,vv,false⟩::(ri 3 Ad dd.length cd dd)::(DK bx At s.length ct Ap lx.length cp s lx Rs))) (λi At ct s Ap cp lx As cs Aw cw vv Ad cd dd was Rs=>(0<=i)/\(i<=l.length)/\(Cp lx was dd s)/\(aP s)/\(s.length<=40000)/\((lx.length:Int)<=i)/\(RdT Rs As s.length cs s)/\(SlR .u8 Rs vv was)) (λi At ct s Ap cp lx As cs Aw cw vv Ad cd dd was Rs=>(l.length-i).toNat) ?_ ?_
   ·exact⟨0,none,0,[],none,0,[],none,0,none,0,[],none,0,[],[],[],⟨G,G,(Cp.nil),(aP.nil),cC,cC,(RdT.none _),(SlR.nilR _ _)⟩,KP⟩
   intro i At ct s Ap cp lx As cs Aw cw vv Ad cd dd was Rs ⟨aw,ia,hC,w4,pf,un,hT,hW⟩;refine aC<|wq<|wm Z<|wy (xK lu Z Z)<|wm Z<|aB Z Z<|wm Z<|aB Z Z<|wm Z<|aB Z Z<|wy (aN qi Z)<|aB Z Z<|wL Z Z<|wy (aT Z Z) ?_;refine aA<|bA Z (λkd=> ?_) (λkd=> ?_)
   ·refine aI<|aC<|aH<|aC<|wq<|wm Z<|wy (aF Z)<|wy (yF 0 0 lc dA Z)<|wy (yL 0 af Z Z Z)<|wy (aN af Z)<|wy (dE Z Z)<|wm Z<|cK 7 [(0,sl io l.length iz),(4,PG bx),(5,PG du),(6,I i),(49, .bool (decide ((120<(s.length:Int))/\(((rdO l i).K)≠1))))] ((rc 54 3 du [sl As s.length cs,sl Aw vv.length cw,sl Ad dd.length cd])::⟨22,1,Aw,vv.length,cw,vv,false⟩::(ri 3 Ad dd.length cd dd)::(DK bx At s.length ct Ap lx.length cp s lx Rs)) ?_ ?_
    ·refine bR 42 Z (λme=> ?_) (λme=> ?_)
     ·refine aB Z Z<|wm Z<|aB Z Z<|wm Z<|aB Z Z<|wy (dU qi uY Z Z (dr.c _) Z)<|aB Z Z<|wy (lD (off:=0) dz Z sz3 Z Z (dr.c _) G G)<|aB Z Z<|wy (rV ai Z Z (dr.c _) G G Z Z)<|aB Z Z<|wy (fE Z Z)<|wy (aT Z Z)<|aA ?_;exact KP
     ·refine aM Z Z Z Z<|aM Z Z Z Z<|aM Z Z Z Z<|aM Z Z Z Z<|aM Z Z Z Z<|aM Z Z Z Z<|wy (aO Z Z)<|aA ?_;exact KP
    refine wm Z<|cK 7 [(0,sl io l.length iz),(4,PG bx),(5,PG du),(6,I i),(57, .bool (decide (((120<(s.length:Int))/\(((rdO l i).K)≠1))/\(((rdO l i).K)≠3))))] ((rc 54 3 du [sl As s.length cs,sl Aw vv.length cw,sl Ad dd.length cd])::⟨22,1,Aw,vv.length,cw,vv,false⟩::(ri 3 Ad dd.length cd dd)::(DK bx At s.length ct Ap lx.length cp s lx Rs)) ?_ ?_
    ·refine bR 50 Z (λvq=> ?_) (λvq=> ?_)
     ·refine aB Z Z<|wm Z<|aB Z Z<|wm Z<|aB Z Z<|wy (dU qi uY Z Z (dr.c _) Z)<|aB Z Z<|wy (lD (off:=0) dz Z sz3 Z Z (dr.c _) G G)<|aB Z Z<|wy (rV ai Z Z (dr.c _) G G Z Z)<|aB Z Z<|wy (fE Z Z)<|wy (aT Z Z)<|aA ?_;exact KP
     ·refine aM Z Z Z Z<|aM Z Z Z Z<|aM Z Z Z Z<|aM Z Z Z Z<|aM Z Z Z Z<|aM Z Z Z Z<|wy (aO Z Z)<|aA ?_;exact KP
    refine wm Z<|cK 7 [(0,sl io l.length iz),(4,PG bx),(5,PG du),(6,I i),(65, .bool (decide ((((120<(s.length:Int))/\(((rdO l i).K)≠1))/\(((rdO l i).K)≠3))/\(((rdO l i).K)≠5))))] ((rc 54 3 du [sl As s.length cs,sl Aw vv.length cw,sl Ad dd.length cd])::⟨22,1,Aw,vv.length,cw,vv,false⟩::(ri 3 Ad dd.length cd dd)::(DK bx At s.length ct Ap lx.length cp s lx Rs)) ?_ ?_
    ·refine bR 58 Z (λr7=> ?_) (λr7=> ?_)
     ·refine aB Z Z<|wm Z<|aB Z Z<|wm Z<|aB Z Z<|wy (dU qi uY Z Z (dr.c _) Z)<|aB Z Z<|wy (lD (off:=0) dz Z sz3 Z Z (dr.c _) G G)<|aB Z Z<|wy (rV ai Z Z (dr.c _) G G Z Z)<|aB Z Z<|wy (fE Z Z)<|wy (aT Z Z)<|aA ?_;exact KP
     ·refine aM Z Z Z Z<|aM Z Z Z Z<|aM Z Z Z Z<|aM Z Z Z Z<|aM Z Z Z Z<|aM Z Z Z Z<|wy (aO Z Z)<|aA ?_;exact KP
    refine wm Z<|cK 7 [(0,sl io l.length iz),(4,PG bx),(5,PG du),(6,I i),(73, .bool (decide (((((120<(s.length:Int))/\(((rdO l i).K)≠1))/\(((rdO l i).K)≠3))/\(((rdO l i).K)≠5))/\(((rdO l i).K)≠7))))] ((rc 54 3 du [sl As s.length cs,sl Aw vv.length cw,sl Ad dd.length cd])::⟨22,1,Aw,vv.length,cw,vv,false⟩::(ri 3 Ad dd.length cd dd)::(DK bx At s.length ct Ap lx.length cp s lx Rs)) ?_ ?_
    ·refine bR 66 Z (λOt=> ?_) (λOt=> ?_)
     ·refine aB Z Z<|wm Z<|aB Z Z<|wm Z<|aB Z Z<|wy (dU qi uY Z Z (dr.c _) Z)<|aB Z Z<|wy (lD (off:=0) dz Z sz3 Z Z (dr.c _) G G)<|aB Z Z<|wy (rV ai Z Z (dr.c _) G G Z Z)<|aB Z Z<|wy (fE Z Z)<|wy (aT Z Z)<|aA ?_;exact KP
     ·refine aM Z Z Z Z<|aM Z Z Z Z<|aM Z Z Z Z<|aM Z Z Z Z<|aM Z Z Z Z<|aM Z Z Z Z<|wy (aO Z Z)<|aA ?_;exact KP
    refine aA<|bA Z (λSo=> ?_) (λSo=> ?_)
    ·refine aU<|aL<|wm Z<|wA Z Z<|wn Z ?_;exact⟨i+1,At,ct,s,Ap,cp,lx,As,cs,Aw,cw,vv,Ad,cd,dd,was,Rs,⟨G,G,G,G,G,G,G,G⟩,G,KP⟩
    ·refine aI<|aC<|aEj (λi=>[9,10].contains i) (λ_:Unit=>[]) (λ_ h=>Hp.nilx h) mixed<|jO 0 Z cA Z Z (aK Z)<|jO 1 Z cA Z Z (aK Z)<|jO 2 Z cA Z Z (aK Z)<|jO 3 Z cA Z Z (dU qi uY Z Z (dr.c _) Z) ?_;have k8:=(Kj.at (i:=i) G G).1;refine jO 4 Z cA Z Z (aIu dz Z uY Z (dr.c _) G G)<|jO 6 Z cA Z Z (aK Z)<|jO 7 Z cA Z Z (aK Z)<|jO 8 Z cA Z Z (aK Z)<|XQ 9 Z cA Z Z (λ_=>dU qi uY Z Z (dr.c _) Z G G) ?_;have Mi:=(Kj.at (i:=i) G G).1;refine XQ 10 Z cA Z Z (λ_=>aIu dz Z uY Z (dr.c _) G G)<|bAn 5 Z cA (au cA) Z (aD bJn Z (Ct.pick [3,4,5,0,1,2] 6 cC Z (aLf (was:=was) (dd:=dd) Z Z hC w4 pf (λh=>G) G (k8.c _) rfl (Kj.at (i:=i) aw G).2 (by have:=ju i aw G;omega)))) ?_;rintro _ _⟨e1,dy,jt,s1,jz,lz,l1,Px,wx,rfl,rfl,Xd,Do,Zb,zj,Xp⟩;have Ye:=Xd.len;refine⟨.inl cA,λ_ h=>Hp.nilx h,?_⟩;refine oM (R1:=((rc 102 2 bx [sl dy s1.length jt,sl jz l1.length lz])::(ru 5 dy s1.length jt s1)::⟨106,2,jz,l1.length,lz,prs l1,false⟩::(DX du As s.length cs Aw vv.length cw vv Ad dd.length cd dd Rs))) Z<|bAn 11 Z cA (au cA) Z (aD bMg Z (Ct.pick [3,4,5,0,1,2] 6 cC Z (SE (X:=[(rc 102 2 bx [sl dy s1.length jt,sl jz l1.length lz]),(ru 5 dy s1.length jt s1),⟨106,2,jz,l1.length,lz,prs l1,false⟩]) (T:=Rs) Z Z Z hT hW (by have:=hC.len;omega) Xp w4 (λh=>G) (by have:=hC.len;omega) (Mi.c _) rfl (by have:=ju i aw G;omega)))) ?_;rintro _ _⟨Mr,br,bw,ln,co,xf,en,es,rfl,rfl,Sc,d8⟩;refine⟨.inl cA,λ_ h=>Hp.nilx h,?_⟩;refine oM (R1:=((rc 54 3 du [sl br s1.length bw,sl ln xf.length co,sl en wx.length es])::⟨22,1,ln,xf.length,co,xf,false⟩::(ri 3 en wx.length es wx)::(rc 102 2 bx [sl dy s1.length jt,sl jz l1.length lz])::(ru 5 dy s1.length jt s1)::⟨106,2,jz,l1.length,lz,prs l1,false⟩::(Mr++Rs))) Z<|jO 12 Z cA Z Z (Yl.f (fE Z Z) (λh=>h Z))<|jO 13 Z cA Z Z (aK Z)<|mQ 14 Z cA Z Z Z Z (aK Z)<|mQ 17 Z cA Z Z Z Z (aK Z)<|mQ 18 Z cA Z Z Z Z (aF Z)<|mQ 19 Z cA Z Z Z Z (yF 0 0 lc dA Z)<|mQ 20 Z cA Z Z Z Z (yL 0 af Z Z Z)<|mQ 21 Z cA Z Z Z Z (tT af ay Db Z (λ_ h=>Sc _ _ _ (h.right (R':=[_,_,_,_,_,_]))))<|aIw 15 Z cA (au cA) Z Z Z (aD bJm Z (Ct.pick [3,4,5,0,1,2] 6 cC Z (ET Z Z G))) ?_;rintro _ _⟨fz,th,rfl,rfl⟩;refine⟨.inr λ_ h=>h.pickT [4,5,6,1,2,3] 7 cC Z,λ_ h=>Hp.nilx h,?_⟩;refine oM (R1:=((ru 5 fz s1.length th s1)::(rc 102 2 bx [sl dy s1.length jt,sl jz l1.length lz])::(ru 5 dy s1.length jt s1)::⟨106,2,jz,l1.length,lz,prs l1,false⟩::(rc 54 3 du [sl br s1.length bw,sl ln xf.length co,sl en wx.length es])::⟨22,1,ln,xf.length,co,xf,false⟩::(ri 3 en wx.length es wx)::(Mr++Rs))) Z<|mQ 16 Z cA Z Z Z Z (tT af ay Db Z (rdr 0 Z))<|mQ 22 Z cA Z Z Z Z (Yl.f (aRr Z Z Do Do) (λh=>h Z))<|jO 23 Z cA Z Z (aO Z Z)<|aEg cA<|aJ Z<|aI<|aL<|wm Z<|wA Z Z<|wn Z ?_;exact⟨i+1,dy,jt,s1,jz,lz,l1,br,bw,ln,co,xf,en,es,wx,Px,(Mr++Rs),⟨G,G,G,G,G,G,G,G⟩,G,SA,λ_ h=>h.selR (F:=[_,_,_,_,_,_,_]) (F':=[_,_,_,_,_,_]) [4,5,6,1,2,3] cC Z⟩
   ·refine aU<|wq<|wm Z<|wy (xK lu Z Z)<|wm Z<|aB Z Z<|wa (aD bRk Z (Ct.quiet (λw hw=>aBh))) ?_;rintro _ _⟨rfl,rfl⟩;refine wy (aT Z Z)<|wn Z<|bN (R1:=[]) (λ_ h=>(h.selR (F:=[_,_,_,_,_,_]) (F':=[]) [] cC Z).left (X:=[])) ?_;refine⟨_,Z,?_⟩;rfl
end Go.Proofs.YtdbebmmhdefgdaaGreat
