/- Own work. -/
import Derived.Lib.SmallJoins
import Derived.Deep.Slices
import Derived.Test.YtdbebmmhdefgdaaGreatR6
set_option linter.unusedVariables false
set_option linter.unusedSimpArgs false
namespace Go.Eng
open Go Go.RowKit Go.Pure
section
variable {P:Program} {n:Nd} {B:Nat} {w0:World}
theorem aQm {σ0 σ1 σ2 σ3 σ4 σ5 σ6 σ7 σ8 σ9 σ10 σ11 σ12 σ13 σ14 σ15 σ16:Type} {c:Code} {Q:fC} {L:Env} {R:List Row} (Lx:σ0->σ1->σ2->σ3->σ4->σ5->σ6->σ7->σ8->σ9->σ10->σ11->σ12->σ13->σ14->σ15->σ16->Env) (Rx:σ0->σ1->σ2->σ3->σ4->σ5->σ6->σ7->σ8->σ9->σ10->σ11->σ12->σ13->σ14->σ15->σ16->List Row) (J:σ0->σ1->σ2->σ3->σ4->σ5->σ6->σ7->σ8->σ9->σ10->σ11->σ12->σ13->σ14->σ15->σ16->Prop) (μ:σ0->σ1->σ2->σ3->σ4->σ5->σ6->σ7->σ8->σ9->σ10->σ11->σ12->σ13->σ14->σ15->σ16->Nat)
  (h0: ∃x0 x1 x2 x3 x4 x5 x6 x7 x8 x9 wc wd wi wj Kd Kf Kg,J x0 x1 x2 x3 x4 x5 x6 x7 x8 x9 wc wd wi wj Kd Kf Kg/\Sub (Lx x0 x1 x2 x3 x4 x5 x6 x7 x8 x9 wc wd wi wj Kd Kf Kg) L/\ ∀w,Hp B w0 w R->Hp B w0 w (Rx x0 x1 x2 x3 x4 x5 x6 x7 x8 x9 wc wd wi wj Kd Kf Kg))
  (round: ∀x0 x1 x2 x3 x4 x5 x6 x7 x8 x9 wc wd wi wj Kd Kf Kg,J x0 x1 x2 x3 x4 x5 x6 x7 x8 x9 wc wd wi wj Kd Kf Kg->W P n B w0 c {Q with nrm:=λL' R'=> ∃y0 y1 y2 y3 y4 y5 y6 y7 y8 y9 o5 o6 o7 o8 Qe Qf Qg,J y0 y1 y2 y3 y4 y5 y6 y7 y8 y9 o5 o6 o7 o8 Qe Qf Qg/\μ y0 y1 y2 y3 y4 y5 y6 y7 y8 y9 o5 o6 o7 o8 Qe Qf Qg<μ x0 x1 x2 x3 x4 x5 x6 x7 x8 x9 wc wd wi wj Kd Kf Kg/\Sub (Lx y0 y1 y2 y3 y4 y5 y6 y7 y8 y9 o5 o6 o7 o8 Qe Qf Qg) L'/\ ∀w,Hp B w0 w R'->Hp B w0 w (Rx y0 y1 y2 y3 y4 y5 y6 y7 y8 y9 o5 o6 o7 o8 Qe Qf Qg)} (Lx x0 x1 x2 x3 x4 x5 x6 x7 x8 x9 wc wd wi wj Kd Kf Kg) (Rx x0 x1 x2 x3 x4 x5 x6 x7 x8 x9 wc wd wi wj Kd Kf Kg)):W P n B w0 (.loop c) Q L R:=by
 obtain⟨x0,x1,x2,x3,x4,x5,x6,x7,x8,x9,wc,wd,wi,wj,Kd,Kf,Kg,h1,h2,h3⟩:=h0;refine oZ (σ:=σ0 × σ1 × σ2 × σ3 × σ4 × σ5 × σ6 × σ7 × σ8 × σ9 × σ10 × σ11 × σ12 × σ13 × σ14 × σ15 × σ16) (λp=>Lx p.1 p.2.1 p.2.2.1 p.2.2.2.1 p.2.2.2.2.1 p.2.2.2.2.2.1 p.2.2.2.2.2.2.1 p.2.2.2.2.2.2.2.1 p.2.2.2.2.2.2.2.2.1 p.2.2.2.2.2.2.2.2.2.1 p.2.2.2.2.2.2.2.2.2.2.1 p.2.2.2.2.2.2.2.2.2.2.2.1 p.2.2.2.2.2.2.2.2.2.2.2.2.1 p.2.2.2.2.2.2.2.2.2.2.2.2.2.1 p.2.2.2.2.2.2.2.2.2.2.2.2.2.2.1 p.2.2.2.2.2.2.2.2.2.2.2.2.2.2.2.1 p.2.2.2.2.2.2.2.2.2.2.2.2.2.2.2.2) (λp=>Rx p.1 p.2.1 p.2.2.1 p.2.2.2.1 p.2.2.2.2.1 p.2.2.2.2.2.1 p.2.2.2.2.2.2.1 p.2.2.2.2.2.2.2.1 p.2.2.2.2.2.2.2.2.1 p.2.2.2.2.2.2.2.2.2.1 p.2.2.2.2.2.2.2.2.2.2.1 p.2.2.2.2.2.2.2.2.2.2.2.1 p.2.2.2.2.2.2.2.2.2.2.2.2.1 p.2.2.2.2.2.2.2.2.2.2.2.2.2.1 p.2.2.2.2.2.2.2.2.2.2.2.2.2.2.1 p.2.2.2.2.2.2.2.2.2.2.2.2.2.2.2.1 p.2.2.2.2.2.2.2.2.2.2.2.2.2.2.2.2) (λp=>J p.1 p.2.1 p.2.2.1 p.2.2.2.1 p.2.2.2.2.1 p.2.2.2.2.2.1 p.2.2.2.2.2.2.1 p.2.2.2.2.2.2.2.1 p.2.2.2.2.2.2.2.2.1 p.2.2.2.2.2.2.2.2.2.1 p.2.2.2.2.2.2.2.2.2.2.1 p.2.2.2.2.2.2.2.2.2.2.2.1 p.2.2.2.2.2.2.2.2.2.2.2.2.1 p.2.2.2.2.2.2.2.2.2.2.2.2.2.1 p.2.2.2.2.2.2.2.2.2.2.2.2.2.2.1 p.2.2.2.2.2.2.2.2.2.2.2.2.2.2.2.1 p.2.2.2.2.2.2.2.2.2.2.2.2.2.2.2.2) (λp=>μ p.1 p.2.1 p.2.2.1 p.2.2.2.1 p.2.2.2.2.1 p.2.2.2.2.2.1 p.2.2.2.2.2.2.1 p.2.2.2.2.2.2.2.1 p.2.2.2.2.2.2.2.2.1 p.2.2.2.2.2.2.2.2.2.1 p.2.2.2.2.2.2.2.2.2.2.1 p.2.2.2.2.2.2.2.2.2.2.2.1 p.2.2.2.2.2.2.2.2.2.2.2.2.1 p.2.2.2.2.2.2.2.2.2.2.2.2.2.1 p.2.2.2.2.2.2.2.2.2.2.2.2.2.2.1 p.2.2.2.2.2.2.2.2.2.2.2.2.2.2.2.1 p.2.2.2.2.2.2.2.2.2.2.2.2.2.2.2.2) ⟨(x0,x1,x2,x3,x4,x5,x6,x7,x8,x9,wc,wd,wi,wj,Kd,Kf,Kg),h1,h2,h3⟩ λp hp=>iA (round p.1 p.2.1 p.2.2.1 p.2.2.2.1 p.2.2.2.2.1 p.2.2.2.2.2.1 p.2.2.2.2.2.2.1 p.2.2.2.2.2.2.2.1 p.2.2.2.2.2.2.2.2.1 p.2.2.2.2.2.2.2.2.2.1 p.2.2.2.2.2.2.2.2.2.2.1 p.2.2.2.2.2.2.2.2.2.2.2.1 p.2.2.2.2.2.2.2.2.2.2.2.2.1 p.2.2.2.2.2.2.2.2.2.2.2.2.2.1 p.2.2.2.2.2.2.2.2.2.2.2.2.2.2.1 p.2.2.2.2.2.2.2.2.2.2.2.2.2.2.2.1 p.2.2.2.2.2.2.2.2.2.2.2.2.2.2.2.2 hp) ?_ (λ_ _ h=>h) (λ_ _ _ h=>h);rintro L' R' ⟨y0,y1,y2,y3,y4,y5,y6,y7,y8,y9,o5,o6,o7,o8,Qe,Qf,Qg,g1,g2,g3,g4⟩;exact⟨(y0,y1,y2,y3,y4,y5,y6,y7,y8,y9,o5,o6,o7,o8,Qe,Qf,Qg),⟨g1,g2⟩,g3,g4⟩
end
end Go.Eng
namespace Go.Eng
open Go Go.RowKit
section
variable {P:Program} {n:Nd} {B:Nat} {w0:World} {ops:Array Oper} {K:Env->List Row->Prop} {L:Env} {R R1:List Row}
end
end Go.Eng
namespace Go.Proofs.YtdbebmmhdefgdaaGreat
open Go Go.Eng Go.Pure
open Tryz
set_option maxRecDepth 100000
set_option maxHeartbeats 1000000 in
theorem bCk {B:Nat} {w0:World} {R:List Row} {g:Nat} {At Ap:Option Addr} {nt ct np cp:Nat} {s d:List Int} {l:List (Int × Int)} {was:List (List Int)} {dd:List Int} {Ad:Option Addr} {nd cd:Nat} {K N k so od sz:Int} (kb:nt=s.length) (jz:np=l.length) (hC:Cp l was dd s) (br:aR s) (hN:s.length<=40000) (Id:K=2\/K=4\/K=6->s.length<=120) (hl:l.length<=100) (hd:RdC B w0 R Ad nd cd 1 (ints .u8 d)) (hnd:nd=d.length) (bd:aR d) (hD:d.length<=40000):
  Ct Tryz.prog 30 #[PG g, .agg #[I K,sl Ad nd cd,I N,I k,I so,I od,I sz]] B w0 (DK g At nt ct Ap np cp s l R) (λv R'=> ∃(e:Int) (A8:Option Addr) (c8:Nat) (s':List Int) (A7:Option Addr) (c7:Nat) (l':List (Int × Int)) (vc:List (List Int)) (d8:List Int),v=I e/\R'=DK g A8 s'.length c8 A7 l'.length c7 s' l' R/\Cp l' vc d8 s'/\aR s'/\s'.length<=40000/\l'.length<=l.length+1/\DStep K N k so od sz d s was dd e s' vc d8):=by
 subst kb;subst jz;have stay: ∀(e:Int) (v:Value) (R':List Row),v=I e->R'=DK g At s.length ct Ap l.length cp s l R->DStep K N k so od sz d s was dd e s was dd-> ∃(e:Int) (A8:Option Addr) (c8:Nat) (s':List Int) (A7:Option Addr) (c7:Nat) (l':List (Int × Int)) (vc:List (List Int)) (d8:List Int),v=I e/\R'=DK g A8 s'.length c8 A7 l'.length c7 s' l' R/\Cp l' vc d8 s'/\aR s'/\s'.length<=40000/\l'.length<=l.length+1/\DStep K N k so od sz d s was dd e s' vc d8:=λe v R' h1 h2 h3=>⟨e,At,ct,s,Ap,cp,l,was,dd,h1,h2,hC,br,hN,G,h3⟩;have hc:(K<1\/7<K)\/K=1\/K=2\/K=3\/K=4\/K=5\/K=6\/K=7:=G
 rcases hc with h|rfl|rfl|rfl|rfl|rfl|rfl|rfl
 ·exact(aFt rfl rfl h).mono λv R' ⟨a,b⟩=>stay 1 v R' a b (.other h)
 ·refine (aWt rfl rfl hd hnd G).mono ?_;rintro v R' ⟨A8,c8,rfl,rfl⟩;exact⟨0,A8,c8,d,none,0,[],[],[],Z,Z, .nil,bd,hD,cD, .set rfl⟩
 ·have hS:=Id cC;by_cases n1:N=1
  ·subst n1;refine(aFs Z Z br G G).mono ?_;rintro v R' ⟨b,hb,A8,c8,A7,c7,rfl,rfl⟩;have e:ofL s b=(fQ 1 s).2:=by rw[vG hb.1 hb.2]
   exact⟨0,A8,c8,ofL s b,A7,c7,_,was++[s],dd++[1],Z,Z,hC.add br hS (.inl ⟨Z,vF br hb.1 hb.2⟩),uC br hb.1,by rw[(vW hb.1 hb.2).length_eq];omega,by rw[ah];exact di _,e▸ .turn rfl (.inl rfl)⟩
  by_cases n2:N=2
  ·subst n2;refine(aFr Z Z br G G).mono ?_;rintro v R' ⟨T,hT,A8,c8,A7,c7,rfl,rfl⟩;have e:T.map (lastB (bws s))=(fQ 2 s).2:=by rw[vH hT.1 hT.2]
   exact⟨0,A8,c8,T.map (lastB (bws s)),A7,c7,_,was++[s],dd++[1],Z,by rw[bz],hC.add br hS (.inr (.inl ⟨rfl,SG br hT.1 hT.2⟩)),kG hT.1 (by rw[lI];exact br),by rw[bz,xW hT.1];omega,by rw[ah];exact di _,e▸ .turn rfl (.inr rfl)⟩
  exact(aBd Z Z ⟨n1,n2⟩).mono λv R' ⟨a,b⟩=>stay 1 v R' a b (.turnN Z ⟨n1,n2⟩)
 ·rcases hC.inv with⟨rfl,rfl,rfl⟩|⟨l0,was0,dd0,K',at_,s0,rfl,rfl,rfl,h1,h2,h3,h4⟩
  ·exact(aBf (s:=s)).mono λv R' ⟨a,b⟩=>stay 6 v R' a b (.undoN cC (.inl rfl))
  have vu:l0.length<=1000:=by rw[ah] at hl;omega
  rcases h4 with⟨rfl,ok,hb⟩|⟨rfl,hb⟩|⟨rfl,hb⟩|⟨rfl,k',so',od',Vm,hs,hk,hp⟩
  ·refine (aWz (s0:=s0) (l:=l0) rfl rfl vu br G ok hb).mono ?_;rintro v R' ⟨A8,c8,rfl,rfl⟩;exact⟨0,A8,c8,s0,Ap,cp,l0,was0,dd0,Z,Z,h1,h2,G,by rw[ah];omega, .undo (by unfold UK kdD;decide) rfl rfl⟩
  ·refine (aWy (s0:=s0) (l:=l0) rfl rfl vu br G hb).mono ?_;rintro v R' ⟨A8,c8,rfl,rfl⟩;exact⟨0,A8,c8,s0,Ap,cp,l0,was0,dd0,Z,Z,h1,h2,G,by rw[ah];omega, .undo (by unfold UK kdD;decide) rfl rfl⟩
  ·exact(aBe rfl rfl vu cC).mono λv R' ⟨a,b⟩=>stay 6 v R' a b (.undoN cC (.inr ⟨_,_,rfl,by unfold UK kdD;decide⟩))
  ·exact(aBe rfl rfl vu cC).mono λv R' ⟨a,b⟩=>stay 6 v R' a b (.undoN cC (.inr ⟨_,_,rfl,by unfold UK kdD;decide⟩))
 ·have hS:=Id cC;refine(aFu Z Z br G G).mono ?_;rintro v R' ⟨A8,c8,A7,c7,rfl,rfl⟩;exact⟨0,A8,c8,aU aO s,A7,c7,_,was++[s],dd++[2],Z,Z,hC.add br hS (.inr (.inr (.inl ⟨Z,qC br⟩))),lS br,by rw[fO];omega,by rw[ah];exact di _, .front rfl⟩
 ·rcases hC.inv with⟨rfl,rfl,rfl⟩|⟨l0,was0,dd0,K',at_,s0,rfl,rfl,rfl,h1,h2,h3,h4⟩
  ·exact(aWw (s:=s)).mono λv R' ⟨a,b⟩=>stay 6 v R' a b (.undoN cC (.inl rfl))
  have vu:l0.length<=1000:=by rw[ah] at hl;omega
  rcases h4 with⟨rfl,ok,hb⟩|⟨rfl,hb⟩|⟨rfl,hb⟩|⟨rfl,k',so',od',Vm,hs,hk,hp⟩
  ·exact(MP rfl rfl vu cC).mono λv R' ⟨a,b⟩=>stay 6 v R' a b (.undoN cC (.inr ⟨_,_,rfl,by unfold UK kdD;decide⟩))
  ·exact(MP rfl rfl vu cC).mono λv R' ⟨a,b⟩=>stay 6 v R' a b (.undoN cC (.inr ⟨_,_,rfl,by unfold UK kdD;decide⟩))
  ·refine (aWx (s0:=s0) (l:=l0) rfl rfl vu br G hb).mono ?_;rintro v R' ⟨A8,c8,rfl,rfl⟩;exact⟨0,A8,c8,s0,Ap,cp,l0,was0,dd0,Z,Z,h1,h2,G,by rw[ah];omega, .undo (by unfold UK kdD;decide) rfl rfl⟩
  ·exact(MP rfl rfl vu cC).mono λv R' ⟨a,b⟩=>stay 6 v R' a b (.undoN cC (.inr ⟨_,_,rfl,by unfold UK kdD;decide⟩))
 ·have hS:=Id cC;by_cases k3:k=3
  ·subst k3;exact(aFw Z Z).mono λv R' ⟨a,b⟩=>stay 1 v R' a b (.boxN Z (.inl Z))
  by_cases mw:((0<=k/\k<=3)/\(0<=so/\so<=2)/\(od=0\/od=1)/\(1<=sz/\sz<=16777216))
  ·have hk:k=0\/k=1\/k=2:=G
   refine(aFv Z Z br hS G mw.2 hk).mono ?_;rintro v R' ⟨A8,c8,A7,c7,rfl,rfl⟩;exact⟨0,A8,c8,jU k so od sz s,A7,c7,_,was++[s],dd++[3],Z,Z,hC.add br hS (.inr (.inr (.inr ⟨Z,k,so,od,sz,Z,hk,mw.2⟩))),(MK br G G G G G).1,zC br hS G,by rw[ah];exact di _, .box rfl hk mw.2⟩
  exact(aFx Z Z k3 mw).mono λv R' ⟨a,b⟩=>stay 1 v R' a b (.boxN Z (.inr mw))
 ·rcases hC.inv with⟨rfl,rfl,rfl⟩|⟨l0,was0,dd0,K',at_,s0,rfl,rfl,rfl,h1,h2,h3,h4⟩
  ·exact(aWu (s:=s)).mono λv R' ⟨a,b⟩=>stay 6 v R' a b (.undoN cC (.inl rfl))
  have vu:l0.length<=1000:=by rw[ah] at hl;omega
  rcases h4 with⟨rfl,ok,hb⟩|⟨rfl,hb⟩|⟨rfl,hb⟩|⟨rfl,k',so',od',Vm,hs,hk,hp⟩
  ·exact(MO rfl rfl vu cC).mono λv R' ⟨a,b⟩=>stay 6 v R' a b (.undoN cC (.inr ⟨_,_,rfl,by unfold UK kdD;decide⟩))
  ·exact(MO rfl rfl vu cC).mono λv R' ⟨a,b⟩=>stay 6 v R' a b (.undoN cC (.inr ⟨_,_,rfl,by unfold UK kdD;decide⟩))
  ·exact(MO rfl rfl vu cC).mono λv R' ⟨a,b⟩=>stay 6 v R' a b (.undoN cC (.inr ⟨_,_,rfl,by unfold UK kdD;decide⟩))
  ·refine (aWv (s0:=s0) (l:=l0) rfl rfl vu br G hs h2 G hk hp).mono ?_;rintro v R' ⟨A8,c8,rfl,rfl⟩;exact⟨0,A8,c8,s0,Ap,cp,l0,was0,dd0,Z,Z,h1,h2,G,by rw[ah];omega, .undo (by unfold UK kdD;decide) rfl rfl⟩
set_option maxHeartbeats 4000000 in
theorem playDoes_ct {w:World} {kd:Option Addr} {mt ke:Nat} {l:List OpR} (fk:Rd w kd mt ke 7 (vV l)) (Qc:aCn w l):
  Ct Tryz.prog 10 #[sl kd mt ke] w.heap.size w [] (λv R'=>v=bt):=by
 obtain rfl:mt=l.length:=by have:=fk.len;rw[sF] at this;omega
 refine fn1 Tryz.func10 Z Z Z ?_;refine wq<|wn Z<|aD<|wq<|wm Z<|wa (aF bPe Z (Ct.quiet (λw hw=>aNe ((fk.c _) w hw) (Qc.c hw)))) ?_;rintro _ _ ⟨rfl,b1,rfl,wt⟩;refine aA<|bF Z (λaq=> ?_) (λaq=> ?_)
 ·refine wq<|wn Z<|bS (R1:=[]) (λ_ h=>(h.selR (F:=[]) (F':=[]) [] cC Z).left (X:=[])) ?_;refine⟨_,Z,?_⟩;rfl
 ·have Sj:=wt (by cases b1 with|false=>rfl|true=>exact absurd rfl aq);refine aL<|wq<|wa (aF bKr Z (Ct.fresh (λw hw=>ZL))) ?_;rintro _ _ ⟨_,rfl,an,rfl,rfl⟩;refine wy (dZ (v:= .agg #[sl none 0 0,sl none 0 0,sl none 0 0]) Z (λw=>cA))<|wa (bR (sz:=3) rfl rfl) ?_;rintro _ _ ⟨cm,rfl,rfl⟩;refine dB (R1:=((rc 54 3 cm [sl none 0 0,sl none 0 0,sl none 0 0])::⟨22,1,none,0,0,[],false⟩::(ri 3 none 0 0 ([]))::(rc 102 2 an [sl none 0 0,sl none 0 0])::(ru 5 none 0 0 ([]))::⟨106,2,none,0,0,prs ([]),false⟩::[])) (Sub.refl _) (λ_ h=>((h.nil 3 1).nil 22 1).sel [2,0,1,3,4,5] cC Z)<|wg Z<|wn Z<|aD<|wq<|wn Z<|aH ?_;refine aQm (λ(i:Int) (At:Option Addr) (ct:Nat) (s:List Int) (Ap:Option Addr) (cp:Nat) (lx:List (Int × Int)) (As:Option Addr) (cs:Nat) (Aw:Option Addr) (cw:Nat) (vv:List Value) (Ad:Option Addr) (cd:Nat) (dd:List Int) (was:List (List Int)) (Rs:List Row)=>[(0,sl kd l.length ke),(3,PG an),(4,PG cm),(5,I i)]) (λi At ct s Ap cp lx As cs Aw cw vv Ad cd dd was Rs=>((rc 54 3 cm [sl As s.length cs,sl Aw vv.length cw,sl Ad dd.length cd])::⟨22,1,Aw,vv.length,cw,vv,false⟩::(ri 3 Ad dd.length cd dd)::(rc 102 2 an [sl At s.length ct,sl Ap lx.length cp])::(ru 5 At s.length ct s)::⟨106,2,Ap,lx.length,cp,prs lx,false⟩::Rs)) (λi At ct s Ap cp lx As cs Aw cw vv Ad cd dd was Rs=>(0<=i)/\(i<=l.length)/\(Cp lx was dd s)/\(aR s)/\(s.length<=40000)/\((lx.length:Int)<=i)/\(RdT Rs As s.length cs s)/\(SlR .u8 Rs vv was)) (λi At ct s Ap cp lx As cs Aw cw vv Ad cd dd was Rs=>(l.length-i).toNat) ?_ ?_
  ·exact⟨0,none,0,[],none,0,[],none,0,none,0,[],none,0,[],[],[],⟨G,G,(Cp.nil),(aR.nil),cC,cC,(RdT.none _),(SlR.nilR _ _)⟩,SA,λ_ h=>h⟩
  intro i At ct s Ap cp lx As cs Aw cw vv Ad cd dd was Rs ⟨ar,jj,hC,Lc,pc,ua,hT,hW⟩;refine aD<|wq<|wm Z<|wy (GZ mo Z Z)<|wm Z<|aC Z Z<|wm Z<|aC Z Z<|wm Z<|aC Z Z<|wy (aQ zf Z)<|aC Z Z<|wL Z Z<|wy (bB Z Z) ?_;refine aA<|bF Z (λce=> ?_) (λce=> ?_)
  ·refine aL<|aD<|aH<|aD<|wq<|wm Z<|wy (aG Z)<|wy (aB (off:=0) (m:=0) lh Z dA Z Z Z)<|wy (aK (rdr 0 Z) af Z Z Z)<|wy (aQ af Z)<|wy (dJ Z Z)<|wm Z<|dD 7 [(0,sl kd l.length ke),(3,PG an),(4,PG cm),(5,I i),(34, .bool (decide ((120<((s.length:Nat):Int))/\(((rdO l i).K)≠1))))] ((rc 54 3 cm [sl As s.length cs,sl Aw vv.length cw,sl Ad dd.length cd])::⟨22,1,Aw,vv.length,cw,vv,false⟩::(ri 3 Ad dd.length cd dd)::(rc 102 2 an [sl At s.length ct,sl Ap lx.length cp])::(ru 5 At s.length ct s)::⟨106,2,Ap,lx.length,cp,prs lx,false⟩::Rs) ?_ ?_
   ·refine bV 27 Z (λfj=> ?_) (λfj=> ?_)
    ·refine aC Z Z<|wm Z<|aC Z Z<|wm Z<|aC Z Z<|wy (fA zf TG Z Z (fk.c _) Z)<|aC Z Z<|wy (uV (off:=0) fw Z sz3 Z Z (fk.c _) G G)<|aC Z Z<|wy (JE ak Z Z (fk.c _) G G Z Z)<|aC Z Z<|wy (gU Z Z)<|wy (bB Z Z)<|aA ?_;exact⟨SA,λ_ h=>h⟩
    ·refine aP Z Z Z Z<|aP Z Z Z Z<|aP Z Z Z Z<|aP Z Z Z Z<|aP Z Z Z Z<|aP Z Z Z Z<|wy (aS Z Z)<|aA ?_;exact⟨SA,λ_ h=>h⟩
   refine wm Z<|dD 7 [(0,sl kd l.length ke),(3,PG an),(4,PG cm),(5,I i),(42, .bool (decide (((120<((s.length:Nat):Int))/\(((rdO l i).K)≠1))/\(((rdO l i).K)≠3))))] ((rc 54 3 cm [sl As s.length cs,sl Aw vv.length cw,sl Ad dd.length cd])::⟨22,1,Aw,vv.length,cw,vv,false⟩::(ri 3 Ad dd.length cd dd)::(rc 102 2 an [sl At s.length ct,sl Ap lx.length cp])::(ru 5 At s.length ct s)::⟨106,2,Ap,lx.length,cp,prs lx,false⟩::Rs) ?_ ?_
   ·refine bV 35 Z (λkl=> ?_) (λkl=> ?_)
    ·refine aC Z Z<|wm Z<|aC Z Z<|wm Z<|aC Z Z<|wy (fA zf TG Z Z (fk.c _) Z)<|aC Z Z<|wy (uV (off:=0) fw Z sz3 Z Z (fk.c _) G G)<|aC Z Z<|wy (JE ak Z Z (fk.c _) G G Z Z)<|aC Z Z<|wy (gU Z Z)<|wy (bB Z Z)<|aA ?_;exact⟨SA,λ_ h=>h⟩
    ·refine aP Z Z Z Z<|aP Z Z Z Z<|aP Z Z Z Z<|aP Z Z Z Z<|aP Z Z Z Z<|aP Z Z Z Z<|wy (aS Z Z)<|aA ?_;exact⟨SA,λ_ h=>h⟩
   refine wm Z<|dD 7 [(0,sl kd l.length ke),(3,PG an),(4,PG cm),(5,I i),(50, .bool (decide ((((120<((s.length:Nat):Int))/\(((rdO l i).K)≠1))/\(((rdO l i).K)≠3))/\(((rdO l i).K)≠5))))] ((rc 54 3 cm [sl As s.length cs,sl Aw vv.length cw,sl Ad dd.length cd])::⟨22,1,Aw,vv.length,cw,vv,false⟩::(ri 3 Ad dd.length cd dd)::(rc 102 2 an [sl At s.length ct,sl Ap lx.length cp])::(ru 5 At s.length ct s)::⟨106,2,Ap,lx.length,cp,prs lx,false⟩::Rs) ?_ ?_
   ·refine bV 43 Z (λmd=> ?_) (λmd=> ?_)
    ·refine aC Z Z<|wm Z<|aC Z Z<|wm Z<|aC Z Z<|wy (fA zf TG Z Z (fk.c _) Z)<|aC Z Z<|wy (uV (off:=0) fw Z sz3 Z Z (fk.c _) G G)<|aC Z Z<|wy (JE ak Z Z (fk.c _) G G Z Z)<|aC Z Z<|wy (gU Z Z)<|wy (bB Z Z)<|aA ?_;exact⟨SA,λ_ h=>h⟩
    ·refine aP Z Z Z Z<|aP Z Z Z Z<|aP Z Z Z Z<|aP Z Z Z Z<|aP Z Z Z Z<|aP Z Z Z Z<|wy (aS Z Z)<|aA ?_;exact⟨SA,λ_ h=>h⟩
   refine wm Z<|dD 7 [(0,sl kd l.length ke),(3,PG an),(4,PG cm),(5,I i),(58, .bool (decide (((((120<((s.length:Nat):Int))/\(((rdO l i).K)≠1))/\(((rdO l i).K)≠3))/\(((rdO l i).K)≠5))/\(((rdO l i).K)≠7))))] ((rc 54 3 cm [sl As s.length cs,sl Aw vv.length cw,sl Ad dd.length cd])::⟨22,1,Aw,vv.length,cw,vv,false⟩::(ri 3 Ad dd.length cd dd)::(rc 102 2 an [sl At s.length ct,sl Ap lx.length cp])::(ru 5 At s.length ct s)::⟨106,2,Ap,lx.length,cp,prs lx,false⟩::Rs) ?_ ?_
   ·refine bV 51 Z (λvt=> ?_) (λvt=> ?_)
    ·refine aC Z Z<|wm Z<|aC Z Z<|wm Z<|aC Z Z<|wy (fA zf TG Z Z (fk.c _) Z)<|aC Z Z<|wy (uV (off:=0) fw Z sz3 Z Z (fk.c _) G G)<|aC Z Z<|wy (JE ak Z Z (fk.c _) G G Z Z)<|aC Z Z<|wy (gU Z Z)<|wy (bB Z Z)<|aA ?_;exact⟨SA,λ_ h=>h⟩
    ·refine aP Z Z Z Z<|aP Z Z Z Z<|aP Z Z Z Z<|aP Z Z Z Z<|aP Z Z Z Z<|aP Z Z Z Z<|wy (aS Z Z)<|aA ?_;exact⟨SA,λ_ h=>h⟩
   refine aA<|bF Z (λz7=> ?_) (λz7=> ?_)
   ·refine aY<|aN<|wm Z<|wA Z Z<|wn Z ?_;exact⟨i+1,At,ct,s,Ap,cp,lx,As,cs,Aw,cw,vv,Ad,cd,dd,was,Rs,⟨G,G,G,G,G,G,G,G⟩,G,SA,λ_ h=>h⟩
   ·refine aL<|aD<|aQk (λi=>[9,10].contains i) (λ_:Unit=>[]) (λ_ h=>Hp.nilx h) mixed<|mJ 0 Z cA Z Z (aM Z)<|mJ 1 Z cA Z Z (aM Z)<|mJ 2 Z cA Z Z (aM Z)<|mJ 3 Z cA Z Z (fA zf TG Z Z (fk.c _) Z) ?_;have qu:=(Qc.at (i:=i) G G).1;refine mJ 4 Z cA Z Z (bDn fw Z TG Z (fk.c _) G G)<|mJ 6 Z cA Z Z (aM Z)<|mJ 7 Z cA Z Z (aM Z)<|mJ 8 Z cA Z Z (aM Z)<|aKr 9 Z cA Z Z (λ_=>fA zf TG Z Z (fk.c _) Z G G) ?_;have Fk:=(Qc.at (i:=i) G G).1;refine aKr 10 Z cA Z Z (λ_=>bDn fw Z TG Z (fk.c _) G G)<|bJc 5 Z cA (au cA) Z (aF bKk Z (Ct.pick [3,4,5,0,1,2] 6 cC Z (bCk (was:=was) (dd:=dd) Z Z hC Lc pc (λh=>G) G (qu.c _) rfl (Qc.at (i:=i) ar G).2 (by have:=Sj.2 i ar G;omega)))) ?_;rintro _ _ ⟨e1,fb,kt,s1,du,dp,l1,Zt,l9,rfl,rfl,hC1,Ro,hn1s,yk,hS1⟩;have hcl1:=hC1.len;refine⟨.inl cA,λ_ h=>Hp.nilx h,?_⟩;refine tH (R1:=((rc 102 2 an [sl fb s1.length kt,sl du l1.length dp])::(ru 5 fb s1.length kt s1)::⟨106,2,du,l1.length,dp,prs l1,false⟩::(rc 54 3 cm [sl As s.length cs,sl Aw vv.length cw,sl Ad dd.length cd])::⟨22,1,Aw,vv.length,cw,vv,false⟩::(ri 3 Ad dd.length cd dd)::Rs)) Z<|bJc 11 Z cA (au cA) Z (aF bPd Z (Ct.pick [3,4,5,0,1,2] 6 cC Z (aMa (X:=[(rc 102 2 an [sl fb s1.length kt,sl du l1.length dp]),(ru 5 fb s1.length kt s1),⟨106,2,du,l1.length,dp,prs l1,false⟩]) (T:=Rs) Z Z Z hT hW (by have:=hC.len;omega) hS1 Lc (λh=>G) (by have:=hC.len;omega) (Fk.c _) rfl (by have:=Sj.2 i ar G;omega)))) ?_;rintro _ _ ⟨Ua,dr,bh,jt,bx,o4,ia,ie,rfl,rfl,Wv,d9⟩;refine⟨.inl cA,λ_ h=>Hp.nilx h,?_⟩;refine tH (R1:=((rc 54 3 cm [sl dr s1.length bh,sl jt o4.length bx,sl ia l9.length ie])::⟨22,1,jt,o4.length,bx,o4,false⟩::(ri 3 ia l9.length ie l9)::(rc 102 2 an [sl fb s1.length kt,sl du l1.length dp])::(ru 5 fb s1.length kt s1)::⟨106,2,du,l1.length,dp,prs l1,false⟩::(Ua++Rs))) Z<|mJ 12 Z cA Z Z (Yl.f (gU Z Z) (λh=>h Z))<|mJ 13 Z cA Z Z (aM Z)<|uZ 14 Z cA Z Z Z Z (aM Z)<|uZ 17 Z cA Z Z Z Z (aM Z)<|uZ 18 Z cA Z Z Z Z (aG Z)<|uZ 19 Z cA Z Z Z Z (aB (off:=0) (m:=0) lh Z dA Z Z Z)<|uZ 20 Z cA Z Z Z Z (aK (rdr 0 Z) af Z Z Z)<|uZ 21 Z cA Z Z Z Z (zL af bg Hl Z (λ_ h=>Wv _ _ _ (h.right (R':=[_,_,_,_,_,_]))))<|aQi 15 Z cA (au cA) Z Z Z (aF bKh Z (Ct.pick [3,4,5,0,1,2] 6 cC Z (PW Z Z G))) ?_;rintro _ _ ⟨fa,rp,rfl,rfl⟩;refine⟨.inr λ_ h=>h.pickT [4,5,6,1,2,3] 7 cC Z,λ_ h=>Hp.nilx h,?_⟩;refine tH (R1:=((ru 5 fa s1.length rp s1)::(rc 102 2 an [sl fb s1.length kt,sl du l1.length dp])::(ru 5 fb s1.length kt s1)::⟨106,2,du,l1.length,dp,prs l1,false⟩::(rc 54 3 cm [sl dr s1.length bh,sl jt o4.length bx,sl ia l9.length ie])::⟨22,1,jt,o4.length,bx,o4,false⟩::(ri 3 ia l9.length ie l9)::(Ua++Rs))) Z<|uZ 16 Z cA Z Z Z Z (zL af bg Hl Z (rdr 0 Z))<|uZ 22 Z cA Z Z Z Z (Yl.f (bDl Z Z Ro Ro) (λh=>h Z))<|mJ 23 Z cA Z Z (aS Z Z)<|mJ 24 Z cA Z Z (aM Z)<|uZ 25 Z cA Z Z Z Z (aM Z)<|uZ 27 Z cA Z Z Z Z (aM Z)<|aQi 26 Z cA (au cA) Z Z Z (aF bKb Z (Ct.pick [1,2,3,0,4,5,6] 7 cC Z (MQ Z Z))) ?_;rintro _ _ ⟨rfl,rfl⟩;refine⟨.inr λ_ h=>h.pickT [3,0,1,2,4,5,6] 7 cC Z,λ_ h=>Hp.nilx h,?_⟩;refine tH (R1:=((rc 102 2 an [sl fb s1.length kt,sl du l1.length dp])::(ru 5 fb s1.length kt s1)::⟨106,2,du,l1.length,dp,prs l1,false⟩::(ru 5 fa s1.length rp s1)::(rc 54 3 cm [sl dr s1.length bh,sl jt o4.length bx,sl ia l9.length ie])::⟨22,1,jt,o4.length,bx,o4,false⟩::(ri 3 ia l9.length ie l9)::(Ua++Rs))) Z<|aQi 28 Z cA (au cA) Z Z Z (aF bPc Z (Ct.pick [4,5,6,0,1,2,3] 7 cC Z (YI Z Z Z))) ?_;rintro _ _ ⟨rfl,rfl⟩;refine⟨.inr λ_ h=>h.pickT [3,4,5,6,0,1,2] 7 cC Z,λ_ h=>Hp.nilx h,?_⟩;refine tH (R1:=((rc 54 3 cm [sl dr s1.length bh,sl jt o4.length bx,sl ia l9.length ie])::⟨22,1,jt,o4.length,bx,o4,false⟩::(ri 3 ia l9.length ie l9)::(rc 102 2 an [sl fb s1.length kt,sl du l1.length dp])::(ru 5 fb s1.length kt s1)::⟨106,2,du,l1.length,dp,prs l1,false⟩::(ru 5 fa s1.length rp s1)::(Ua++Rs))) Z<|uZ 29 Z cA Z Z Z Z (Yl.f (gU Z Z) (λh=>h G))<|mJ 30 Z cA Z Z (aS Z Z)<|aQh cA<|aJ Z<|aL<|aN<|wm Z<|wA Z Z<|wn Z ?_;exact⟨i+1,fb,kt,s1,du,dp,l1,dr,bh,jt,bx,o4,ia,ie,l9,Zt,(Ua++Rs),⟨G,G,G,G,G,G,G,G⟩,G,SA,λ_ h=>h.selR (F:=[_,_,_,_,_,_,_]) (F':=[_,_,_,_,_,_]) [0,1,2,3,4,5] cC Z⟩
  ·refine aY<|wq<|wm Z<|wy (GZ mo Z Z)<|wm Z<|aC Z Z<|wa (aF bPb Z (Ct.quiet (λw hw=>aFa))) ?_;rintro _ _ ⟨rfl,rfl⟩;refine wy (bB Z Z)<|wn Z<|bS (R1:=[]) (λ_ h=>(h.selR (F:=[_,_,_,_,_,_]) (F':=[]) [] cC Z).left (X:=[])) ?_;refine⟨_,Z,?_⟩;rfl
end Go.Proofs.YtdbebmmhdefgdaaGreat
namespace Go.Eng
open Go Go.ChangeShapes Go.WideShapes Go.RowKit
section
variable {H:Type} {enc:TypeId × Value->H} {P:Program} {w:World} {base:Nat} {spare:Nat->Bool} {held:Bool}
theorem aYz {t t0 t1 t3:TypeId} {cs:List Value} {c0 c1 c2 c3 c4 c5 c6:Value} {x:DataW H × List MemPlace} {ac:Nat} {f0 f1 f2 f3 g0 g1 g2 g3:Field} (hs:P.underlying t=some (.struct #[f0,f1,f2,f3])) (hg:P.underlying t3=some (.struct #[g0,g1,g2,g3]))
  (h0:f0.type=t0/\f1.type=t1/\f2.type=t0/\f3.type=t3/\f0.offset=0/\f1.offset=1/\f2.offset=2/\f3.offset=3) (h1:g0.type=t0/\g1.type=t0/\g2.type=t0/\g3.type=t0/\g0.offset=0/\g1.offset=1/\g2.offset=2/\g3.offset=3)
  (z0:P.cellsOf t0=1) (z1:P.cellsOf t1=1) (z3:P.cellsOf t3=4) (hi:P.underlying t0=some (.int .i64)) (hf:DataW.trod enc P w base spare held ac t [c0,c1,c2,c3,c4,c5,c6]=some x):
  ∃(K N p0 p1 p2 p3:Int) (n:Nat) (y:DataW H × List MemPlace),c0= .int .i64 K/\c2= .int .i64 N/\c3= .int .i64 p0/\c4= .int .i64 p1/\c5= .int .i64 p2/\c6= .int .i64 p3/\DataW.trod enc P w base spare held n t1 [c1]=some y:=by
 obtain⟨y0,y1,y2,y3,n,_,_,k0,k1,k2,k3⟩:=Go.Joins.trod_struct4 hs hf;obtain⟨a0,a1,a2,a3,b0,b1,b2,b3⟩:=h0;rw[a0,b0,z0] at k0;rw[a1,b1,z1] at k1;rw[a2,b2,z0] at k2;rw[a3,b3,z3] at k3;simp only[De,Ca,Ff,xw] at k0 k1 k2 k3;obtain⟨u0,u1,u2,u3,m,_,_,j0,j1,j2,j3⟩:=Go.Joins.trod_struct4 hg k3;obtain⟨a0,a1,a2,a3,b0,b1,b2,b3⟩:=h1;rw[a0,b0,z0] at j0;rw[a1,b1,z0] at j1;rw[a2,b2,z0] at j2;rw[a3,b3,z0] at j3;simp only[De,Ca,Ff,xw] at j0 j1 j2 j3;obtain⟨K,e0,_⟩:=Bh hi k0;obtain⟨N,e2,_⟩:=Bh hi k2;obtain⟨p0,d0,_⟩:=Bh hi j0;obtain⟨p1,d1,_⟩:=Bh hi j1;obtain⟨p2,d2,_⟩:=Bh hi j2;obtain⟨p3,d3,_⟩:=Bh hi j3;simp only[Ji,Au] at e0 e2 d0 d1 d2 d3;exact⟨K,N,p0,p1,p2,p3,n,y1,e0,e2,d0,d1,d2,d3,k1⟩
end
end Go.Eng
namespace Go.Eng
open Go Go.ChangeShapes Go.WideShapes Go.RowKit Go.Pure
theorem aMr {l:List OpR} {j:Nat} {v:Value} (hj:j<l.length*7) (h:(vV l)[j]? =some v):(aAt (rdO l ((j/7:Nat):Int)))[j%7]? =some v:=by
 have h1:j/7<l.length:=G
 rw[<-UJ (l:=l) (i:=((j/7:Nat):Int)) G G,ou G,ql];rw[show((j/7:Nat):Int).toNat*7+j%7=j by omega];exact h
theorem bJk {α:Type} {cs:List α} (h:cs.length=7): ∃c0 c1 c2 c3 c4 c5 c6,cs=[c0,c1,c2,c3,c4,c5,c6]:=by
 match cs,h with
 |[c0,c1,c2,c3,c4,c5,c6],_=>exact⟨c0,c1,c2,c3,c4,c5,c6,rfl⟩
section
variable {H:Type} {enc:TypeId × Value->H} {P:Program} {w:World} {base:Nat} {held:Bool}
theorem ops_open {t e t0 t1 t3 tb:TypeId} {cs:List Value} {x:DataW H × List MemPlace} {ac:Nat} {f0 f1 f2 f3 g0 g1 g2 g3:Field} (ht:P.underlying t=some (.slice e)) (hs:P.underlying e=some (.struct #[f0,f1,f2,f3])) (hg:P.underlying t3=some (.struct #[g0,g1,g2,g3]))
  (h0:f0.type=t0/\f1.type=t1/\f2.type=t0/\f3.type=t3/\f0.offset=0/\f1.offset=1/\f2.offset=2/\f3.offset=3) (h1:g0.type=t0/\g1.type=t0/\g2.type=t0/\g3.type=t0/\g0.offset=0/\g1.offset=1/\g2.offset=2/\g3.offset=3)
  (hc:P.cellsOf e=7) (z0:P.cellsOf t0=1) (z1:P.cellsOf t1=1) (z3:P.cellsOf t3=4) (zb:P.cellsOf tb=1) (hi:P.underlying t0=some (.int .i64)) (hd:P.underlying t1=some (.slice tb)) (hu:P.underlying tb=some (.int .u8)) (hf:DataW.trod enc P w base (λ_=>true) held ac t cs=some x):
  ∃(a:Option Addr) (cap:Nat) (l:List OpR),cs=[.slice a l.length cap]/\Rd w a l.length cap 7 (vV l)/\aCn w l:=by
 rcases Go.Deep.open_slice ht hf with⟨kp,_⟩|⟨a,len,cap,m,n,D,Pl,kp,_,hl,hm,hmm,_,te⟩
 ·exact⟨none,0,[],kp,⟨rfl,cC,di _,λj v hv=>by simp[vV] at hv⟩,λo ho=>by cases ho⟩
 simp only[Fu] at hmm;have Yd:=hmm.symm;subst Yd
 have each: ∀i,i<len-> ∃o:OpR,(∀q v,(aAt o)[q]? =some v->w.cell? (a.add (i*7+q))=some v)/\Rd w o.A o.d.length o.c 1 (ints .u8 o.d)/\aR o.d:=by
  intro i Xu;obtain⟨cs',qq,htr⟩:=te i G;rw[hc] at qq;obtain⟨_,hlen,hq⟩:=World.cells?_some qq;obtain⟨c0,c1,c2,c3,c4,c5,c6,rfl⟩:=bJk hlen;obtain⟨K,N,p0,p1,p2,p3,k,y,rfl,rfl,rfl,rfl,rfl,rfl,hy⟩:=aYz (cs:=[]) hs hg h0 h1 z0 z1 z3 hi htr
  obtain⟨A,c,d,hA,hr,hb⟩: ∃(A:Option Addr) (c:Nat) (d:List Int),c1= .slice A d.length c/\Rd w A d.length c 1 (ints .u8 d)/\ ∀x∈d,(Lit.int .u8 x).wf=true:=by
   rcases open_ints hd hu zb hy with⟨kp,_⟩|⟨x,l,c,zs,kp,_,hl,hm,hz,_,qq,Zf⟩
   ·simp only[Ji,Au] at kp;exact⟨none,0,[],kp,bAf _,λ_ h=>by cases h⟩
   ·simp only[Ji,Au] at kp;obtain⟨r,hr,r1,r2⟩:=bAe hl hm (by simpa using hz) qq Zf;exact⟨some x,c,r,by rw[kp,hr],r1,r2⟩
  subst hA;refine⟨⟨K,A,c,d,N,p0,p1,p2,p3⟩,λq v hv=> ?_,hr,wR hb⟩;have hq7:q<7:=(dw.1 hv).1;have:=hq q hq7;rw[add_add] at this;rw[this];exact hv
 obtain⟨f,Pe⟩:=Go.Deep.choose_lt each;have Uu:((List.range len).map f).length=len:=cD
 have ij: ∀i:Nat,i<len->rdO ((List.range len).map f) (i:Int)=f i:=λi h=>by
  unfold rdO;simp[ai,Af h]
 refine⟨some a,cap,(List.range len).map f,by rw[Uu];exact kp,⟨sF _,by rw[Uu];unfold maxLen at hm;omega,by rw[Uu];exact hl,λj v hv=>⟨a,rfl,?_⟩⟩,λo ho=> ?_⟩
 ·have hj:j<((List.range len).map f).length*7:=by
   rw[<-sF];exact(dw.1 hv).1
  have h2:=aMr hj hv;rw[Uu] at hj;rw[ij _ G] at h2;have:=(Pe (j/7) G).1 _ _ h2;rwa[show j/7*7+j%7=j by omega] at this
 ·obtain ⟨i,Mm,rfl⟩:=iy.1 ho;exact(Pe i (jq.1 Mm)).2
end
end Go.Eng
