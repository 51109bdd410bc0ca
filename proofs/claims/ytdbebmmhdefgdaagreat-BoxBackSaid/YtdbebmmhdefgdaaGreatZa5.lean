/- Own work. -/
import Derived.Lib.AppendZeros
import Derived.Maps.AppendAt
import Derived.Shelf.Abstract
import Derived.WalkKit
import Derived.OwnWalkIn
import Derived.TacticsInMore
import Derived.LoopNIn
import Derived.LoopIn
import Derived.Test.YtdbebmmhdefgdaaGreatProg
import Derived.Sort.QuietTacIn
import Derived.Test.YtdbebmmhdefgdaaGreatZa4
set_option linter.unusedVariables false
set_option linter.unusedSimpArgs false
set_option maxHeartbeats 8000000
namespace Go.Proofs.YtdbebmmhdefgdaaGreat
open Go Go.Eng Go.Pure
open Tryz
set_option maxRecDepth 100000
variable {w:World} {u:AH} {ws:AD} {i:Int} {l lr:List RC}
theorem aYq {B:Nat} {w0:World} {R:List Row} (x y:Nat) (hx:x<=1000000) (hy:y<=1000000) (h:x*y<=1000000):CT 122 #[.int .u64 (x:Int), .int .u64 (y:Int)] B w0 R (λv R'=>v= .tuple #[.int .u64 0, .int .u64 ((x*y:Nat):Int)]/\R'=R):=by
 intro w hw;have hc:=Tryz.bits_Mul x y G G w;rw[Ev G,mf G] at hc;refine hc.mono ?_;rintro e w' ⟨rfl,rfl⟩;exact⟨_,R,Z,hw,Z,Z⟩
theorem OC {p:Int} (h:0<=p/\p<=18446744073709551615):IntKind.u64.wrap p=p:=by rw[Jd];omega
theorem JS {an:AF} {ar am:Nat} {cn:Int} (al:Rd w an ar am 1 (ints .u8 u)) (hu:0<u.length) (hc:1<=cn) (hP:cn.toNat*u.length<=8000):
  CF 72 #[sl an ar am,I cn] w (λv R'=> ∃A c,v=sl A (rep u cn).length c/\R'=[⟨5,1,A,(rep u cn).length,c,ints .u8 (rep u cn),true⟩]):=by
 obtain rfl:=al.lenI;refine fn1 Tryz.func72 Z Z Z ?_;have mv:=al.max;obtain⟨N,Xz⟩: ∃N:Nat,u.length*cn.toNat=N:=⟨_,rfl⟩;have hN2:cn.toNat*u.length=N:=by rw[zt];exact Xz
 have hN3:u.length<=N:=by rw[<-hN2];exact Dw _ G
 have hN4:cn.toNat<=N:=by rw[<-Xz];exact Dw _ hu
 refine wq<|wn Z<|aD<|wq<|wm Z<|wy (Yl.f (gT Z Z))<|aA<|aN Z<|aH<|aD<|wq ?_;refine wm Z<|wy (Yl.f (fO Z Z))<|aA<|aN Z<|aH<|wq<|wm Z<|wy (aO ah Z)<|wy (Yl.is (qF au Ck Z) (by rw[OC G])) ?_;refine wm Z<|wy (Yl.is (qF au Ck Z) (show Value.int .u64 (IntKind.u64.wrap cn)=Value.int .u64 (cn.toNat:Int) from by rw[OC G,lc G]))<|wa (aC bCr rfl (aYq u.length cn.toNat G G G)) ?_;rw[Xz];rintro _ _⟨rfl,rfl⟩;refine wm Z<|wX Z Z<|wX Z Z<|wg Z<|wn Z<|aD<|wq<|wm Z<|wy (Yl.f (dN Z Z))<|wm Z<|aB Z Z<|wm Z<|aB Z Z ?_;refine wy (Yl.f (dN Z Z))<|wy (aP Z Z)<|aA<|aN Z<|aH<|wq<|wm Z<|wy (jJ Ck au Z)<|wn Z<|aD<|wq<|wm Z ?_;refine wy (aO ah Z)<|wy (Yl.f (gT Z Z))<|aA<|aN Z<|aH<|wq<|wm Z<|wn Z<|aD<|wq<|wm Z<|wy (Yl.f (dN Z Z)) ?_;refine aA<|aN Z<|aH<|wq<|wm Z<|wa (aWa (m:=N) (ps:= #[3]) Tryz.func123 cA cA cA cA ah Z G) ?_;rintro _ _⟨ao,C_2,hC,rfl,rfl⟩;refine wm Z<|wm Z<|wy (aIo (h:=N) ah sz5 Z Z Z Z Z hC)<|wn Z<|wq<|wm Z<|wm Z<|wa (RL (dl:=N) 0 Z ah sz5 Z Z (Z) G (al.c _)) ?_;rintro _ _⟨rfl,rfl⟩;refine wn Z<|aD<|aI ?_;refine gW (λ(p:Int) (n1:Nat) (D:AH)=>[(7,I (N:Int)),(8,I (N:Int)),(9,sl (GG ao) N N),(10,I p)]) (λp n1 D=>[(ru 5 (GG ao) n1 C_2 D)]) (λp n1 D=>(n1=D.length)/\(UO u D N p)) (λp n1 D=>(N-p).toNat) ?_ ?_
 ·exact⟨((min u.length N:Nat):Int),(0+min u.length N),([])++List.take (min u.length N) u,⟨(by rw[ig,ax];omega),(UO.init hN3)⟩,KP⟩
 intro p n1 D ⟨dp,hI⟩;have hI1:=hI.p0;have hI2:=hI.pN;have hI3:=hI.len;have hI4:=hI.up;refine aD<|wq<|wm Z<|wm Z<|wL Z Z<|aA<|bA Z (λbc=> ?_) (λbc=> ?_)
 ·refine aH<|aI<|wq<|wm Z<|wm Z<|wy (uP Z Z)<|wn Z<|bL mixed<|wD 0 Z (aK Z)<|wD 1 Z (aK Z)<|wD 2 Z (aK Z)<|wD 3 Z (fJ ah sz5 Z Z)<|wD 4 Z (aK Z) ?_;refine wD 5 Z (aK Z)<|wD 6 Z (aNx ah sz5 Z Z G G)<|wC 7 Z (RL (dl:=(N-(p).toNat)) 0 Z ah sz5 Z Z (by rw[YW G,show p.toNat=n1 by omega]) G (RdC.capI (RdC.toI (rdr 0 Z) G) G)) ?_;rintro _ _⟨rfl,rfl⟩;refine⟨.inl cA,?_⟩;refine wD 8 Z (dK Z Z)<|wD 9 Z (bB Z)<|wN ?_;exact⟨p+((min ((min p (N:Int)).toNat) (N-(p).toNat):Nat):Int),(n1+min ((min p (N:Int)).toNat) (N-(p).toNat)),D++List.take (min ((min p (N:Int)).toNat) (N-(p).toNat)) ((D).take (min p (N:Int)).toNat),⟨(by rw[ai,ax,ax];omega),(hI.step hu G)⟩,G,KP⟩
 ·refine aS<|wq<|wm Z<|wn Z ?_;obtain rfl:=dp;obtain rfl:=hI.done G hN2.symm;have Rl:(rep u cn).length=N:=by rw[nK];omega
  refine bN (R1:=[⟨5,1,GG ao,(rep u cn).length,(rep u cn).length,ints .u8 (rep u cn),true⟩]) (λ_ h=>h.toRo cD (dn _)) ?_;rw[<-Rl];exact⟨_,Z,_,_,Z,Z⟩
theorem jB (h0:0<=i) (h1:i<ws.length):rdl ws i∈ws:=by
 unfold rdl;rw[af,av G];exact ky _
theorem fD (h0:0<=i) (h1:i<ws.length):ws.take (i+1).toNat=ws.take i.toNat++[rdl ws i]:=by
 rw[show(i+1).toNat=i.toNat+1 by omega,qc,av G];unfold rdl;rw[af,av G];rfl
theorem aRi (x y:AH) (a b:Int):orL [cmpL x y,kG a b]=jP (x,a) (y,b):=by
 unfold jP orL orL orL;simp only;split
 ·rfl
 ·split
  ·rfl
  ·omega
theorem aKa {A:AF} {c:Nat} (h0:0<=i) (h1:i<ws.length) (hl:l.map RC.rt=cZ (ws.take i.toNat)) (ht:0<gF (lw (rdl ws i))):(l++[(⟨A,c,jO (lw (rdl ws i)),gF (lw (rdl ws i))⟩:RC)]).map RC.rt=cZ (ws.take (i+1).toNat):=by
 have hp:0<(rdl ws i).length:=by
  rcases fe (rdl ws i).length with z|z
  ·rw [dx z] at ht;simp[bEm,gF] at ht
  ·exact z
 rw[jc,hl,fD h0 h1,jX];congr 1;unfold cZ;simp[hp,RC.rt,nJ]
theorem aQa (h0:0<=i) (h1:i<ws.length) (hl:l.map RC.rt=cZ (ws.take i.toNat)) (ht: ¬0<gF (lw (rdl ws i))):l.map RC.rt=cZ (ws.take (i+1).toNat):=by
 have hp:(rdl ws i).length=0:=by
  rcases fe (rdl ws i).length with z|z
  ·exact z
  ·exact absurd (pW (c:=lw (rdl ws i)) (by rw[jQ];exact z)) ht
 rw[hl,fD h0 h1,jX];unfold cZ;simp[hp]
theorem oM (ws:AD):(cZ ws).length<=ws.length:=by
 unfold cZ;rw[az];exact xm _ _
theorem vS (h:aL u):aL (lw u):=aL.append (h.drop _) (h.take _)
theorem aSr:Go.Sort.SWO (Go.Proofs.ltOf λx y:RC=>jP x.rt y.rt):=by
 have e: ∀x y:RC,Go.Proofs.ltOf (λx y:RC=>jP x.rt y.rt) x y=true↔jP x.rt y.rt<0:=λx y=>by simp[Go.Proofs.ltOf]
 have e': ∀x y:RC,Go.Proofs.ltOf (λx y:RC=>jP x.rt y.rt) x y=false↔jP y.rt x.rt<=0:=λx y=>by
  rw[<-Bool.not_eq_true,e,qB x.rt y.rt];omega
 refine⟨λx=> ?_,λx y z h1 h2=> ?_,λx y z h1 h2=> ?_⟩
 ·rw[e',(TH x.rt x.rt).2 rfl];omega
 ·rw [e] at h1 h2 ⊢;have h3:=IA x.rt y.rt z.rt G G;rcases Aj h3 with g|g
  ·exact g
  ·have g2:=(TH _ _).1 g;rw[g2,qB y.rt z.rt] at h1;omega
 ·rw [e'] at h1 h2 ⊢;exact IA _ _ _ h2 h1
theorem aXs {ws:AD} {M:Nat} (hl:lr.map RC.rt=iT ws) (hM: ∀w∈ws,w.length<=M) {r:RC} (hr:r∈lr):0<r.root.length/\1<=r.times/\r.times.toNat*r.root.length<=M:=by
 have h1:r.rt∈iT ws:=by rw[<-hl];exact List.mem_map_of_mem hr
 obtain⟨w,hw,hp,e⟩:=sV h1;have cv:0<(lw w).length:=by rw[jQ];exact hp
 have e1:r.root=jO (lw w):=bg Prod.fst e;have e2:r.times=gF (lw w):=bg Prod.snd e;have h2:=zY cv;have h3:=oL cv;have h4:=pW cv;have h5:=bg List.length (rM cv);rw[nK,jQ] at h5;rw[e1,e2];exact⟨G,G,by rw[h5];exact hM w hw⟩
theorem aDz (h0:0<=i) (h1:i<lr.length):(lr.take (i+1).toNat).map (λr=>rep r.root r.times)=(lr.take i.toNat).map (λr=>rep r.root r.times)++[rep (rdG lr i).root (rdG lr i).times]:=by
 rw[show(i+1).toNat=i.toNat+1 by omega,qc,av G,jc];unfold rdG;rw[af,av G];rfl
theorem aEa (hl:lr.map RC.rt=iT ws) (hi:(lr.length:Int)<=i):(lr.take i.toNat).map (λr=>rep r.root r.times)=canon ws:=by
 rw[bi G];unfold canon;rw[<-hl,rq];rfl
theorem aBs {m5:AF} {m9:Nat} {x:AH} {Wy:Int} {A_y:AF} {c_y:Nat} {y:AH} {Wz:Int} (kp:Rd w m5 x.length m9 1 (ints .u8 x)) (h_y:Rd w A_y y.length c_y 1 (ints .u8 y)) (m6:aL x) (Xg:aL y):
  CF 118 #[.agg #[sl m5 x.length m9,I Wy], .agg #[sl A_y y.length c_y,I Wz]] w (λv R'=>v=I (jP (x,Wy) (y,Wz))):=by
 refine fn1 Tryz.func118 Z Z Z ?_;refine wq<|wa (dC (sz:=2) Z Z) ?_;rintro _ _⟨ao,rfl,rfl⟩;refine wa (dC (sz:=2) Z Z) ?_;rintro _ _⟨ew,rfl,rfl⟩;refine wn Z<|aD<|bL mixed<|wD 0 Z (yF 0 0 yc dP Z)<|wD 1 Z (yL 1 ah Z Z Z)<|wD 2 Z (yF 0 0 yc dP Z)<|wD 3 Z (yL 0 ah Z Z Z)<|wD 5 Z (yF 1 1 yc sz3 Z)<|wD 6 Z (yL 1 au Z Z Z)<|wD 7 Z (yF 1 1 yc sz3 Z)<|wD 8 Z (yL 0 au Z Z Z)<|wC 4 Z (aC bCs Z (Ct.quiet (λw hw=>CB ((kp.c _) w hw) ((h_y.c _) w hw) m6 Xg))) ?_;rintro _ _⟨rfl,rfl⟩;refine⟨.inr hiZ,?_⟩;refine wC 9 Z (aC YR Z (Ct.quiet (λw hw=>oV))) ?_;rintro _ _⟨rfl,rfl⟩;refine⟨.inr hiZ,?_⟩;refine wC 10 Z (bQ .i64 [cmpL x y,kG Wy Wz] aa zs3 Z Z Z) ?_;rintro _ _⟨fd,rfl,rfl⟩;refine⟨.inr hrZ,?_⟩;refine wC 11 Z (aC bCt Z (Ct.quiet (λw hw=>aRj ((rdr 0 Z) w hw)))) ?_;rintro _ _⟨rfl,rfl⟩;refine⟨.inr hiZ,?_⟩;refine wD 12 Z (bB Z)<|wN<|aX [] 99 cC Z ?_;refine⟨_,Z,?_⟩;exact bg (Value.int .i64) (aRi x y Wy Wz)
theorem aBg (cb:Array Value):aWd Tryz.prog 117 118 cb 2:=λα _ enc hk h1 cf hO du off cap d w rh hH hblk hsz=>
 AnyQ.slices_SortFunc Tryz.laysRing 2 (λw=>cA) (λw=>cA) enc hk h1 cf hO 118 cb du off cap d w bJo rh hH hblk hsz
theorem VW:xU Tryz.prog 117:=λp cap fv w=>AnyF.slices_SortFunc_none Tryz.laysRing p cap fv w
theorem WK {w:World} {bl:AF} {cm bm:Nat} {ap:AG} {ws:AD} (ba:Rd w bl cm bm 1 ap) (bp:SlW .u8 w ap ws) (hN:(∀w∈ws,w.length<=8000)/\ws.length<=100000):
  CF 71 #[sl bl cm bm] w (λv R'=> ∃(A:AF) (c:Nat) (l:List RC) (Rs:List Row),v=sl A l.length c/\RgR Rs l/\l.map RC.rt=iT ws/\R'=⟨117,2,A,l.length,c,rgs l,false⟩::Rs):=by
 obtain rfl:cm=ws.length:=by have:=ba.len;have:=bp.1;omega
 refine fn1 Tryz.func71 Z Z Z ?_;have ob:=ba.max;have Nz:=bp.okB;refine wq<|wn Z<|wq<|bR (R1:=(⟨117,2,none,0,0,rgs ([]),false⟩::[])) (Sub.refl _) (λ_ h=>h.nil 117 2)<|wn Z<|aD<|wq<|wm Z<|wy (aO ay Z)<|wm Z ?_;refine aA<|aI ?_;refine pJ (λ(i:Int) (A1:AF) (n1:Nat) (c1:Nat) (l:List RC) (Rs:List Row)=>[(3,sl A1 n1 c1),(8,sl bl ws.length bm),(9,I (ws.length:Int)),(10,I i)]) (λi A1 n1 c1 l Rs=>(⟨117,2,A1,n1,c1,rgs l,false⟩::Rs)) (λi A1 n1 c1 l Rs=>(0<=i)/\(i<=ws.length)/\(n1=l.length)/\(RgR Rs l)/\(l.map RC.rt=cZ (ws.take i.toNat))) (λi A1 n1 c1 l Rs=>(ws.length-i).toNat) ?_ ?_
 ·exact⟨0,none,0,0,[],[],⟨G,G,(Z),(RgR.nil _),(Z)⟩,KP⟩
 intro i A1 n1 c1 l Rs ⟨bb,ij,dp,f7,hl⟩;have ua:=bg List.length hl;rw[az] at ua;have Wk:=oM (ws.take i.toNat);rw[ax] at Wk;have j4:0<=i->i<ws.length->(rdl ws i).length<=8000:=λh h'=>hN.1 _ (jB h h');refine wq<|wL Z Z<|aA<|aD<|bA Z (λbc=> ?_) (λbc=> ?_)
 ·have Ve:=j4 bb G;refine aH<|aD<|aI<|wq<|wy (aG ay dP Z Z (ba.c _)) ?_;refine bp.elim (i:=i) G G (λcr co rm wi a7 xo=> ?_);refine wy (pI ah Z Z Z (ba.c _) rm)<|wn Z<|wq<|wm Z<|wa (aC bJq Z (Ct.fresh (λw hw=>bEg ((wi.c _) w hw) (byteL_wf a7) G))) ?_;rintro _ _⟨_,rfl,fh,kh,rfl,rfl⟩;refine wa (aC bJr Z (Ct.fresh (λw hw=>aPt ((rdr 0 Z) w hw) (by rw[jQ];omega)))) ?_;rintro _ _⟨_,rfl,en,cj,rfl,rfl⟩;refine wm Z<|wX Z Z<|wX Z Z<|wg Z<|wn Z<|wq<|wm Z<|wy (dN Z Z)<|aA<|bA Z (λda=> ?_) (λda=> ?_)
  ·refine aJ<|wm Z<|wm Z<|wm Z<|wy (gV (v:= .agg #[sl en ((jO (lw (rdl ws i))).length) cj,I (gF (lw (rdl ws i)))]) Z (λw=>cA))<|wa (bFr ⟨en,cj,jO (lw (rdl ws i)),gF (lw (rdl ws i))⟩ Cj bGc rfl) ?_;rintro _ _⟨n5,rfl,rfl⟩;refine wa (aNu 3 Z Cj bGd Z Z Z Z (rdr 0 Z) G) ?_;rintro _ _⟨fa,fb,rfl,rfl⟩;refine bK (v:=sl fa (n1+1) fb) Z<|wn Z<|aJ<|wA Z Z<|wm Z<|aA ?_;exact⟨i+1,fa,n1+1,fb,l++([⟨en,cj,jO (lw (rdl ws i)),gF (lw (rdl ws i))⟩]),((ru 5 en ((jO (lw (rdl ws i))).length) cj (jO (lw (rdl ws i))))::Rs),⟨G,G,(by rw[ai,dp];rfl),(f7.snoc Z (aL.take (vS (Nz _ (jB bb G)).1) _)),(aKa bb G hl cF)⟩,G,SA,λ_ h=>h.selR (F:=[_,_,_,_]) (F':=[_,_]) [3,1] cC Z⟩
  ·refine aH<|aJ<|wA Z Z<|wm Z<|aA ?_;exact⟨i+1,A1,n1,c1,l,Rs,⟨G,G,(dp),(f7),(aQa bb G hl cF)⟩,G,SA,λ_ h=>h.selR (F:=[_,_,_]) (F':=[_]) [2] cC Z⟩
 ·obtain rfl:=dp;obtain rfl:i=ws.length:=G
  rw[bq,qa] at hl;refine aS<|wq<|wm Z<|wa (aC bJp Z (aBi (enc:=encR) (aBg _) VW (λ_=>Z) aTs (l:=l) 0 Z G (λx y=>jP x.rt y.rt) aSr (λW hW x hx y hy=>aBs ((f7 x hx).2 _ _ _ hW) ((f7 y hy).2 _ _ _ hW) (f7 x hx).1 (f7 y hy).1))) ?_;rintro _ _⟨rfl,l1,qn,xl,rfl⟩;rw[<-qn.length_eq];refine aA<|wq<|wm Z<|wn Z<|bN (R1:=(⟨117,2,A1,l1.length,c1,rgs l1,false⟩::Rs)) hiZ ?_;exact⟨_,Z,_,_,l1,Rs,Z,f7.perm qn,DK ((qn.map RC.rt).trans (by rw[hl])) (ib.2 (xl.imp λ{a b} h=>by rw[qB a.rt b.rt] at h;omega)),rfl⟩
variable {w:World} {bl:AF} {cm bm:Nat} {ap:AG} {ws:AD} {lr:List RC} {i:Int}
theorem RB {w:World} {ws:AD} (ba:Rd w bl cm bm 1 ap) (bp:SlW .u8 w ap ws) (hN:(∀w∈ws,w.length<=8000)/\ws.length<=100000):
  CF 39 #[sl bl cm bm] w (λv R'=> ∃(A:AF) (c:Nat) (vals:AG) (Rs:List Row),v=sl A vals.length c/\SlR .u8 Rs vals (canon ws)/\R'=⟨22,1,A,vals.length,c,vals,false⟩::Rs):=by
 obtain rfl:cm=ws.length:=by have:=ba.len;have:=bp.1;omega
 refine fn1 Tryz.func39 Z Z Z ?_;have ob:=ba.max;refine wq<|wn Z<|wq<|bR (R1:=(⟨22,1,none,0,0,[],false⟩::[])) (Sub.refl _) (λ_ h=>h.nil 22 1)<|wn Z<|aD<|wq<|wm Z<|wa (aC bHc Z (Ct.fresh (λw hw=>WK ((ba.c _) w hw) (bp.c hw) cE))) ?_;rintro _ _⟨_,rfl,cr,co,fj,vd,rfl,xj,xf,rfl⟩;refine bR (R1:=(⟨117,2,cr,fj.length,co,rgs fj,false⟩::⟨22,1,none,0,0,[],false⟩::vd)) (Sub.refl _) (λ_ h=>Hp.toTail0 (X:=[_]) (Y:=[_]) h)<|wy (aO Cj Z)<|wm Z<|aA<|aI ?_;refine GL (λ(i:Int) (A1:AF) (n1:Nat) (c1:Nat) (vals:AG) (ls:AD) (Rs:List Row)=>[(3,sl A1 n1 c1),(7,sl cr fj.length co),(8,I (fj.length:Int)),(9,I i)]) (λi A1 n1 c1 vals ls Rs=>(⟨117,2,cr,fj.length,co,rgs fj,false⟩::⟨22,1,A1,n1,c1,vals,false⟩::Rs)) (λi A1 n1 c1 vals ls Rs=>(0<=i)/\(i<=fj.length)/\(n1=vals.length)/\(SlR .u8 Rs vals ls)/\(RgR Rs fj)/\(ls=(fj.take i.toNat).map (λr=>rep r.root r.times))) (λi A1 n1 c1 vals ls Rs=>(fj.length-i).toNat) ?_ ?_
 ·exact⟨0,none,0,0,[],[],vd,⟨G,G,(Z),(SlR.nilR _ _),(xj),(Z)⟩,KP⟩
 intro i A1 n1 c1 vals ls Rs ⟨bb,ij,dp,ka,f7,yy⟩;have ua:=bg List.length yy;rw[az,ax] at ua;have Od:=ka.1;have mt:0<=i->i<fj.length->0<(rdG fj i).root.length/\1<=(rdG fj i).times/\(rdG fj i).times.toNat*(rdG fj i).root.length<=8000:=λh h'=>aXs xf hN.1 (xI h h');have Pi:fj.length<=ws.length:=by have h1:=bg List.length xf;rw[az,(iE ws).length_eq] at h1;have h2:=oM ws;omega
 refine wq<|wL Z Z<|aA<|aD<|bA Z (λbc=> ?_) (λbc=> ?_)
 ·have Qa:=mt bb G;refine aH<|aD<|aI<|wq<|wy (tO Cj OS Z Z (rdr 0 Z) Z) ?_;have Mt:=(f7 _ (xI (l:=fj) (i:=i) G G)).2;refine wy (bBk yc Z OS Z (rdr 0 Z) G G)<|wa (eH (sz:=2) bBd Z) ?_;rintro _ _⟨zj,rfl,rfl⟩;refine bY (dO (vs:=[sl ((rdG fj i).A) ((rdG fj i).root.length) ((rdG fj i).c),I ((rdG fj i).times)]) 0 Z OS Z Z Z (by intro v hv;simp at hv;rcases hv with rfl|rfl<;>rfl) Z) ?_;rintro _ _ rfl;refine aA<|aJ<|wm Z<|wy (yF 0 0 yc dP Z)<|wy (yL 0 ah Z Z Z)<|wy (yF 1 1 yc sz3 Z)<|wy (yL 0 au Z Z Z)<|wa (aC bHb Z (Ct.fresh (λw hw=>JS ((λ_ h=>Mt _ _ _ (h.right (R':=[_,_,_]))) w hw) Qa.1 Qa.2.1 Qa.2.2))) ?_;rintro _ _⟨_,rfl,gd,ce,rfl,rfl⟩;refine wa (iA [Value.slice gd ((rep ((rdG fj i).root) ((rdG fj i).times)).length) ce] ay mJ Z Z Z Z) ?_;rintro _ _⟨Cl,rfl,rfl⟩;refine wa (eY 4 Z Z ay xV Z Z Z Z Z (rdr 0 Z) (by simp[Value.oneCell']) (by dsimp only;omega)) ?_;rintro _ _⟨oe,ot,rfl,rfl⟩;refine bK (v:=sl oe (n1+1) ot) Z<|wn Z<|aJ<|wA Z Z<|wm Z<|aA ?_;exact⟨i+1,oe,n1+1,ot,vals++([Value.slice gd ((rep ((rdG fj i).root) ((rdG fj i).times)).length) ce]),(ls++[rep (rdG fj i).root (rdG fj i).times]),(⟨5,1,gd,(rep ((rdG fj i).root) ((rdG fj i).times)).length,ce,ints .u8 (rep ((rdG fj i).root) ((rdG fj i).times)),true⟩::Rs),⟨G,G,(by rw[ai,dp];rfl),(ka.snoc Z),(f7.right [_]),(by rw[aDz bb G,<-yy])⟩,G,SA,λ_ h=>h.selR (F:=[_,_,_,_,_]) (F':=[_,_,_]) [3,4,1] cC Z⟩
 ·refine aS<|wq<|wm Z<|wn Z ?_;obtain rfl:ls=canon ws:=by rw[yy];exact aEa xf G
  refine aX [1] 2 cC Z ?_;refine⟨_,Z,?_⟩;subst dp;exact⟨_,_,vals,Rs,Z,ka,Z⟩
theorem xB {β:Type} (f:RC->β) (h0:0<=i) (h1:i<lr.length):(lr.take (i+1).toNat).map f=(lr.take i.toNat).map f++[f (rdG lr i)]:=by
 rw[show(i+1).toNat=i.toNat+1 by omega,qc,av G,jc];unfold rdG;rw[af,av G];rfl
theorem aXk (hl:lr.map RC.rt=iT ws) (hi:(lr.length:Int)<=i):(lr.take i.toNat).map RC.root=(iT ws).map Prod.fst/\(lr.take i.toNat).map RC.times=(iT ws).map Prod.snd:=by
 rw[bi G,<-hl,rq,rq];exact⟨Z,Z⟩
theorem aJz {w:World} {ws:AD} (ba:Rd w bl cm bm 1 ap) (bp:SlW .u8 w ap ws) (hN:(∀w∈ws,w.length<=8000)/\ws.length<=100000):
  CF 199 #[sl bl cm bm] w (λv R'=> ∃(A:AF) (c:Nat) (A2:AF) (c2:Nat) (vals:AG) (Rs:List Row),v= .tuple #[sl A vals.length c,sl A2 ((iT ws).map Prod.snd).length c2]/\SlR .u8 Rs vals ((iT ws).map Prod.fst)/\R'=⟨22,1,A,vals.length,c,vals,false⟩::(ri 3 A2 (((iT ws).map Prod.snd).length) c2 ((iT ws).map Prod.snd))::Rs):=by
 obtain rfl:cm=ws.length:=by have:=ba.len;have:=bp.1;omega
 refine fn2 Tryz.func199 Z Z Z ?_;have ob:=ba.max;refine wq<|bR (R1:=(⟨22,1,none,0,0,[],false⟩::[])) (Sub.refl _) (λ_ h=>h.nil 22 1)<|wg Z<|bR (R1:=((ri 3 none 0 0 ([]))::⟨22,1,none,0,0,[],false⟩::[])) (Sub.refl _) (λ_ h=>h.nil 3 1)<|wn Z<|aD<|wq<|wm Z<|wa (aC bHc Z (Ct.fresh (λw hw=>WK ((ba.c _) w hw) (bp.c hw) cE))) ?_;rintro _ _⟨_,rfl,cr,co,fj,vd,rfl,xj,xf,rfl⟩;refine bR (R1:=(⟨117,2,cr,fj.length,co,rgs fj,false⟩::(ri 3 none 0 0 ([]))::⟨22,1,none,0,0,[],false⟩::vd)) (Sub.refl _) (λ_ h=>Hp.toTail0 (X:=[_]) (Y:=[_,_]) h)<|wy (aO Cj Z)<|wm Z<|aA<|aI ?_;refine UY (λ(i:Int) (A1:AF) (n1:Nat) (c1:Nat) (vals:AG) (ls:AD) (A2:AF) (n2:Nat) (c2:Nat) (ts:AH)=>[(2,sl A1 n1 c1),(3,sl A2 n2 c2),(7,sl cr fj.length co),(8,I (fj.length:Int)),(9,I i)]) (λi A1 n1 c1 vals ls A2 n2 c2 ts=>(⟨117,2,cr,fj.length,co,rgs fj,false⟩::(ri 3 A2 n2 c2 ts)::⟨22,1,A1,n1,c1,vals,false⟩::vd)) (λi A1 n1 c1 vals ls A2 n2 c2 ts=>(0<=i)/\(i<=fj.length)/\(n1=vals.length)/\(n2=ts.length)/\(SlR .u8 vd vals ls)/\(ls=(fj.take i.toNat).map RC.root)/\(ts=(fj.take i.toNat).map RC.times)) (λi A1 n1 c1 vals ls A2 n2 c2 ts=>(fj.length-i).toNat) ?_ ?_
 ·exact⟨0,none,0,0,[],[],none,0,0,[],⟨G,G,(Z),(Z),(SlR.nilR _ _),(Z),(Z)⟩,KP⟩
 intro i A1 n1 c1 vals ls A2 n2 c2 ts ⟨bb,ij,dp,nw,ka,yy,Of⟩;have ua:=bg List.length yy;rw[az,ax] at ua;have bo:=bg List.length Of;rw[az,ax] at bo;have Od:=ka.1;have Pi:fj.length<=ws.length:=by have h1:=bg List.length xf;rw[az,(iE ws).length_eq] at h1;have h2:=oM ws;omega
 refine wq<|wL Z Z<|aA<|aD<|bA Z (λbc=> ?_) (λbc=> ?_)
 ·refine aH<|aD<|aI<|wq<|wy (tO Cj OS Z Z (rdr 0 Z) Z) ?_;have Mt:=(xj _ (xI (l:=fj) (i:=i) G G)).2;refine wy (bBk yc Z OS Z (rdr 0 Z) G G)<|wa (eH (sz:=2) bBd Z) ?_;rintro _ _⟨zj,rfl,rfl⟩;refine bY (dO (vs:=[sl ((rdG fj i).A) ((rdG fj i).root.length) ((rdG fj i).c),I ((rdG fj i).times)]) 0 Z OS Z Z Z (by intro v hv;simp at hv;rcases hv with rfl|rfl<;>rfl) Z) ?_;rintro _ _ rfl;refine aA<|GJ (Rc:=((rc 117 2 zj [sl ((rdG fj i).A) ((rdG fj i).root.length) ((rdG fj i).c),I ((rdG fj i).times)])::vd)) mixed (λ_ h=>h.selR (F:=[_,_,_,_]) (F':=[_]) [0] cC Z) ?_;refine jM 0 Z cA Z (aK Z) ?_;refine jM 1 Z cA Z (yF 0 0 yc dP Z) ?_;refine jM 2 Z cA Z (yL 0 ah Z Z Z) ?_;refine jM 5 Z cA Z (aK Z) ?_;refine jM 6 Z cA Z (yF 1 1 yc sz3 Z) ?_;refine jM 7 Z cA Z (yL 0 au Z Z Z) ?_;refine aVe 3 8 cA ?_ ?_
  ·refine MV 3 Z Z (iA [Value.slice ((rdG fj i).A) ((rdG fj i).root.length) ((rdG fj i).c)] ay mJ Z Z Z Z) ?_;rintro _ _⟨n5,rfl,rfl⟩;refine⟨λ_ h=>h.selR (F:=[_,_,_,_,_]) (F':=[_]) [1] cC Z,?_⟩;refine aVe 4 8 cA ?_ ?_
   ·refine MV 4 Z Z (eY 4 Z Z ay xV Z Z Z Z Z (rdr 0 Z) (by simp[Value.oneCell']) (by dsimp only;omega)) ?_;rintro _ _⟨fa,fb,rfl,rfl⟩;refine⟨λ_ h=>h.selR (F:=[_,_,_,_,_]) (F':=[_]) [1] cC Z,?_⟩;refine QZ (v:=sl fa (n1+1) fb) Z ?_;refine oD 8 cA ?_;refine MV 8 Z Z (bQ .i64 [(rdG fj i).times] aa zs3 Z Z Z) ?_;rintro _ _⟨tj,rfl,rfl⟩;refine⟨λ_ h=>h.selR (F:=[_,_,_,_,_,_]) (F':=[_]) [2] cC Z,?_⟩;refine oD 9 cA ?_;refine MV 9 Z Z (aY 4 Z aa zb3 Z Z Z (rdr 0 Z)) ?_;rintro _ _⟨gn,go,rfl,rfl⟩;refine⟨λ_ h=>h.selR (F:=[_,_,_,_,_,_]) (F':=[_]) [2] cC Z,?_⟩;refine QZ (v:=sl gn (n2+1) go) Z ?_;refine jM 10 Z cA Z (bB Z) ?_;refine jM 11 Z cA Z (bB Z) ?_;refine EK cA ?_;refine aJ<|wA Z Z<|wm Z<|aA ?_;exact⟨i+1,fa,n1+1,fb,vals++([Value.slice ((rdG fj i).A) ((rdG fj i).root.length) ((rdG fj i).c)]),(ls++[(rdG fj i).root]),gn,n2+1,go,ts++([(rdG fj i).times]),⟨G,G,(by rw[ai,dp];rfl),(by rw[ai,nw];rfl),(ka.push Z (xj _ (xI bb G)).2),(by rw[xB RC.root bb G,<-yy]),(by rw[xB RC.times bb G,<-Of])⟩,G,SA,λ_ h=>h.selR (F:=[_,_,_,_,_,_]) (F':=[_,_,_]) [3,4,5] cC Z⟩
   ·refine MV 8 Z Z (bQ .i64 [(rdG fj i).times] aa zs3 Z Z Z) ?_;rintro _ _⟨Ln,rfl,rfl⟩;refine⟨λ_ h=>h.selR (F:=[_,_,_,_,_,_]) (F':=[_]) [2] cC Z,?_⟩;refine oD 4 cA ?_;refine MV 4 Z Z (eY 5 Z Z ay xV Z Z Z Z Z (rdr 1 Z) (by simp[Value.oneCell']) (by dsimp only;omega)) ?_;rintro _ _⟨pf,pi,rfl,rfl⟩;refine⟨λ_ h=>h.selR (F:=[_,_,_,_,_,_]) (F':=[_]) [2] cC Z,?_⟩;refine QZ (v:=sl pf (n1+1) pi) Z ?_;refine oD 9 cA ?_;refine MV 9 Z Z (aY 4 Z aa zb3 Z Z Z (rdr 0 Z)) ?_;rintro _ _⟨va,vj,rfl,rfl⟩;refine⟨λ_ h=>h.selR (F:=[_,_,_,_,_,_]) (F':=[_]) [2] cC Z,?_⟩;refine QZ (v:=sl va (n2+1) vj) Z ?_;refine jM 10 Z cA Z (bB Z) ?_;refine jM 11 Z cA Z (bB Z) ?_;refine EK cA ?_;refine aJ<|wA Z Z<|wm Z<|aA ?_;exact⟨i+1,pf,n1+1,pi,vals++([Value.slice ((rdG fj i).A) ((rdG fj i).root.length) ((rdG fj i).c)]),(ls++[(rdG fj i).root]),va,n2+1,vj,ts++([(rdG fj i).times]),⟨G,G,(by rw[ai,dp];rfl),(by rw[ai,nw];rfl),(ka.push Z (xj _ (xI bb G)).2),(by rw[xB RC.root bb G,<-yy]),(by rw[xB RC.times bb G,<-Of])⟩,G,SA,λ_ h=>h.selR (F:=[_,_,_,_,_,_]) (F':=[_,_,_]) [3,4,5] cC Z⟩
  ·refine MV 8 Z Z (bQ .i64 [(rdG fj i).times] aa zs3 Z Z Z) ?_;rintro _ _⟨zr,rfl,rfl⟩;refine⟨λ_ h=>h.selR (F:=[_,_,_,_,_]) (F':=[_]) [1] cC Z,?_⟩;refine oD 3 cA ?_;refine MV 3 Z Z (iA [Value.slice ((rdG fj i).A) ((rdG fj i).root.length) ((rdG fj i).c)] ay mJ Z Z Z Z) ?_;rintro _ _⟨g_28,rfl,rfl⟩;refine⟨λ_ h=>h.selR (F:=[_,_,_,_,_,_]) (F':=[_]) [2] cC Z,?_⟩;refine oD 4 cA ?_;refine MV 4 Z Z (eY 5 Z Z ay xV Z Z Z Z Z (rdr 0 Z) (by simp[Value.oneCell']) (by dsimp only;omega)) ?_;rintro _ _⟨Ry,Sg,rfl,rfl⟩;refine⟨λ_ h=>h.selR (F:=[_,_,_,_,_,_]) (F':=[_]) [2] cC Z,?_⟩;refine QZ (v:=sl Ry (n1+1) Sg) Z ?_;refine oD 9 cA ?_;refine MV 9 Z Z (aY 4 Z aa zb3 Z Z Z (rdr 1 Z)) ?_;rintro _ _⟨z6,Bx,rfl,rfl⟩;refine⟨λ_ h=>h.selR (F:=[_,_,_,_,_,_]) (F':=[_]) [2] cC Z,?_⟩;refine QZ (v:=sl z6 (n2+1) Bx) Z ?_;refine jM 10 Z cA Z (bB Z) ?_;refine jM 11 Z cA Z (bB Z) ?_;refine EK cA ?_;refine aJ<|wA Z Z<|wm Z<|aA ?_;exact⟨i+1,Ry,n1+1,Sg,vals++([Value.slice ((rdG fj i).A) ((rdG fj i).root.length) ((rdG fj i).c)]),(ls++[(rdG fj i).root]),z6,n2+1,Bx,ts++([(rdG fj i).times]),⟨G,G,(by rw[ai,dp];rfl),(by rw[ai,nw];rfl),(ka.push Z (xj _ (xI bb G)).2),(by rw[xB RC.root bb G,<-yy]),(by rw[xB RC.times bb G,<-Of])⟩,G,SA,λ_ h=>h.selR (F:=[_,_,_,_,_,_]) (F':=[_,_,_]) [3,4,5] cC Z⟩
 ·refine aS<|wq<|wm Z<|wm Z<|wg Z<|wn Z<|aX [2,1] 3 cC Z ?_;refine⟨_,_,Z,Z,?_⟩;have jp:=aXk xf (show(fj.length:Int)<=i by omega);obtain rfl:ls=(iT ws).map Prod.fst:=yy.trans jp.1;obtain rfl:ts=(iT ws).map Prod.snd:=Of.trans jp.2;subst dp;subst nw;exact⟨_,_,_,_,vals,_,Z,ka,Z⟩
theorem EC {an:AF} {ar am:Nat} {u:AH} {qe:AF} {qv qk:Nat} {t:AH} (al:Rd w an ar am 1 (ints .u8 u)) (xp:Rd w qe qv qk 1 (ints .u8 t)) (ac:aL u) (As:aL t):
  CF 274 #[sl an ar am,sl qe qv qk] w (λv R'=>v= .bool (decide (u=t))):=by
 obtain rfl:=al.lenI;obtain rfl:=xp.lenI;refine fn1 Tryz.func274 Z Z Z ?_;have mv:=al.max;have m_t:=xp.max;refine wq<|wn Z<|wq<|wm Z<|wy (jR ah dh wo Z (al.c _))<|wm Z<|wy (jR ah dh wo Z (xp.c _))<|wy (OB Z Z ac As)<|wn Z<|bT ?_;refine⟨_,Z,?_⟩;rfl
theorem JM {g6:AF} {Jz i5:Nat} {Kf:AG} {a:AD} {jx:AF} {pm jz:Nat} {Kn:AG} {b:AD} (vq:Rd w g6 Jz i5 1 Kf) (s_a:SlW .u8 w Kf a) (gv:Rd w jx pm jz 1 Kn) (s_b:SlW .u8 w Kn b) (hN:a.length<=1000000):
  CF 20 #[sl g6 Jz i5,sl jx pm jz] w (λv R'=>v= .bool (decide (a=b))):=by
 obtain rfl:Jz=a.length:=by have:=vq.len;have:=s_a.1;omega
 obtain rfl:pm=b.length:=by have:=gv.len;have:=s_b.1;omega
 refine fn1 Tryz.func20 Z Z Z ?_;have m_a:=vq.max;have Kz:=gv.max;refine wq<|wn Z<|aD<|wq<|wm Z<|wy (aO ay Z)<|wm Z<|wy (aO ay Z)<|wy (iI Z Z)<|aA<|bA Z (λbc=> ?_) (λbc=> ?_)
 ·refine wq<|wn Z<|bT ?_;refine⟨_,Z,?_⟩;exact bg Value.bool (ol (λe=>by rw[e] at bc;exact bc rfl)).symm
 ·refine aH<|aD<|wq<|wn Z<|aI ?_;refine lF (λ(k:Int)=>[(0,sl g6 a.length i5),(1,sl jx b.length jz),(5,I k)]) (λk=>[]) (λk=>(0<=k)/\(k<=a.length)/\(a.take k.toNat=b.take k.toNat)) (λk=>(a.length-k).toNat) ?_ ?_
  ·exact⟨0,⟨G,G,(Z)⟩,KP⟩
  intro k ⟨ld,yr,hq⟩;refine aD<|wq<|wm Z<|wm Z<|wy (aO ay Z)<|wL Z Z<|aA<|bA Z (λda=> ?_) (λda=> ?_)
  ·refine aH<|aD<|aI<|aD<|bL mixed<|wD 0 Z (aK Z)<|wD 1 Z (aK Z)<|wD 2 Z (aG ay dP Z Z (vq.c _)) ?_;refine s_a.elim (i:=k) G G (λcr co rm wi a7 xo=> ?_);refine wD 3 Z (pI ah Z Z Z (vq.c _) rm)<|wD 4 Z (jR ah dh wo Z (wi.c _))<|wD 5 Z (aK Z)<|wD 6 Z (aK Z)<|wD 7 Z (aG ay dP Z Z (gv.c _)) ?_;refine s_b.elim (i:=k) G G (λfh kh Qi uc Nm Vj=> ?_);refine wD 8 Z (pI ah Z Z Z (gv.c _) Qi)<|wD 9 Z (jR ah dh wo Z (uc.c _))<|wD 10 Z (bBi Z Z (byteL_wf a7) (byteL_wf Nm)) ?_;refine wN<|bA Z (λfk=> ?_) (λfk=> ?_)
   ·refine wq<|wn Z<|bT ?_;refine⟨_,Z,?_⟩;exact bg Value.bool (ol (λe=>by subst e;exact fk rfl)).symm
   ·refine aH<|aJ<|wm Z<|wA Z Z<|wn Z ?_;exact⟨k+1,⟨G,G,(by rw[fD ld G,fD ld G,hq];exact bg (λz=>List.take k.toNat b++[z]) (yh.1 cF))⟩,G,KP⟩
  ·refine aS<|wq<|wn Z<|bT ?_;refine⟨_,Z,?_⟩;exact bg Value.bool (ko (by rw[bi G,bi G] at hq;exact hq)).symm
variable {w:World} {an:AF} {ar am:Nat} {u:AH}
theorem aLc (al:Rd w an ar am 1 (ints .u8 u)) (ac:aL u) (cg:0<u.length) (Wl:u.length<=1000000):
  CF 163 #[sl an ar am] w (λv R'=>v=I (lp u)):=by
 obtain rfl:=al.lenI;refine fn1 Tryz.func163 Z Z Z ?_;have mv:=al.max;refine wq<|wn Z<|aD<|wq<|wn Z<|aI ?_;refine lF (λ(p:Int)=>[(0,sl an u.length am),(3,I p)]) (λp=>[]) (λp=>(1<=p)/\(p<=u.length+1)/\(lp u=lpF u ((u.length:Int)+1-p).toNat p)) (λp=>((u.length:Int)+1-p).toNat) ?_ ?_
 ·exact⟨1,⟨G,G,(by unfold lp;congr 1;omega)⟩,KP⟩
 intro p ⟨qn,nf,hl⟩;refine aD<|wq<|wm Z<|wm Z<|wy (aO ah Z)<|wy (uV Z Z)<|aA<|bA Z (λbc=> ?_) (λbc=> ?_)
 ·refine aH<|aD<|aI<|aD<|bL mixed<|wD 0 Z (aK Z)<|wD 1 Z (aK Z)<|wD 2 Z (fJ ah sz5 Z Z)<|wD 3 Z (jR ah dh wo Z (RdC.fromI (al.c _) G))<|wD 4 Z (aK Z)<|wD 5 Z (aK Z)<|wD 6 Z (aO ah Z)<|wD 7 Z (aK Z)<|wD 8 Z (nG Z Z)<|wD 9 Z (gK ah sz5 Z Z (al.c _)) ?_;refine wD 10 Z (jR ah dh wo Z (RdC.toI (al.c _) G))<|wD 11 Z (OB Z Z (aL.drop ac _) (aL.take ac _))<|wN<|bA Z (λda=> ?_) (λda=> ?_)
  ·refine wq<|wm Z<|wn Z<|bT ?_;refine⟨_,Z,?_⟩;exact bg (Value.int .i64) (by rw[hl,aGq G cF])
  ·refine aH<|aJ<|wm Z<|wA Z Z<|wn Z ?_;exact⟨p+1,⟨G,G,(by rw[hl,aSd G cF];congr 1;omega)⟩,G,KP⟩
 ·refine aS<|wq<|wn Z<|bT ?_;refine⟨_,Z,?_⟩;have:=LH cg;have e0:((u.length:Int)+1-p).toNat=0:=G
  rw[e0] at hl;unfold lpF at hl;omega
theorem WJ (al:Rd w an ar am 1 (ints .u8 u)) (ac:aL u) (cg:0<u.length) (Wl:u.length<=1000000):
  CF 95 #[sl an ar am] w (λv R'=>v= .tuple #[sl an (rl u).toNat am,I ((u.length:Int)/rl u)]):=by
 obtain rfl:=al.lenI;refine fn2 Tryz.func95 Z Z Z ?_;have mv:=al.max;have Mm:=LH cg;refine wq<|wg Z<|wn Z<|wq<|wm Z<|wa (aC bJc Z (Ct.quiet (λw hw=>aLc ((al.c _) w hw) cE cE cE))) ?_;rintro _ _⟨rfl,rfl⟩;refine wn Z<|aD<|wq<|wm Z<|wy (gT Z Z)<|aA<|bA Z (λbc=> ?_) (λbc=> ?_)
 ·refine wq<|wg Z<|wn Z<|bT ?_;refine⟨_,_,Z,Z,?_⟩;omega
 ·refine aH<|aD<|wq<|wm Z<|wy (aO ah Z)<|wm Z<|wy (xZ Z Z)<|wy (iI Z Z)<|aA<|bA Z (λda=> ?_) (λda=> ?_)
  ·refine aJ<|wm Z<|wy (aO ah Z)<|wn Z<|aD<|bL mixed<|wD 0 Z (aK Z)<|wD 1 Z (aK Z)<|wD 2 Z (gK ah sz5 Z Z (al.c _))<|wD 3 Z (aK Z)<|wD 4 Z (aO ah Z)<|wD 5 Z (aK Z)<|wD 6 Z (CY Z Z G G G)<|wD 7 Z (bB Z) ?_;refine wD 8 Z (bB Z)<|wN<|bT ?_;refine⟨_,_,Z,Z,?_⟩;have e:rl u=u.length:=by unfold rl;rw[di cF]
   rw[e]
  ·refine aH<|aD<|bL mixed<|wD 0 Z (aK Z)<|wD 1 Z (aK Z)<|wD 2 Z (gK ah sz5 Z Z (al.c _))<|wD 3 Z (aK Z)<|wD 4 Z (aO ah Z)<|wD 5 Z (aK Z)<|wD 6 Z (CY Z Z G G G)<|wD 7 Z (bB Z)<|wD 8 Z (bB Z)<|wN<|bT ?_;refine⟨_,_,Z,Z,?_⟩;have e:rl u=lp u:=by unfold rl;rw[df cF]
   rw[e]
variable {ws ls:AD} {w:AH}
theorem aSs {a b:RT}:jP a b<0↔cmpL a.1 b.1<0\/cmpL a.1 b.1=0/\a.2<b.2:=by
 unfold jP;have h2:kG a.2 b.2<0↔a.2<b.2:=by unfold kG;split<;>(try split)<;>omega
 split
 ·omega
 ·rw[h2];omega
def kw (c:AH):RT:=(jO c,gF c)
structure CI (ws:AD) (ls:AD):Prop where
 perm:(ls.map kw).Perm (cZ ws)
 sorted:ls.Pairwise λa b=>jP (kw a) (kw b)<=0
theorem CI.nil:CI [] []:=⟨.refl _, .nil⟩
theorem CI.skip (h:CI ws ls) (hw:w.length=0):CI (ws++[w]) ls:=⟨by
 have e:cZ [w]=[]:=by unfold cZ;simp[hw]
 rw[jX,e,ji]
 exact h.perm,h.sorted⟩
theorem CI.put {j:Int} (h:CI ws ls) (hw:0<w.length) (h0:0<=j) (h1:j<=ls.length) (s7: ∀q:Int,j<=q->q<ls.length->jP (kw (lw w)) (kw (rdl ls q))<0) (v8: ¬(0<j/\jP (kw (lw w)) (kw (rdl ls (j-1)))<0)):CI (ws++[w]) (ls.take j.toNat++[lw w]++ls.drop j.toNat):=by
 refine⟨?_,?_⟩
 ·rw [jX];have e:cZ [w]=[nJ w]:=by unfold cZ;simp[hw]
  rw[e,jc,jc];refine List.Perm.trans ?_ (Dp [nJ w] h.perm);rw[ek];refine(xk _ rf).trans ?_;rw[<-ek,<-jc,ik];exact .refl _
 ·have hs:=h.sorted;have Hx:=hs;rw[<-ik j.toNat ls,ow] at Hx;obtain⟨s1,s2,s3⟩:=Hx
  have hdn: ∀b∈ls.drop j.toNat,jP (kw (lw w)) (kw b)<0:=λb hb=>by
   obtain⟨k,hk,e⟩:=ic.1 hb;rw[bn] at hk;have:=s7 (j+k) G G
   have e2:rdl ls (j+k)=b:=by
    rw[<-e,Dq];unfold rdl;rw[show(j+(k:Int)).toNat=j.toNat+k by omega,af,av G];rfl
   rwa[e2] at this
  have Ml: ∀a∈ls.take j.toNat,jP (kw a) (kw (lw w))<=0:=λa ha=>by
   obtain⟨k,hk,e⟩:=ic.1 ha;rw[ax] at hk;have hj:0<j:=G
   have hl:jP (kw (rdl ls (j-1))) (kw (lw w))<=0:=by
    rw[qB (kw (lw w))];have:=λc=>v8 ⟨hj,c⟩;omega
   have e2:rdl ls (j-1)=ls[(j-1).toNat]' G:=by
    unfold rdl;rw[af,av G];rfl
   rw[ym] at e;rcases gu k (j-1).toNat with g|g
   ·have:=dz.1 hs k (j-1).toNat G G g;rw[e,<-e2] at this;exact IA _ _ _ this hl
   ·obtain rfl:k=(j-1).toNat:=G
    rw[<-e,<-e2];exact hl
  rw[ek,ow];refine⟨s1,?_,?_⟩
  ·rw [ny,il];exact⟨λb hb=>by have:=hdn b hb;omega,s2⟩
  ·intro a ha b hb;rw[ny,iw] at hb;rcases hb with rfl|hb
   ·exact Ml a ha
   ·exact s3 a ha b hb
theorem CI.done {ls:AD} (h:CI ws ls) (hp: ∀c∈ls,0<c.length):ls=canon ws:=by
 have:ls.map kw=iT ws:=DK h.perm (ib.2 h.sorted);unfold canon;rw[<-this,rq]
 conv=>lhs;rw[<-List.map_id ls]
 refine xh λc hc=> ?_;exact(rM (hp c hc)).symm
theorem aSi {w:World} {an:AF} {ar am:Nat} {u:AH} {qe:AF} {qv qk:Nat} {t:AH} (al:Rd w an ar am 1 (ints .u8 u)) (xp:Rd w qe qv qk 1 (ints .u8 t)) (ac:aL u) (As:aL t) (hu:0<u.length/\u.length<=1000000) (ht:0<t.length/\t.length<=1000000):
  CF 53 #[sl an ar am,sl qe qv qk] w (λv R'=>v= .bool (decide (jP (kw u) (kw t)<0))):=by
 obtain rfl:=al.lenI;obtain rfl:=xp.lenI;refine fn1 Tryz.func53 Z Z Z ?_;have mv:=al.max;have m_t:=xp.max;refine wq<|wn Z<|wq<|wm Z<|wa (aC bGx Z (Ct.quiet (λw hw=>WJ ((al.c _) w hw) cE hu.1 hu.2))) ?_;rintro _ _⟨rfl,rfl⟩;have Hk:=oL (u:=u) G;refine wm Z<|wX Z Z<|wX Z Z<|wg Z<|wn Z<|wq<|wm Z<|wa (aC bGx Z (Ct.quiet (λw hw=>WJ ((xp.c _) w hw) As ht.1 ht.2))) ?_;rintro _ _⟨rfl,rfl⟩;have Hk:=oL (u:=t) G;refine wm Z<|wX Z Z<|wX Z Z<|wg Z<|wn Z<|wq<|wm Z<|wm Z<|wa (aC bGw Z (Ct.quiet (λw hw=>OD ((RdC.toI (al.c _) G) w hw) ((RdC.toI (xp.c _) G) w hw)))) ?_;rintro _ _⟨rfl,rfl⟩;refine wn Z<|wq<|wm Z<|wL Z Z<|wm Z<|dD 8 [(33, .bool (decide (((cmpL ((u).take (rl u).toNat) ((t).take (rl t).toNat))<0)\/(((cmpL ((u).take (rl u).toNat) ((t).take (rl t).toNat))=0)/\((((u).length:Int)/rl u)<(((t).length:Int)/rl t))))))] [] ?_ ?_
 ·refine bP 25 Z (λbc=> ?_) (λbc=> ?_)
  ·refine aM Z Z Z Z<|aM Z Z Z Z<|aM Z Z Z Z<|eD Z Z Z<|eD Z Z Z<|eD Z Z Z<|aM Z Z Z Z<|wy (aQ Z Z)<|aA ?_;exact KP
  ·refine aB Z Z<|wm Z<|aB Z Z<|wy (gT Z Z)<|aB Z Z<|wm Z<|dD 4 [(25,bf),(32, .bool (decide (((cmpL ((u).take (rl u).toNat) ((t).take (rl t).toNat))=0)/\((((u).length:Int)/rl u)<(((t).length:Int)/rl t)))))] [] ?_ ?_
   ·refine bP 28 Z (λda=> ?_) (λda=> ?_)
    ·refine aB Z Z<|wm Z<|aB Z Z<|wm Z<|aB Z Z<|wL Z Z<|aB Z Z<|wy (aQ Z Z)<|aA ?_;exact KP
    ·refine aM Z Z Z Z<|aM Z Z Z Z<|aM Z Z Z Z<|aB Z Z<|wy (aP Z Z)<|aA ?_;exact KP
   refine wy (aP Z Z)<|aA ?_;exact KP
 refine wn Z<|bT ?_;refine⟨_,Z,?_⟩;exact bg Value.bool (wh.2 (aSs (a:=kw u) (b:=kw t)).symm)
theorem aCw {ls:AD} {w:AH} {j:Nat} (h: ∀c∈ls,aL c/\0<c.length/\c.length<=8000) (hb:aL w) (hw:0<w.length/\w.length<=8000): ∀c∈ls.take j++[w]++ls.drop j,aL c/\0<c.length/\c.length<=8000:=λc hc=>by
 rcases fo.1 hc with hc|hc
 ·rcases fo.1 hc with hc|hc
  ·exact h c (ll hc)
  ·obtain rfl:=jb.1 hc;exact⟨hb,hw⟩
 ·exact h c (ng hc)
theorem EL {w:World} {bl:AF} {cm bm:Nat} {ap:AG} {ws:AD} (ba:Rd w bl cm bm 1 ap) (bp:SlW .u8 w ap ws) (hN:(∀w∈ws,w.length<=8000)/\ws.length<=100000):
  CF 21 #[sl bl cm bm] w (λv R'=> ∃(A:AF) (c:Nat) (vals:AG) (Rs:List Row),v=sl A vals.length c/\SlR .u8 Rs vals (canon ws)/\R'=⟨22,1,A,vals.length,c,vals,false⟩::Rs):=by
 obtain rfl:cm=ws.length:=by have:=ba.len;have:=bp.1;omega
 refine fn1 Tryz.func21 Z Z Z ?_;have ob:=ba.max;have Nz:=bp.okB;refine wq<|wn Z<|wq<|bR (R1:=(⟨22,1,none,0,0,[],false⟩::[])) (Sub.refl _) (λ_ h=>h.nil 22 1)<|wn Z<|aD<|wq<|wn Z<|aI ?_;refine GL (λ(i:Int) (A1:AF) (n1:Nat) (c1:Nat) (vals:AG) (ls:AD) (Rs:List Row)=>[(0,sl bl ws.length bm),(3,sl A1 n1 c1),(4,I i)]) (λi A1 n1 c1 vals ls Rs=>(⟨22,1,A1,n1,c1,vals,false⟩::Rs)) (λi A1 n1 c1 vals ls Rs=>(0<=i)/\(i<=ws.length)/\(n1=vals.length)/\(SlR .u8 Rs vals ls)/\(∀c∈ls,aL c/\0<c.length/\c.length<=8000)/\(CI (ws.take i.toNat) ls)) (λi A1 n1 c1 vals ls Rs=>(ws.length-i).toNat) ?_ ?_
 ·exact⟨0,none,0,0,[],[],[],⟨G,G,(Z),(SlR.nilR _ _),(λc hc=>by cases hc),(CI.nil)⟩,KP⟩
 intro i A1 n1 c1 vals ls Rs ⟨bb,ij,dp,ka,dr,Pc⟩;have Od:=ka.1;have Pi:ls.length<=i.toNat:=by have h1:=Pc.perm.length_eq;rw[az] at h1;have h2:=oM (ws.take i.toNat);rw[ax] at h2;omega
 have j4:0<=i->i<ws.length->(rdl ws i).length<=8000:=λh h'=>hN.1 _ (jB h h');refine aD<|wq<|wm Z<|wm Z<|wy (aO ay Z)<|wL Z Z<|aA<|bA Z (λbc=> ?_) (λbc=> ?_)
 ·have Ve:=j4 bb G;refine aH<|aD<|aI<|aD<|wq<|wm Z<|wm Z<|wy (aG ay dP Z Z (ba.c _)) ?_;refine bp.elim (i:=i) G G (λcr co rm wi a7 xo=> ?_);refine wy (pI ah Z Z Z (ba.c _) rm)<|wy (aO ah Z)<|wy (gT Z Z)<|aA<|bA Z (λda=> ?_) (λda=> ?_)
  ·refine aS<|aJ<|wm Z<|wA Z Z<|wn Z ?_;exact⟨i+1,A1,n1,c1,vals,ls,Rs,⟨G,G,(dp),(ka),(dr),(by rw[fD bb G];exact Pc.skip G)⟩,G,KP⟩
  ·refine aH<|wq<|wm Z<|wm Z<|wy (aG ay dP Z Z (ba.c _)) ?_;refine bp.elim (i:=i) G G (λfh kh Qi uc Nm Vj=> ?_);refine wy (pI ah Z Z Z (ba.c _) Qi)<|wa (aC bKx Z (Ct.fresh (λw hw=>bEh ((uc.c _) w hw) G))) ?_;rintro _ _⟨_,rfl,gd,ce,rfl,rfl⟩;refine wn Z<|wq<|wm Z<|wy (aO ay Z)<|wn Z<|aD<|aI ?_;refine lF (λ(j:Int)=>[(0,sl bl ws.length bm),(3,sl A1 n1 c1),(4,I i),(5,sl gd ((lw (rdl ws i)).length) ce),(6,I j)]) (λj=>((ru 5 gd ((lw (rdl ws i)).length) ce (lw (rdl ws i)))::⟨22,1,A1,n1,c1,vals,false⟩::Rs)) (λj=>(0<=j)/\(j<=n1)/\(∀q:Int,j<=q->q<ls.length->jP (kw (lw (rdl ws i))) (kw (rdl ls q))<0)) (λj=>j.toNat) ?_ ?_
   ·exact⟨(n1:Int),⟨G,G,(λq h1 h2=>G)⟩,KP⟩
   intro j ⟨b8,Pn,s7⟩;have Qw:0<j->aL (rdl ls (j-1))/\0<(rdl ls (j-1)).length/\(rdl ls (j-1)).length<=8000:=λh=>dr _ (jB G G);refine aD<|wq<|wm Z<|wy (dN Z Z)<|wm Z<|dD 8 [(0,sl bl ws.length bm),(3,sl A1 n1 c1),(4,I i),(5,sl gd ((lw (rdl ws i)).length) ce),(6,I j),(36, .bool (decide ((0<j)/\(jP (kw (lw (rdl ws i))) (kw (rdl ls (j-1)))<0))))] ((ru 5 gd ((lw (rdl ws i)).length) ce (lw (rdl ws i)))::⟨22,1,A1,n1,c1,vals,false⟩::Rs) ?_ ?_
   ·refine bP 28 Z (λfk=> ?_) (λfk=> ?_)
    ·refine aB Z Z<|wm Z<|aB Z Z<|wm Z<|aB Z Z<|wm Z<|aB Z Z<|wS Z Z<|aB Z Z<|wy (aG ay dP Z Z (rdr 1 Z))<|aB Z Z ?_;obtain⟨fa,fb,Jx,Hs⟩:=ka.at (i:=j-1) G G;refine wy (pI ah Z Z Z (rdr 1 Z) Jx)<|aB Z Z<|wa (aC bKw Z (Ct.quiet (λw hw=>aSi ((rdr 0 Z) w hw) ((λ_ h=>Hs _ _ _ (h.right (R':=[_,_]))) w hw) (vS (Nz _ (jB bb G)).1) (Qw G).1 (by rw[jQ];omega) ⟨(Qw G).2.1,by have:=(Qw G).2.2;omega⟩))) ?_;rintro _ _⟨rfl,rfl⟩;refine wy (aQ Z Z)<|aA ?_;exact KP
    ·refine aM Z Z Z Z<|aM Z Z Z Z<|aM Z Z Z Z<|aM Z Z Z Z<|aM Z Z Z Z<|aM Z Z Z Z<|aM Z Z Z Z<|wy (aP Z Z)<|aA ?_;exact KP
   refine aA<|bA Z (λiu=> ?_) (λiu=> ?_)
   ·have ff:=iu;refine aH<|aI<|aJ<|wm Z<|wS Z Z<|wn Z ?_
    exact⟨j-1,⟨G,G,(λq h1 h2=>by
      rcases bu q j with g|g
      ·obtain rfl:q=j-1:=G
       exact ff.2
      ·exact s7 q g h2)⟩,G,KP⟩
   ·have ff:=iu;refine aS<|bL mixed<|wD 1 Z (aK Z)<|wD 2 Z (aK Z)<|wD 3 Z (gK ay dP Z Z (rdr 1 Z))<|wD 5 Z (aK Z)<|wD 8 Z (aK Z)<|wD 9 Z (aK Z)<|wD 10 Z (fJ ay dP Z Z)<|aOh 0 6 cA ?_ ?_
    ·refine aWs 0 Z Z (iA [] ay mJ Z Z Z Z) ?_;rintro _ _⟨Sj,rfl,rfl⟩;refine⟨.inr hrZ,?_⟩;refine aOh 4 6 cA ?_ ?_
     ·refine aWs 4 Z Z (eY 0 Z Z ay xV Z Z Z Z Z (RdC.toV (h:=(j).toNat) (rdr 2 Z) cH) (ka.take _).one (by dsimp only;omega)) ?_;rintro _ _⟨f9,i4,rfl,rfl⟩;refine⟨.inl cA,?_⟩;refine jS (v:=sl f9 (0+((j).toNat)) i4) Z<|wC 6 Z (iA [Value.slice gd ((lw (rdl ws i)).length) ce] ay mJ Z Z Z Z) ?_;rintro _ _⟨Lo,rfl,rfl⟩;refine⟨.inr hrZ,?_⟩;refine wC 7 Z (eY 1 Z Z ay xV Z Z Z Z Z (rdr 0 Z) (by simp[Value.oneCell']) (by dsimp only;omega)) ?_;rintro _ _⟨va,vj,rfl,rfl⟩;refine⟨.inl cA,?_⟩;refine jS (v:=sl va ((0+((j).toNat))+1) vj) Z<|wC 11 Z (eY 1 Z Z ay xV Z Z Z Z Z (RdC.fromV (rdr 3 Z) cH) (ka.drop _).one (by dsimp only;omega)) ?_;rintro _ _⟨w9,Bm,rfl,rfl⟩;refine⟨.inl cA,?_⟩;refine jS (v:=sl w9 (((0+((j).toNat))+1)+(n1-(j).toNat)) Bm) Z<|wD 12 Z (bB Z)<|wN<|aJ<|wm Z<|wA Z Z<|wn Z ?_;exact⟨i+1,w9,((0+((j).toNat))+1)+(n1-(j).toNat),Bm,((([])++((vals).take (j).toNat))++([Value.slice gd ((lw (rdl ws i)).length) ce]))++((vals).drop (j).toNat),([]++ls.take j.toNat++[lw (rdl ws i)]++ls.drop j.toNat),((ru 5 gd ((lw (rdl ws i)).length) ce (lw (rdl ws i)))::Rs),⟨G,G,(by simp only[ai,ax,bn,dm,jg];omega),(((((SlR.nilR _ _).app (ka.take _)).right [_]).push Z (λ_ _ _ h=>rdr 0 Z _ h)).app ((ka.drop _).right [_])),(aCw dr (vS (Nz _ (jB bb G)).1) (by rw[jQ];omega)),(by rw[fD bb G];exact Pc.put G b8 G s7 ff)⟩,G,SA,λ_ h=>h.selR (F:=[_,_,_,_]) (F':=[_,_]) [1,2] cC Z⟩
     ·refine aWs 6 Z Z (iA [Value.slice gd ((lw (rdl ws i)).length) ce] ay mJ Z Z Z Z) ?_;rintro _ _⟨g_29,rfl,rfl⟩;refine⟨.inr hrZ,?_⟩;refine wC 4 Z (eY 1 Z Z ay xV Z Z Z Z Z (RdC.toV (h:=(j).toNat) (rdr 3 Z) cH) (ka.take _).one (by dsimp only;omega)) ?_;rintro _ _⟨tc,th,rfl,rfl⟩;refine⟨.inl cA,?_⟩;refine jS (v:=sl tc (0+((j).toNat)) th) Z<|wC 7 Z (eY 1 Z Z ay xV Z Z Z Z Z (rdr 0 Z) (by simp[Value.oneCell']) (by dsimp only;omega)) ?_;rintro _ _⟨Ol,Oq,rfl,rfl⟩;refine⟨.inl cA,?_⟩;refine jS (v:=sl Ol ((0+((j).toNat))+1) Oq) Z<|wC 11 Z (eY 1 Z Z ay xV Z Z Z Z Z (RdC.fromV (rdr 3 Z) cH) (ka.drop _).one (by dsimp only;omega)) ?_;rintro _ _⟨Rz,Sh,rfl,rfl⟩;refine⟨.inl cA,?_⟩;refine jS (v:=sl Rz (((0+((j).toNat))+1)+(n1-(j).toNat)) Sh) Z<|wD 12 Z (bB Z)<|wN<|aJ<|wm Z<|wA Z Z<|wn Z ?_;exact⟨i+1,Rz,((0+((j).toNat))+1)+(n1-(j).toNat),Sh,((([])++((vals).take (j).toNat))++([Value.slice gd ((lw (rdl ws i)).length) ce]))++((vals).drop (j).toNat),([]++ls.take j.toNat++[lw (rdl ws i)]++ls.drop j.toNat),((ru 5 gd ((lw (rdl ws i)).length) ce (lw (rdl ws i)))::Rs),⟨G,G,(by simp only[ai,ax,bn,dm,jg];omega),(((((SlR.nilR _ _).app (ka.take _)).right [_]).push Z (λ_ _ _ h=>rdr 0 Z _ h)).app ((ka.drop _).right [_])),(aCw dr (vS (Nz _ (jB bb G)).1) (by rw[jQ];omega)),(by rw[fD bb G];exact Pc.put G b8 G s7 ff)⟩,G,SA,λ_ h=>h.selR (F:=[_,_,_,_]) (F':=[_,_]) [1,2] cC Z⟩
    ·refine aWs 6 Z Z (iA [Value.slice gd ((lw (rdl ws i)).length) ce] ay mJ Z Z Z Z) ?_;rintro _ _⟨g_38,rfl,rfl⟩;refine⟨.inr hrZ,?_⟩;refine wC 0 Z (iA [] ay mJ Z Z Z Z) ?_;rintro _ _⟨g_40,rfl,rfl⟩;refine⟨.inr hrZ,?_⟩;refine wC 4 Z (eY 0 Z Z ay xV Z Z Z Z Z (RdC.toV (h:=(j).toNat) (rdr 3 Z) cH) (ka.take _).one (by dsimp only;omega)) ?_;rintro _ _⟨Xc,Xj,rfl,rfl⟩;refine⟨.inl cA,?_⟩;refine jS (v:=sl Xc (0+((j).toNat)) Xj) Z<|wC 7 Z (eY 0 Z Z ay xV Z Z Z Z Z (rdr 1 Z) (by simp[Value.oneCell']) (by dsimp only;omega)) ?_;rintro _ _⟨Xd,Xk,rfl,rfl⟩;refine⟨.inl cA,?_⟩;refine jS (v:=sl Xd ((0+((j).toNat))+1) Xk) Z<|wC 11 Z (eY 0 Z Z ay xV Z Z Z Z Z (RdC.fromV (rdr 3 Z) cH) (ka.drop _).one (by dsimp only;omega)) ?_;rintro _ _⟨Sa,Si,rfl,rfl⟩;refine⟨.inl cA,?_⟩;refine jS (v:=sl Sa (((0+((j).toNat))+1)+(n1-(j).toNat)) Si) Z<|wD 12 Z (bB Z)<|wN<|aJ<|wm Z<|wA Z Z<|wn Z ?_;exact⟨i+1,Sa,((0+((j).toNat))+1)+(n1-(j).toNat),Si,((([])++((vals).take (j).toNat))++([Value.slice gd ((lw (rdl ws i)).length) ce]))++((vals).drop (j).toNat),([]++ls.take j.toNat++[lw (rdl ws i)]++ls.drop j.toNat),((ru 5 gd ((lw (rdl ws i)).length) ce (lw (rdl ws i)))::Rs),⟨G,G,(by simp only[ai,ax,bn,dm,jg];omega),(((((SlR.nilR _ _).app (ka.take _)).right [_]).push Z (λ_ _ _ h=>rdr 0 Z _ h)).app ((ka.drop _).right [_])),(aCw dr (vS (Nz _ (jB bb G)).1) (by rw[jQ];omega)),(by rw[fD bb G];exact Pc.put G b8 G s7 ff)⟩,G,SA,λ_ h=>h.selR (F:=[_,_,_,_]) (F':=[_,_]) [0,2] cC Z⟩
 ·refine aS<|wq<|wm Z<|wn Z<|bN (R1:=(⟨22,1,A1,n1,c1,vals,false⟩::Rs)) hiZ ?_;refine⟨_,Z,?_⟩;obtain rfl:i=ws.length:=G
  rw[bq,qa] at Pc;obtain rfl:ls=canon ws:=Pc.done λc hc=>(dr c hc).2.1;subst dp;exact⟨_,_,vals,Rs,Z,ka,Z⟩
theorem bAa {β:Type} (f:AH->β) {ls:AD} {i:Int} (h0:0<=i) (h1:i<ls.length):(ls.take (i+1).toNat).map f=(ls.take i.toNat).map f++[f (rdl ls i)]:=by
 rw[fD h0 h1,jc];rfl
theorem aGk:OkB []:=λl hl=>by cases hl
end Go.Proofs.YtdbebmmhdefgdaaGreat
namespace Go.Pure
open Go Go.Eng
variable {t:Int} {u b:AH}
def CW (t:Int) (u:AH) (p:AH × AH):Prop:=
 (t=1/\ ∃b:AH,b.Perm (iota u.length)/\b.Pairwise (bV u)/\p=(aU (zat b),ofL u b))\/
 (t=2/\ ∃T:AE,T.Perm (iD (bws u) (bws u).length)/\T.Pairwise (pO (bws u))/\p=([],T.map (lastB (bws u))))\/
 (t≠1/\t≠2/\p=([],u))
theorem CW.uniq {p q:AH × AH} (h1:CW t u p) (h2:CW t u q):p=q:=by
 rcases h1 with⟨e1,b,hb,sb,rfl⟩|⟨e1,T,hT,sT,rfl⟩|⟨e1,e2,rfl⟩<;>rcases h2 with⟨f1,c,hc,sc,rfl⟩|⟨f1,U,hU,sU,rfl⟩|⟨f1,f2,rfl⟩
 ·rw[aCh hb hc sb sc]
 ·omega
 ·omega
 ·omega
 ·rw[DV aCg (hT.trans hU.symm) sT sU]
 ·omega
 ·omega
 ·omega
 ·rfl
open Classical in
noncomputable def lT (t:Int) (u:AH):AH × AH:=if h: ∃p,CW t u p then Classical.choose h else([],[])
theorem zN {p:AH × AH} (h:CW t u p):lT t u=p:=by
 have he: ∃p,CW t u p:=⟨p,h⟩;unfold lT;rw[dif_pos he];exact(Classical.choose_spec he).uniq h
theorem VG (h1:t≠1) (h2:t≠2):lT t u=([],u):=zN (.inr (.inr ⟨h1,h2,rfl⟩))
theorem VH (hp:b.Perm (iota u.length)) (hs:b.Pairwise (bV u)):lT 1 u=(aU (zat b),ofL u b):=zN (.inl ⟨rfl,b,hp,hs,rfl⟩)
theorem VI {T:AE} (hp:T.Perm (iD (bws u) (bws u).length)) (hs:T.Pairwise (pO (bws u))):lT 2 u=([],T.map (lastB (bws u))):=zN (.inr (.inl ⟨rfl,T,hp,hs,rfl⟩))
noncomputable def dW (t o:Int) (b:AH):AH:=
 aU b.length++((lT t b).1++(aU (bX (lT t b).2 o).length++(fM (bv (gP b))++bX (lT t b).2 o)))
theorem CW.facts {p:AH × AH} (h:CW t u p) (hu:aL u) (hN:u.length<=100000):(p.1.length<=3/\aL p.1)/\aL p.2/\p.2.length=u.length:=by
 rcases h with⟨_,b,hb,sb,rfl⟩|⟨_,T,hT,sT,rfl⟩|⟨_,_,rfl⟩
 ·have e1:=pG hb sb;have e2:=JN (s:=u) (k:=0) G;exact⟨⟨dA 2 _ G,bZ G⟩,AY hu hb,(KU hb sb).length_eq⟩
 ·exact⟨⟨cD,λ_ h=>nomatch h⟩,lY hT (by rw[rA];exact hu),by rw[az,IE hT]⟩
 ·exact⟨⟨cD,λ_ h=>nomatch h⟩,hu,rfl⟩
theorem VK (hu:aL u) (hN:u.length<=100000):((lT t u).1.length<=3/\aL (lT t u).1)/\aL (lT t u).2/\(lT t u).2.length<=u.length:=by
 by_cases h: ∃p,CW t u p
 ·obtain ⟨p,hp⟩:=h;rw[zN hp];have:=hp.facts hu hN;exact⟨this.1,this.2.1,G⟩
 ·unfold lT;rw[dif_neg h];exact⟨⟨cD,λ_ h=>nomatch h⟩,(λ_ h=>nomatch h),cD⟩
theorem MW {o:Int} (hb:aL b) (hN:b.length<=100000):(dW t o b).length<=2*b.length+22/\aL (dW t o b):=by
 obtain⟨⟨h1,h0⟩,h2,h3⟩:=VK (t:=t) hb hN;have h4:=lV (o:=o) h2;have h5:=dA 2 (b.length:Int) G;have h6:=dA 2 ((bX (lT t b).2 o).length:Int) G;have h7:(fM (bv (gP b))).length=4:=rfl;unfold dW;refine⟨by simp only[ai];omega,?_⟩;intro x hx;simp only[fo] at hx;rcases hx with hx|hx|hx|hx|hx
 ·exact bZ G x hx
 ·exact h0 x hx
 ·exact bZ G x hx
 ·exact gZ _ x hx
 ·exact fK _ _ x hx
def chK (m n:Nat):Nat:=(m+n-1)/n
noncomputable def lK (t o:Int) (n:Nat) (u:AH) (k:Nat):AH:=((List.range k).map λj=>dW t o ((u.drop (j*n)).take n)).flatten
theorem CP (t o:Int) (n:Nat) (u:AH):lK t o n u 0=[]:=rfl
theorem CQ (t o:Int) (n:Nat) (u:AH) (k:Nat):lK t o n u (k+1)=lK t o n u k++dW t o ((u.drop (k*n)).take n):=by
 unfold lK;rw[zk,jc,lu];simp
theorem oW {t o:Int} {n:Nat} {u:AH} (hu:aL u) (hN:u.length<=100000): ∀k:Nat,(lK t o n u k).length<=(2*u.length+22)*k/\aL (lK t o n u k)
 |0=>by rw[CP];exact⟨cD,λ_ h=>nomatch h⟩
 |k+1=>by
  have h1:=oW (t:=t) (o:=o) (n:=n) hu hN k;have h2:=MW (t:=t) (o:=o) (b:=(u.drop (k*n)).take n) ((hu.drop _).take _) (by rw[ax,bn];omega);have h3:((u.drop (k*n)).take n).length<=u.length:=by rw[ax,bn];omega
  rw[CQ,ai,Nat.mul_add];refine⟨G,λx hx=> ?_⟩;rcases fo.1 hx with hx|hx
  ·exact h1.2 x hx
  ·exact h2.2 x hx
theorem aVd {m n:Nat} (hn:1<=n):chK m n<=m:=by
 unfold chK;rcases fe m with h|h
 ·subst h;rw[Ev G];exact dn _
 ·refine Nat.le_of_lt_succ ((Nat.div_lt_iff_lt_mul G).2 ?_);have:(m+1)*1<=(m+1)*n:=Nat.mul_le_mul_left _ hn;have e:(m+1)*n=m*n+n:=by rw[yg,Di]
  have e2:m*1<=m*n:=Nat.mul_le_mul_left _ hn;show m+n-1<(m+1)*n;omega
noncomputable def xW (t so o size:Int) (u:AH):AH:=
 (([87,72,82,76]++[1,t,so,o])++aU size++lK t o size.toNat u (chK u.length size.toNat))++(aU 0++aU u.length)
end Go.Pure
namespace Go.Proofs.YtdbebmmhdefgdaaGreat
open Go Go.Eng Go.Pure
open Tryz
set_option maxRecDepth 100000
variable {B ar am cq:Nat} {w0:World} {R:List Row} {so od sz:Int} {an Aq:AF} {u:AH}
theorem wJ {tu:Int} (ht:0<=tu/\tu<=3) (hp:(0<=so/\so<=2)/\(od=0\/od=1)/\(1<=sz/\sz<=16777216)):
  CT 23 #[.agg #[I tu,I so,I od,I sz]] B w0 (R) (λv R'=>v=bt/\R'=R):=by
 refine fn1 Tryz.func23 Z Z Z ?_;refine wq<|wa (dC (sz:=4) Z Z) ?_;rintro _ _⟨ao,rfl,rfl⟩;refine wn Z<|wq<|wy (yF 0 0 bz sz3 Z)<|wy (yL 0 au Z Z Z)<|wy (Yl.t (jN Z Z) G)<|wm Z<|aB Z Z<|wy (yF 0 0 bz sz3 Z)<|aB Z Z<|wy (yL 0 au Z Z Z)<|aB Z Z<|wy (Yl.t (uV Z Z) G)<|wy (aQ Z Z) ?_;refine wm Z<|aB Z Z<|wy (yF 1 1 bz sz3 Z)<|aB Z Z<|wy (yL 0 au Z Z Z)<|aB Z Z<|wy (Yl.t (jN Z Z) G)<|wy (aQ Z Z)<|wm Z<|aB Z Z<|wy (yF 1 1 bz sz3 Z)<|aB Z Z<|wy (yL 0 au Z Z Z)<|aB Z Z<|wy (Yl.t (fO Z Z) G) ?_;refine wy (aQ Z Z)<|wm Z<|aB Z Z<|wy (yF 2 2 bz sz3 Z)<|aB Z Z<|wy (yL 0 au Z Z Z)<|aB Z Z<|wy (gT Z Z)<|aB Z Z<|wm Z<|dD 4 [(1,PG ao),(21,bt),(29, .bool (decide ((od=0)\/(od=1))))] ((rc 27 4 ao [I tu,I so,I od,I sz])::R) ?_ ?_
 ·refine bP 25 Z (λbc=> ?_) (λbc=> ?_)
  ·refine aM Z Z Z Z<|aM Z Z Z Z<|aM Z Z Z Z<|aB Z Z<|wy (aQ Z Z)<|aA ?_;exact KP
  ·refine aB Z Z<|wy (yF 2 2 bz sz3 Z)<|aB Z Z<|wy (yL 0 au Z Z Z)<|aB Z Z<|wy (gT Z Z)<|aB Z Z<|wy (aP Z Z)<|aA ?_;exact KP
 refine oG 29 Z (hp.2.1)<|wy (aQ Z Z)<|wm Z<|aB Z Z<|wy (yF 3 3 bz sz3 Z)<|aB Z Z<|wy (yL 0 au Z Z Z)<|aB Z Z<|wy (Yl.t (jN Z Z) G)<|wy (aQ Z Z)<|wm Z<|aB Z Z<|wy (yF 3 3 bz sz3 Z)<|aB Z Z<|wy (yL 0 au Z Z Z) ?_;refine aB Z Z<|wy (Yl.t (uV Z Z) G)<|wy (aQ Z Z)<|wn Z<|aX [] 1 cC Z ?_;exact⟨_,Z,Z,Z⟩
theorem qN {A:AF} {c sz:Nat}:RdC B w0 R A 0 c sz []:=λ_ _=>⟨cD,G,G,λj v hv=>by simp at hv⟩
theorem aAu (al:RdC B w0 R an ar am 1 (ints .u8 u)) (bx:ar=u.length) (ac:aL u) (hN:u.length<=100000) (hp:(0<=so/\so<=2)/\(od=0\/od=1)/\(1<=sz/\sz<=16777216)):
  CT 74 #[sl an ar am,sl Aq 0 cq, .agg #[I 0,I so,I od,I sz]] B w0 (R) (λv R'=>v= .tuple #[sl none 0 0,sl an ar am]/\R'=R):=by
 subst bx;refine fn2 Ig Z Z Z ?_;refine wq<|wa (dC (sz:=4) Z Z) ?_;rintro _ _⟨ao,rfl,rfl⟩;refine wg Z<|wn Z<|aD<|wq<|wy (yF 0 0 bz sz3 Z)<|wy (yL 0 au Z Z Z)<|aA<|aI<|wq<|wQ Z Z<|wn Z ?_;refine aN Z<|wq<|wQ Z Z<|wn Z<|aN Z<|wq<|wQ Z Z<|wn Z<|aN Z<|aH<|aD ?_;refine aJ<|wm Z<|wg Z<|wn Z<|aX [] 1 cC Z ?_;refine⟨_,_,Z,Z,?_⟩;exact⟨Z,Z⟩
theorem aAt (al:RdC B w0 R an ar am 1 (ints .u8 u)) (bx:ar=u.length) (ac:aL u) (hN:u.length<=100000) (hp:(0<=so/\so<=2)/\(od=0\/od=1)/\(1<=sz/\sz<=16777216)):
  CT 74 #[sl an ar am,sl Aq 0 cq, .agg #[I 1,I so,I od,I sz]] B w0 (R) (λv R'=> ∃(b1:AH) (A1:AF) (c1:Nat) (A2:AF) (c2:Nat),v= .tuple #[sl A1 (aU (zat b1)).length c1,sl A2 (ofL u b1).length c2]/\b1.Perm (iota u.length)/\b1.Pairwise (bV u)/\R'=(ru 5 A1 ((aU (zat b1)).length) c1 (aU (zat b1)))::(ru 5 A2 ((ofL u b1).length) c2 (ofL u b1))::R):=by
 subst bx;refine fn2 Ig Z Z Z ?_;refine wq<|wa (dC (sz:=4) Z Z) ?_;rintro _ _⟨ao,rfl,rfl⟩;refine wg Z<|wn Z<|aD<|wq<|wy (yF 0 0 bz sz3 Z)<|wy (yL 0 au Z Z Z)<|aA<|aI<|wq<|wR Z Z<|wn Z ?_;refine dI Z<|aD<|bL mixed<|wD 1 Z (yF 1 1 bz sz3 Z)<|wD 2 Z (yL 0 au Z Z Z)<|wD 3 Z (aK Z)<|wC 0 Z (aC bKy Z (Ct.fresh (λw hw=>YZ))) ?_;rintro _ _⟨_,rfl,ew,rfl,rfl⟩;refine⟨.inr hrZ,?_⟩;refine wC 4 Z (aC bKr Z ((GC (RdC.right al [_]) (by first|rfl|(simp;done)|omega) ac hN cC))) ?_;rintro _ _⟨b1,me,mz,e1,d0,d1,d2,rfl,hso,rfl⟩;obtain⟨_,In⟩:=hso.resolve_left (λh=>absurd h.1 G);refine⟨.inl cA,?_⟩;refine wD 5 Z (aK Z)<|wD 6 Z (CZ Z Z)<|wD 7 Z (CZ Z Z)<|wD 8 Z (bB Z)<|wD 9 Z (bB Z)<|wN<|wq<|wm Z<|wm Z<|wa (aC bJn Z (Ct.fresh (λw hw=>bFj ((RdC.right al [_,_,_]) w hw) ((rdr 0 Z) w hw) In.2.1 G))) ?_;rintro _ _⟨_,rfl,ft,ee,rfl,rfl⟩;refine wm Z<|wX Z Z<|wX Z Z<|wX Z Z<|wg Z<|wg Z<|wn Z<|wq<|wm Z<|wa (aC wE Z (Ct.fresh (λw hw=>gH (by have e1:=pG In.2.1 In.2.2.1;have e2:=JN (s:=u) (k:=0) G;omega)))) ?_;rintro _ _⟨_,rfl,br,bw,rfl,rfl⟩;refine wm Z<|wg Z<|wn Z<|aX [0,1] 5 cC Z ?_;refine⟨_,_,Z,Z,?_⟩;exact⟨b1,_,_,_,_,Z,In.2.1,In.2.2.1,Z⟩
theorem aAs (al:RdC B w0 R an ar am 1 (ints .u8 u)) (bx:ar=u.length) (ac:aL u) (hN:u.length<=100000) (hp:(0<=so/\so<=2)/\(od=0\/od=1)/\(1<=sz/\sz<=16777216)):
  CT 74 #[sl an ar am,sl Aq 0 cq, .agg #[I 2,I so,I od,I sz]] B w0 (R) (λv R'=> ∃(l1:AE) (A1:AF) (c1:Nat),v= .tuple #[sl none 0 0,sl A1 l1.length c1]/\l1.Perm (iD (bws u) (bws u).length)/\l1.Pairwise (pO (bws u))/\R'=(ru 5 A1 l1.length c1 (l1.map (lastB (bws u))))::R):=by
 subst bx;refine fn2 Ig Z Z Z ?_;refine wq<|wa (dC (sz:=4) Z Z) ?_;rintro _ _⟨ao,rfl,rfl⟩;refine wg Z<|wn Z<|aD<|wq<|wy (yF 0 0 bz sz3 Z)<|wy (yL 0 au Z Z Z)<|aA<|aI<|wq<|wQ Z Z<|wn Z ?_;refine aN Z<|wq<|wR Z Z<|wn Z<|dI Z<|wq<|wm Z<|wa (aC bJw Z (Ct.fresh (λw hw=>aEi ((RdC.right al [_]) w hw) ac hN))) ?_;rintro _ _⟨_,rfl,l1,fg,fi,rfl,rj,i9,rfl⟩;refine wm Z<|wX Z Z<|wX Z Z<|wg Z<|wn Z<|wq<|wm Z<|wg Z<|wn Z<|aX [0] 2 cC Z ?_;refine⟨_,_,Z,Z,?_⟩;exact⟨l1,_,_,Z,rj,i9,Z⟩
theorem aNm (al:RdC B w0 R an ar am 1 (ints .u8 u)) (bx:ar=u.length) (ac:aL u) (hN:u.length<=100000) (hp:(0<=so/\so<=2)/\(od=0\/od=1)/\(1<=sz/\sz<=16777216)):
  CT 41 #[sl an ar am,sl Aq 0 cq, .agg #[I 0,I so,I od,I sz]] B w0 (R) (λv R'=> ∃(A1:AF) (c1:Nat),v=sl A1 (dW 0 od u).length c1/\R'=(ru 5 A1 ((dW 0 od u).length) c1 (dW 0 od u))::R):=by
 subst bx;refine fn1 Ie Z Z Z ?_;refine wq<|wa (dC (sz:=4) Z Z) ?_;rintro _ _⟨ao,rfl,rfl⟩;refine wn Z<|wq<|wm Z<|wm Z<|wy (bM (vs:=[I 0,I so,I od,I sz]) (rdr 0 Z) bz Z eF Z Z (ak Z) Z)<|wa (aC aZu Z (aAu (RdC.right al [_]) (by first|rfl|(simp;done)|omega) ac hN hp)) ?_;rintro _ _⟨rfl,rfl⟩;have mw:(u).length=u.length:=rfl;have Ky:=lV (b:=u) (o:=od) ac;have wb:=dA 2 (u.length:Int) G;have yv:=dA 2 ((bX u od).length:Int) G;refine wm Z<|wX Z Z<|wX Z Z<|wg Z<|wn Z<|wq<|wm Z<|wy (yF 2 2 bz sz3 Z)<|wy (yL 0 au Z Z Z)<|wa (aC aTu Z (Ct.fresh (λw hw=>sM ((RdC.right al [_]) w hw) ac hp.2.1 G))) ?_;rintro _ _⟨_,rfl,fg,fi,rfl,rfl⟩;refine wm Z<|wX Z Z<|wX Z Z<|wg Z<|wn Z<|wq<|wm Z<|wy (aO ah Z)<|wa (aC wE Z (Ct.fresh (λw hw=>gH G))) ?_;rintro _ _⟨_,rfl,fh,kh,rfl,rfl⟩;refine wm Z<|wm Z<|wy (aO ah Z)<|wa (aC wE Z (Ct.fresh (λw hw=>gH G))) ?_;rintro _ _⟨_,rfl,en,cj,rfl,rfl⟩;refine wa (aC YM Z (Ct.fresh (λw hw=>mD))) ?_;rintro _ _⟨_,rfl,n5,rfl,rfl⟩;refine wm Z<|wa (iA [Value.slice an u.length am] ay mJ Z Z Z Z) ?_;rintro _ _⟨Cl,rfl,rfl⟩;refine wa (aC YL Z (Ct.at 1 Z (lZ (ls:=[u]) (.inl ⟨Z,Z,cz ..,G⟩) (rdr 0 rfl) rfl (wV.one (l:=u) (RdC.right al [_,_,_,_,_]) ac (by first|rfl|simp|(simp[upd];done))) (Big.one (by first|omega|decide|simp))))) ?_;rintro _ _⟨rfl,rfl⟩;refine wa (aC aZt Z (Ct.fresh (λw hw=>BO ⟨by unfold bv;omega,by unfold bv;have:=(gP ([u]).flatten).isLt;omega⟩))) ?_;rintro _ _⟨_,rfl,oe,ot,rfl,rfl⟩;refine wm Z<|wa (iA [Value.slice fh ((aU (u.length:Int)).length) kh,Value.slice none 0 0,Value.slice en ((aU (((bX u od).length:Nat):Int)).length) cj,Value.slice oe 4 ot,Value.slice fg ((bX u od).length) fi] ay mJ Z Z Z Z) ?_;rintro _ _⟨sf,rfl,rfl⟩;refine wa (aC xX Z (Ct.fresh (λw hw=>gQ ((rdr 0 Z) w hw) ((((((eB _ _).snoc ((rdr 5 Z) w hw) (λx hx=>dQ ((bZ G) x hx)) G).snoc ((JW _) w hw) (λx hx=>by cases hx) cC).snoc ((rdr 4 rfl) w hw) (λx hx=>dQ ((bZ G) x hx)) G).snoc ((rdr 1 rfl) w hw) (λx hx=>dQ ((gZ _) x hx)) (by show(4:Nat)<=_;decide)).snoc ((rdr 6 rfl) w hw) (λx hx=>dQ ((fK _ _) x hx)) G) ⟨by simp only[pq,ig,ja,ny,jq,qo,ug,Gm,jg];have h4:(fM (bv (gP ([u]).flatten))).length=4:=rfl;omega,cD⟩))) ?_;rintro _ _⟨_,rfl,kb,kc,rfl,rfl⟩;refine wn Z<|aX [0] 9 cC Z ?_;refine⟨_,Z,?_⟩
 have e:([aU (u.length:Int),[],aU (((bX (u) od).length:Nat):Int),fM (bv (gP ([u]).flatten)),bX (u) od]).flatten=dW 0 od u:=by
  unfold dW;rw[VG (t:=0) (u:=u) cC cC];simp
 rw[<-e];exact⟨_,_,Z,Z⟩
theorem aNl (al:RdC B w0 R an ar am 1 (ints .u8 u)) (bx:ar=u.length) (ac:aL u) (hN:u.length<=100000) (hp:(0<=so/\so<=2)/\(od=0\/od=1)/\(1<=sz/\sz<=16777216)):
  CT 41 #[sl an ar am,sl Aq 0 cq, .agg #[I 1,I so,I od,I sz]] B w0 (R) (λv R'=> ∃(A1:AF) (c1:Nat),v=sl A1 (dW 1 od u).length c1/\R'=(ru 5 A1 ((dW 1 od u).length) c1 (dW 1 od u))::R):=by
 subst bx;refine fn1 Ie Z Z Z ?_;refine wq<|wa (dC (sz:=4) Z Z) ?_;rintro _ _⟨ao,rfl,rfl⟩;refine wn Z<|wq<|wm Z<|wm Z<|wy (bM (vs:=[I 1,I so,I od,I sz]) (rdr 0 Z) bz Z eF Z Z (ak Z) Z)<|wa (aC aZu Z (aAt (RdC.right al [_]) (by first|rfl|(simp;done)|omega) ac hN hp)) ?_;rintro _ _⟨b1,fg,fi,fh,kh,rfl,es,gw,rfl⟩;have mw:(ofL u b1).length=u.length:=(by rw[(KU es gw).length_eq]);have Ky:=lV (b:=ofL u b1) (o:=od) (AY ac es);have wb:=dA 2 (u.length:Int) G;have yv:=dA 2 ((bX (ofL u b1) od).length:Int) G;have hz:0<=zat b1/\zat b1<=100000:=by have e1:=pG es gw;have e2:=JN (s:=u) (k:=0) G;omega
 have sr:=dA 2 (zat b1) G;refine wm Z<|wX Z Z<|wX Z Z<|wg Z<|wn Z<|wq<|wm Z<|wy (yF 2 2 bz sz3 Z)<|wy (yL 2 au Z Z Z)<|wa (aC aTu Z (Ct.fresh (λw hw=>sM ((rdr 1 Z) w hw) (AY ac es) hp.2.1 G))) ?_;rintro _ _⟨_,rfl,en,cj,rfl,rfl⟩;refine wm Z<|wX Z Z<|wX Z Z<|wg Z<|wn Z<|wq<|wm Z<|wy (aO ah Z)<|wa (aC wE Z (Ct.fresh (λw hw=>gH G))) ?_;rintro _ _⟨_,rfl,qq,dj,rfl,rfl⟩;refine wm Z<|wm Z<|wy (aO ah Z)<|wa (aC wE Z (Ct.fresh (λw hw=>gH G))) ?_;rintro _ _⟨_,rfl,oe,ot,rfl,rfl⟩;refine wa (aC YM Z (Ct.fresh (λw hw=>mD))) ?_;rintro _ _⟨_,rfl,Sj,rfl,rfl⟩;refine wm Z<|wa (iA [Value.slice an u.length am] ay mJ Z Z Z Z) ?_;rintro _ _⟨Ln,rfl,rfl⟩;refine wa (aC YL Z (Ct.at 1 Z (lZ (ls:=[u]) (.inl ⟨Z,Z,cz ..,G⟩) (rdr 0 rfl) rfl (wV.one (l:=u) (RdC.right al [_,_,_,_,_,_,_]) ac (by first|rfl|simp|(simp[upd];done))) (Big.one (by first|omega|decide|simp))))) ?_;rintro _ _⟨rfl,rfl⟩;refine wa (aC aZt Z (Ct.fresh (λw hw=>BO ⟨by unfold bv;omega,by unfold bv;have:=(gP ([u]).flatten).isLt;omega⟩))) ?_;rintro _ _⟨_,rfl,pf,pi,rfl,rfl⟩;refine wm Z<|wa (iA [Value.slice qq ((aU (u.length:Int)).length) dj,Value.slice fg ((aU (zat b1)).length) fi,Value.slice oe ((aU (((bX (ofL u b1) od).length:Nat):Int)).length) ot,Value.slice pf 4 pi,Value.slice en ((bX (ofL u b1) od).length) cj] ay mJ Z Z Z Z) ?_;rintro _ _⟨vn,rfl,rfl⟩;refine wa (aC xX Z (Ct.fresh (λw hw=>gQ ((rdr 0 Z) w hw) ((((((eB _ _).snoc ((rdr 5 Z) w hw) (λx hx=>dQ ((bZ G) x hx)) G).snoc ((rdr 7 Z) w hw) (λx hx=>dQ ((bZ hz.1) x hx)) G).snoc ((rdr 4 Z) w hw) (λx hx=>dQ ((bZ G) x hx)) G).snoc ((rdr 1 Z) w hw) (λx hx=>dQ ((gZ _) x hx)) (by show(4:Nat)<=_;decide)).snoc ((rdr 6 Z) w hw) (λx hx=>dQ ((fK _ _) x hx)) G) ⟨by simp only[pq,ig,ja,ny,jq,qo,ug,Gm,jg];have h4:(fM (bv (gP ([u]).flatten))).length=4:=rfl;omega,cD⟩))) ?_;rintro _ _⟨_,rfl,pn,pr,rfl,rfl⟩;refine wn Z<|aX [0] 11 cC Z ?_;refine⟨_,Z,?_⟩
 have e:([aU (u.length:Int),aU (zat b1),aU (((bX (ofL u b1) od).length:Nat):Int),fM (bv (gP ([u]).flatten)),bX (ofL u b1) od]).flatten=dW 1 od u:=by
  unfold dW;rw[VH es gw];simp
 rw[<-e];exact⟨_,_,Z,Z⟩
theorem aNk (al:RdC B w0 R an ar am 1 (ints .u8 u)) (bx:ar=u.length) (ac:aL u) (hN:u.length<=100000) (hp:(0<=so/\so<=2)/\(od=0\/od=1)/\(1<=sz/\sz<=16777216)):
  CT 41 #[sl an ar am,sl Aq 0 cq, .agg #[I 2,I so,I od,I sz]] B w0 (R) (λv R'=> ∃(A1:AF) (c1:Nat),v=sl A1 (dW 2 od u).length c1/\R'=(ru 5 A1 ((dW 2 od u).length) c1 (dW 2 od u))::R):=by
 subst bx;refine fn1 Ie Z Z Z ?_;refine wq<|wa (dC (sz:=4) Z Z) ?_;rintro _ _⟨ao,rfl,rfl⟩;refine wn Z<|wq<|wm Z<|wm Z<|wy (bM (vs:=[I 2,I so,I od,I sz]) (rdr 0 Z) bz Z eF Z Z (ak Z) Z)<|wa (aC aZu Z (aAs (RdC.right al [_]) (by first|rfl|(simp;done)|omega) ac hN hp)) ?_;rintro _ _⟨l1,fg,fi,rfl,rj,i9,rfl⟩;have mw:(l1.map (lastB (bws u))).length=u.length:=(by rw[az,IE rj]);have Ky:=lV (b:=l1.map (lastB (bws u))) (o:=od) (lY rj (by rw[rA];exact ac));have wb:=dA 2 (u.length:Int) G;have yv:=dA 2 ((bX (l1.map (lastB (bws u))) od).length:Int) G;refine wm Z<|wX Z Z<|wX Z Z<|wg Z<|wn Z<|wq<|wm Z<|wy (yF 2 2 bz sz3 Z)<|wy (yL 1 au Z Z Z)<|wa (aC aTu Z (Ct.fresh (λw hw=>sM ((rdr 0 Z) w hw) (lY rj (by rw[rA];exact ac)) hp.2.1 G))) ?_;rintro _ _⟨_,rfl,fh,kh,rfl,rfl⟩;refine wm Z<|wX Z Z<|wX Z Z<|wg Z<|wn Z<|wq<|wm Z<|wy (aO ah Z)<|wa (aC wE Z (Ct.fresh (λw hw=>gH G))) ?_;rintro _ _⟨_,rfl,en,cj,rfl,rfl⟩;refine wm Z<|wm Z<|wy (aO ah Z)<|wa (aC wE Z (Ct.fresh (λw hw=>gH G))) ?_;rintro _ _⟨_,rfl,qq,dj,rfl,rfl⟩;refine wa (aC YM Z (Ct.fresh (λw hw=>mD))) ?_;rintro _ _⟨_,rfl,se,rfl,rfl⟩;refine wm Z<|wa (iA [Value.slice an u.length am] ay mJ Z Z Z Z) ?_;rintro _ _⟨Cp,rfl,rfl⟩;refine wa (aC YL Z (Ct.at 1 Z (lZ (ls:=[u]) (.inl ⟨Z,Z,cz ..,G⟩) (rdr 0 rfl) rfl (wV.one (l:=u) (RdC.right al [_,_,_,_,_,_]) ac (by first|rfl|simp|(simp[upd];done))) (Big.one (by first|omega|decide|simp))))) ?_;rintro _ _⟨rfl,rfl⟩;refine wa (aC aZt Z (Ct.fresh (λw hw=>BO ⟨by unfold bv;omega,by unfold bv;have:=(gP ([u]).flatten).isLt;omega⟩))) ?_;rintro _ _⟨_,rfl,f8,g9,rfl,rfl⟩;refine wm Z<|wa (iA [Value.slice en ((aU (u.length:Int)).length) cj,Value.slice none 0 0,Value.slice qq ((aU (((bX (l1.map (lastB (bws u))) od).length:Nat):Int)).length) dj,Value.slice f8 4 g9,Value.slice fh ((bX (l1.map (lastB (bws u))) od).length) kh] ay mJ Z Z Z Z) ?_;rintro _ _⟨Lo,rfl,rfl⟩;refine wa (aC xX Z (Ct.fresh (λw hw=>gQ ((rdr 0 Z) w hw) ((((((eB _ _).snoc ((rdr 5 Z) w hw) (λx hx=>dQ ((bZ G) x hx)) G).snoc ((JW _) w hw) (λx hx=>by cases hx) cC).snoc ((rdr 4 rfl) w hw) (λx hx=>dQ ((bZ G) x hx)) G).snoc ((rdr 1 rfl) w hw) (λx hx=>dQ ((gZ _) x hx)) (by show(4:Nat)<=_;decide)).snoc ((rdr 6 rfl) w hw) (λx hx=>dQ ((fK _ _) x hx)) G) ⟨by simp only[pq,ig,ja,ny,jq,qo,ug,Gm,jg];have h4:(fM (bv (gP ([u]).flatten))).length=4:=rfl;omega,cD⟩))) ?_;rintro _ _⟨_,rfl,va,vj,rfl,rfl⟩;refine wn Z<|aX [0] 10 cC Z ?_;refine⟨_,Z,?_⟩
 have e:([aU (u.length:Int),[],aU (((bX (l1.map (lastB (bws u))) od).length:Nat):Int),fM (bv (gP ([u]).flatten)),bX (l1.map (lastB (bws u))) od]).flatten=dW 2 od u:=by
  unfold dW;rw[VI rj i9];simp
 rw[<-e];exact⟨_,_,Z,Z⟩
variable {B g ar am:Nat} {w0:World} {R:List Row} {an:AF} {u:AH}
theorem LJ {k:Int} (al:RdC B w0 R an ar am 1 (ints .u8 u)) (bx:ar=u.length):
  CT 92 #[PG g] B w0 ((rc 146 1 g [sl an ar am])::R) (λv R'=>v=I (u.length:Int)/\R'=(rc 146 1 g [sl an ar am])::R):=by
 subst bx;refine fn1 Tryz.func92 Z Z Z ?_;refine wq<|wn Z<|aD<|wq<|wm Z<|wy (kI yf Z Z)<|aA<|aN Z<|aH<|wq<|wm Z ?_;refine wy (aF Z)<|wy (yF 0 0 Aa dP Z)<|wy (yL 0 ah Z Z Z)<|wy (aO ah Z)<|wn Z<|bN (R1:=((rc 146 1 g [sl an u.length am])::R)) hiZ ?_;exact⟨_,Z,Z,Z⟩
theorem BA {gc:Nat} {At:AF} {nt ct:Nat} {p0 p1 p2 p3 ms tt ls V:Int} {m:Nat} {Ax:AF} {nx cx:Nat} (al:RdC B w0 R an ar am 1 (ints .u8 u)) (bx:ar=u.length) (hN:u.length<=1000000) (ac:aL u) (hG:uT u V m) (hm:V<=9223372036854775807):
  CT 90 #[PG g] B w0 ((rc 87 10 g [PG gc,I p0,I p1,I p2,I p3,I ms,I tt,I ls,sl At nt ct,sl Ax nx cx])::(rc 146 1 gc [sl an ar am])::R) (λv R'=>v= .tuple #[I V,bt]/\R'=(rc 87 10 g [PG gc,I p0,I p1,I p2,I p3,I ms,I tt,I ls,sl At nt ct,sl Ax nx cx])::(rc 146 1 gc [sl (jD an m am 1) (ar-m) (am-m)])::R):=by
 subst bx;refine fn2 Tryz.func90 Z Z Z ?_;refine wq<|wg Z<|wn Z<|wq<|wm Z<|wy (aF Z)<|wy (yF 0 0 dw VP Z)<|wy (yL 0 yf Z Z Z)<|wa (aC bJe Z (Ct.pick [1,0] 2 cC Z (SB (RdC.right al [_]) Z hN ac hG hm cC))) ?_;rintro _ _⟨rfl,rfl⟩;refine wX Z Z<|wX Z Z<|wg Z<|wn Z<|aX [1,0] 2 cC Z ?_;refine⟨_,_,Z,Z,?_⟩;exact⟨Z,Z⟩
theorem aCz {B:Nat} {w0:World} {R:List Row} {g gc:Nat} {an At:AF} {ar am nt ct:Nat} {u:AH} {p0 p1 p2 p3 ms tt ls sz:Int} {b0 b1 b2:Int} {m:Nat} (al:RdC B w0 R an ar am 1 (ints .u8 u)) (bx:ar=u.length) (hN:u.length<=1000000) (ac:aL u) (h5:u.take (5:Int).toNat=[87,72,82,76,1]) (h3:(u.drop (5:Int).toNat).take (3:Int).toNat=[b0,b1,b2]) (hl8:8<=u.length) (hG:uT ((u.drop (5:Int).toNat).drop (3:Int).toNat) sz m) (wd:0<=b0/\b0<=3) (Ue:(0<=b1/\b1<=2)/\(b2=0\/b2=1)/\(1<=sz/\sz<=16777216)):
  CT 89 #[PG g] B w0 ((rc 87 10 g [PG gc,I p0,I p1,I p2,I p3,I ms,I tt,I ls,sl At nt ct,sl none 0 0])::(rc 146 1 gc [sl an ar am])::R) (λv R'=>v=bt/\R'=(rc 87 10 g [PG gc,I b0,I b1,I b2,I sz,I ms,I tt,I ls,sl At nt ct,sl none 0 0])::(rc 146 1 gc [.slice (jD (jD (jD an (5:Int).toNat am 1) (3:Int).toNat (am-(5:Int).toNat) 1) m (am-(5:Int).toNat-(3:Int).toNat) 1) (ar-(5:Int).toNat-(3:Int).toNat-m) (am-(5:Int).toNat-(3:Int).toNat-m)])::R):=by
 subst bx;have Hk:rd ((u.drop (5:Int).toNat).take (3:Int).toNat) 0=b0:=by rw[h3];rfl
 have Pz:rd ((u.drop (5:Int).toNat).take (3:Int).toNat) 1=b1:=by rw[h3];rfl
 have e9:rd ((u.drop (5:Int).toNat).take (3:Int).toNat) 2=b2:=by rw[h3];rfl
 refine fn1 Tryz.func89 Z Z Z ?_;refine wq<|wn Z<|wq<|wm Z<|wy (aF Z)<|wy (yF 0 0 dw VP Z)<|wy (yL 0 yf Z Z Z)<|wa (aC aHs Z (Ct.pick [1,0] 2 cC Z (yK (RdC.right al [_]) Z hN G))) ?_;rintro _ _⟨cr,co,rfl,rfl⟩;refine wm Z<|wX Z Z<|wX Z Z<|wg Z<|wn Z<|aD<|wq<|wm Z<|wy (dH Z)<|wm Z<|aB Z Z<|wm Z<|aB Z Z ?_;refine wy (jR ah dh wo Z (rdr 0 Z))<|aB Z Z<|wy (Yl.f (bBi (q:=[87,72,82,76,1]) Z Z (ac.take _) (by unfold aL;decide)) (by rw[h5];decide)) ?_;refine wy (aP Z Z)<|aA<|aN Z<|aH<|wq<|wm Z<|wy (aF Z)<|wy (yF 0 0 dw VP Z)<|wy (yL 2 yf Z Z Z)<|wa (aC aHs Z (Ct.pick [1,0,2] 3 cC Z (yK (RdC.fromI (RdC.right al [_,_]) G) (by rw[bn]) (by rw[bn];omega) (by rw[bn];omega)))) ?_;rintro _ _⟨fg,fi,rfl,rfl⟩;refine wm Z<|wX Z Z<|wX Z Z<|wg Z<|wn Z<|wq<|wm Z<|wa (aC EF Z (Ct.pick [3,1,0,2] 4 cC Z (BA (RdC.fromI (RdC.fromI (RdC.right al [_,_]) G) G) (by rw[bn,bn]) (by rw[bn,bn];omega) ((ac.drop _).drop _) hG G))) ?_;rintro _ _⟨rfl,rfl⟩;refine wm Z<|wX Z Z<|wX Z Z<|wg Z<|wn Z<|aD<|wq<|wm Z<|wy (dH Z)<|wm Z<|aB Z Z<|wm Z<|aB Z Z ?_;refine wy (dH Z)<|wy (aP Z Z)<|aA<|aN Z<|aH<|aD<|bL mixed<|wD 0 Z (aK Z)<|wD 1 Z (aK Z)<|wD 2 Z (aG ah sz5 Z Z (rdr 2 Z))<|wD 3 Z (aW dh Z Z (rdr 2 Z))<|wD 4 Z (jJ dh au Z)<|wD 5 Z (aK Z)<|wD 6 Z (aG ah sz5 Z Z (rdr 2 Z))<|wD 7 Z (aW dh Z Z (rdr 2 Z)) ?_;refine wD 8 Z (jJ dh au Z)<|wD 9 Z (aK Z)<|wD 10 Z (aG ah sz5 Z Z (rdr 2 Z))<|wD 11 Z (aW dh Z Z (rdr 2 Z))<|wD 12 Z (jJ dh au Z)<|wD 13 Z (aK Z)<|wD 14 Z (gV (v:= .agg #[I (rd (((u).drop (5:Int).toNat).take (3:Int).toNat) 0),I (rd (((u).drop (5:Int).toNat).take (3:Int).toNat) 1),I (rd (((u).drop (5:Int).toNat).take (3:Int).toNat) 2),I sz]) Z (λw=>cA))<|wD 15 rfl (aF rfl)<|wD 16 rfl (yF 1 1 dw eF rfl)<|qG 17 rfl cA (ND (j:=1) (r:=(rc 87 10 g [PG gc,I p0,I p1,I p2,I p3,I ms,I tt,I ls,sl At nt ct,sl none 0 0])) (vs:=[I (rd (((u).drop (5:Int).toNat).take (3:Int).toNat) 0),I (rd (((u).drop (5:Int).toNat).take (3:Int).toNat) 1),I (rd (((u).drop (5:Int).toNat).take (3:Int).toNat) 2),I sz]) 0 rfl rfl rfl eF rfl (by simp[pat,Addr.add]) rfl rfl (by intro v hv;simp at hv;rcases hv with rfl|rfl|rfl|rfl<;>rfl) (ak rfl)) ?_;rintro _ _ rfl;refine⟨.inl cA,?_⟩;refine wN<|wq<|wm Z<|wy (aF Z)<|wy (yF 1 1 dw eF Z)<|wy (bM (vs:=[I (rd (((u).drop (5:Int).toNat).take (3:Int).toNat) 0),I (rd (((u).drop (5:Int).toNat).take (3:Int).toNat) 1),I (rd (((u).drop (5:Int).toNat).take (3:Int).toNat) 2),I sz]) (rdr 0 Z) bz Z eF Z Z (ak Z) Z)<|wa (aC aMm Z (wJ (by rw[Hk];exact wd) (by rw[Pz,e9];exact Ue))) ?_;rintro _ _⟨rfl,rfl⟩;refine wn Z<|aX [0,1] 4 cC Z ?_;refine⟨_,Z,?_⟩;rw[Hk,Pz,e9];exact⟨Z,Z⟩
end Go.Proofs.YtdbebmmhdefgdaaGreat
namespace Go.Pure
open Go Go.Eng
variable {x b l C:AH} {m:Nat} {low size total o y i:Int}
def sS (l:AH):Int:=l.foldl (λa d=>a*256+d) 0
theorem DW (l:AH) (d:Int):sS (l++[d])=sS l*256+d:=by unfold sS;rw[Hw];rfl
theorem aKl (h:m<x.length):sS (x.take (m+1))=sS (x.take m)*256+rd x (m:Int):=by
 have e:=dF (j:=(m:Int)) (show(0:Int)<=m by omega) (show(m:Int)<x.length by omega);rw[show((m:Int)+1).toNat=m+1 by omega,bq] at e;rw[e,DW]
theorem XG: ∀(k:Nat) (N:Int),0<=N->N<256^k->sS (beL k N)=N
 |0,N,h0,h1=>by rw[ww] at h1;show(0:Int)=N;omega
 |k+1,N,h0,h1=>by
  rw[xx] at h1;rw[beL,DW,XG k (N/256) G (zi G h1)];omega
theorem aUj (N:Int) (m:Nat):N/256/256^m=N/256^(m+1):=by
 rw[xx,Dn,Int.ediv_ediv_of_nonneg G]
theorem ZX (a:Nat): ∀(m:Nat) (N:Int),(beL (a+m) N).take a=beL a (N/256^m)
 |0,N=>by rw[ww,Int.ediv_one,qf];exact bi (by rw[lL];exact dn _)
 |m+1,N=>by
  rw[show a+(m+1)=(a+m)+1 by omega,beL,List.take_append_of_le_length (by rw[lL];omega),ZX a m (N/256),aUj]
theorem BB: ∀(k:Nat) (l:AH),l.length=k->aL l->0<=sS l/\sS l<256^k
 |0,l,h,_=>by rw[dx h,ww];show(0:Int)<=0/\(0:Int)<1;omega
 | k+1,l,h,hb=>by
  have hl:(k:Int)<l.length:=G
  have e:l=l.take k++[rd l (k:Int)]:=by
   have e:=dF (j:=(k:Int)) (show(0:Int)<=k by omega) hl;rw[show((k:Int)+1).toNat=k+1 by omega,bq,bi G] at e;exact e
  have ih:=BB k (l.take k) (by rw[ax];omega) (hb.take _);have hd:=hb.rd (k:Int);rw[e,DW,xx];omega
structure InC (s f:CdS):Prop where
 k:s.k<=f.k
 lo:s.N*256^(f.k-s.k)<=f.N
 hi:f.N+f.R<=(s.N+s.R)*256^(f.k-s.k)
theorem InC.refl (s:CdS):InC s s:=⟨dn _,by rw[Dy,ww,Bj];exact lq _,by rw[Dy,ww,Bj];exact lq _⟩
theorem InC.trans {a b c:CdS} (h:InC a b) (g:InC b c):InC a c:=by
 have hk:=h.k;have gk:=g.k;have e:c.k-a.k=(b.k-a.k)+(c.k-b.k):=G
 have hp:(0:Int)<=256^(c.k-b.k):=uz G;refine⟨G,?_,?_⟩
 ·rw [e,zo,<-um];exact Jg (og h.lo hp) g.lo
 ·rw [e,zo,<-um];exact Jg g.hi (og h.hi hp)
theorem aGc {s:CdS} (h:aAj s) (hs:wU low size total):InC s (iN s low size total):=by
 obtain⟨r0,r1,n0,nr⟩:=h;obtain⟨f1,f2,f3,f4,f5⟩:=qJ hs ⟨r0,r1⟩;unfold iN;generalize hq:s.R/total*size=R1 at*;generalize hl:s.R/total*low=x at*;generalize shN R1=j at*;have hp:(0:Int)<=256^j:=uz G;refine⟨by dsimp only;omega,?_,?_⟩
 ·show s.N*256^(s.k+j-s.k)<=(s.N+x)*256^j;rw[show s.k+j-s.k=j by omega];exact og G hp
 ·show (s.N+x)*256^j+R1*256^j<=(s.N+s.R)*256^(s.k+j-s.k);rw[show s.k+j-s.k=j by omega,<-Ke];exact og G hp
theorem VU (o:Int) (s:PpS) (x:Int):(kU o s x).cd=uQ s.cd (vG o s) x:=by unfold kU aJr;split<;>(try split)<;>rfl
theorem aHb {o:Int}: ∀(l:AH) (s:PpS),aEr l->NZ s->InC s.cd (l.foldl (kU o) s).cd
 |[],s,_,_=>InC.refl _
 |x::l,s,hl,h=>by
  have hx:=hl x cD;have h1:=JD (o:=o) h hx.1 hx.2;have h2:=aHb (o:=o) l (kU o s x) (λy hy=>hl y (fw _ hy)) h1.1;rw[List.foldl_cons];refine InC.trans ?_ h2;rw[VU];exact aGc h.2.2 (mR (GX (o:=o) h) hx.1 hx.2)
theorem aWy {s f:CdS} (h:aAj s) (hs:wU low size total) (hf:InC (iN s low size total) f) (hr:0<f.R):
  s.R/total*low<=f.N/256^(f.k-s.k)-s.N/\f.N/256^(f.k-s.k)-s.N<s.R/total*(low+size):=by
 obtain⟨hk,v8,Tl⟩:=hf;unfold iN at hk v8 Tl;dsimp only at hk v8 Tl;rw[Kg];generalize s.R/total*size=R1 at*;generalize s.R/total*low=x at*;generalize shN R1=j at*;have e:f.k-s.k=j+(f.k-(s.k+j)):=G
 have hp:(0:Int)<256^(f.k-s.k):=Fp G;rw[um,<-zo,<-e] at v8;rw[<-Ke,um,<-zo,<-e] at Tl;have h1:=(Ai (a:=s.N+x) (b:=f.N) hp).2 v8;have h2:=zi (a:=f.N) (b:=s.N+x+R1) hp G;omega
theorem aTt (o:Int) (l m:AH):encP o (l++m)=m.foldl (kU o) (encP o l):=by unfold encP;rw[Hw]
theorem aRb (h:aL b) {k:Nat} (hk:k<=(encP o (bI b)).cd.k):sS ((bX b o).take (k+4))=(encP o (bI b)).cd.N/256^((encP o (bI b)).cd.k-k):=by
 have hc:=(BU (o:=o) (sD h)).1.2.2;unfold bX;generalize (encP o (bI b)).cd=f at*;obtain⟨r0,r1,n0,nr⟩:=hc;rw[show f.k+4=(k+4)+(f.k-k) by omega,ZX];refine XG _ _ (Gb n0 (uz G)) ?_;refine zi (Fp G) ?_;rw[<-zo,show k+4+(f.k-k)=f.k+4 by omega];omega
def cuC (x:AH) (s:CdS):Int:=sS (x.take (s.k+4))-s.N
theorem aUm {C q:Int} (hq:0<q) (h1:q*low<=C) (h2:C<q*(low+size)):low<=C/q/\C/q<low+size:=
 ⟨(Ai hq).2 (by rw[Dn];exact h1),zi hq (by rw[Dn];exact h2)⟩
structure tL (x:AH) (cd:CdS) (C:AH) (y:Int):Prop where
 lo:cd.R/aR C*aR (C.take y.toNat)<=cuC x cd
 hi:cuC x cd<cd.R/aR C*(aR (C.take y.toNat)+rd C y)
 c0:0<=cuC x cd
 c1:cuC x cd<4294967296
 v0:aR (C.take y.toNat)<=cuC x cd/(cd.R/aR C)
 v1:cuC x cd/(cd.R/aR C)<aR (C.take y.toNat)+rd C y
 len:(uQ cd C y).k+4<=x.length
theorem aUn {r:AH} (hb:aL b) (hl:bI b=l++y::r):tL (bX b o) (encP o l).cd (vG o (encP o l)) y:=by
 have It:=sD hb;have hy:=It y (by rw[hl];simp);have ka:aEr l:=λz hz=>It z (by rw[hl];exact Fu _ hz);have hsr:aEr r:=λz hz=>It z (by rw[hl];exact List.mem_append_right _ (fw _ hz));have dr:=(BU (o:=o) ka).1;have s6:=mR (GX (o:=o) dr) hy.1 hy.2;have h1:=JD (o:=o) dr hy.1 hy.2;have dv:=aHb (o:=o) r _ hsr h1.1;have hf:(encP o (bI b)).cd=(r.foldl (kU o) (kU o (encP o l) y)).cd:=by rw[hl,aTt];rfl
 have Zb:=(BU (o:=o) It).1.2.2;rw[<-hf,VU] at dv;have hc:=dr.2.2;have hs:=aWy hc s6 dv (by have:=Zb.1;omega);have hk:(encP o l).cd.k<=(encP o (bI b)).cd.k:=((aGc hc s6).trans dv).k;have Zt:=aRb (o:=o) hb hk;have hcu:cuC (bX b o) (encP o l).cd=(encP o (bI b)).cd.N/256^((encP o (bI b)).cd.k-(encP o l).cd.k)-(encP o l).cd.N:=by unfold cuC;rw[Zt]
 rw[<-hcu] at hs;have hfa:=qJ s6 ⟨hc.1,hc.2.1⟩;have hc0:0<=cuC (bX b o) (encP o l).cd:=G
 have hq:0<(encP o l).cd.R/aR (vG o (encP o l)):=G
 have hd:=aUm hq hs.1 hs.2;have Hx:=hs.2;rw[Kg] at Hx;exact⟨hs.1,hs.2,hc0,by have:=hc.2.1;omega,hd.1,hd.2,by unfold bX;rw[lL];have:=dv.k;omega⟩
theorem OU {C:AH} (h: ∀c∈C,1<=c) {i:Int} (i0:0<=i): ∀k:Nat,i+k<=C.length->aR (C.take i.toNat)<=aR (C.take (i+k).toNat)
 |0,_=>by rw[show i+((0:Nat):Int)=i by omega];exact lq _
 |k+1,hk=>by
  have ih:=OU h i0 k G;have e:=sF (l:=C) (i:=i+k) G G;have:=h _ (bF (L:=C) (k:=i+k) G G);rw[show i+((k+1:Nat):Int)=i+k+1 by omega];omega
theorem aWx {C:AH} (h: ∀c∈C,1<=c) {v:Int} (i0:0<=i) (hi:i<=y) (hy:y<C.length) (g1:aR (C.take y.toNat)<=v) (hv:v<aR (C.take i.toNat)+rd C i):i=y:=by
 have e1:=sF (l:=C) i0 G;rcases Aj hi with c|c
 ·have:=OU h (i:=i+1) G (y-i-1).toNat G;rw[show i+1+((y-i-1).toNat:Int)=y by omega] at this;omega
 ·exact c
theorem aWt (hb:aL b) (i0:0<=i) (hi:i<(bI b).length):rd (bI b) i=257↔i=(bI b).length-1:=by
 have hlen:((bI b).length:Int)=(cB 0 (bS bD b)).length+1:=by unfold bI;rw[ai,ii];omega
 constructor
 ·intro h;rcases bu i (cB 0 (bS bD b)).length with c|c
  ·exfalso;unfold bI at h;rw[jZ i0 c] at h;have:=GN (bS bD b) 0 (qP hb) _ (bF i0 c);omega
  ·omega
 ·intro h;unfold bI;rw[gY G,show i-(cB 0 (bS bD b)).length=0 by omega];rfl
theorem DJ (b:AH):(bI b).take ((bI b).length-1)=cB 0 (bS bD b):=by
 unfold bI;rw[ai,ii,Gz,Dv]
theorem aBb (i0:0<=i) (hi:i<(bI b).length):bI b=(bI b).take i.toNat++rd (bI b) i::(bI b).drop (i+1).toNat:=by
 conv=>lhs;rw[<-ik i.toNat (bI b),gM i0 hi]
theorem aYp {s:PpS} (hb:aL b) (hx:x=bX b o) (hS:s=encP o ((bI b).take i.toNat)) (i0:0<=i) (hi:i<(bI b).length):tL x s.cd (vG o s) (rd (bI b) i):=by
 subst hx;subst hS;exact aUn hb (aBb i0 hi)
theorem tL.w0 {s:PpS} (h:tL x s.cd (vG o s) y) (hk:s.cls*o=0):tL x s.cd s.c0 y:=by
 unfold vG at h;rwa[di hk] at h
theorem tL.w1 {s:PpS} (h:tL x s.cd (vG o s) y) (hk:s.cls*o=1):tL x s.cd s.c1 y:=by
 unfold vG at h;rwa[df G,di hk] at h
theorem tL.w2 {s:PpS} (h:tL x s.cd (vG o s) y) (hk:s.cls*o=2):tL x s.cd s.c2 y:=by
 unfold vG at h;rwa[df G,df G] at h
theorem tL.tot {cd:CdS} (h:tL x cd C y) (dr:mH C) (h0:0<=y) (hy:y<258):cuC x cd/(cd.R/aR C)<aR C/\1<=aR C/\aR C<=65536:=by
 have h1:=h.v1;have h2:=sG (i:=y) dr.2.1 h0 (by rw[dr.1];omega);have h3:=dr.2.2;omega
theorem bFn {dt p:Int} {acc q:AH} (h:bkL dt (l.drop i.toNat) acc p=some q) (i0:0<=i) (hi:i<l.length):(0<=rd l i/\rd l i<257)/\
    ((2<=rd l i/\(acc.length:Int)+1<=dt/\bkL dt (l.drop (i+1).toNat) (acc++[rd l i-1]) 1=some q)\/
     (rd l i<2/\p<=dt/\(rd l i+1)*p<=dt-acc.length/\bkL dt (l.drop (i+1).toNat) (acc++List.replicate ((rd l i+1)*p).toNat 0) (p*2)=some q)):=by
  rw[gM i0 hi,bkL] at h;split at h
  · cases h
  · split at h
    · split at h
      · cases h
      · exact⟨G, .inl ⟨G,G,h⟩⟩
    · split at h
      · cases h
      · exact⟨G, .inr ⟨G,G,G,h⟩⟩
theorem YY {c M:Int} (hm:m<x.length) (h:c=sS (x.take m)-M):c*256+rd x (m:Int)=sS (x.take (m+1))-M*256:=by
 rw[aKl hm,h];omega
end Go.Pure
namespace Go.Eng
open Go Go.RowKit Go.Pure
section
variable {P:Program} {n:Nd} {B:Nat} {w0:World} {L:Env} {R:List Row} {ty:TypeId}
theorem wrap32 {x:Int} (h:0<=x/\x<4294967296):IntKind.u32.wrap x=x:=by
 simp[IntKind.wrap,IntKind.bits,IntKind.signed];omega
theorem yE {p:Int} (h:0<=p/\p<4294967296):(BitVec.ofInt 32 p).toNat=p.toNat:=by
 rw[Cv];have e:((2^32:Nat):Int)=4294967296:=rfl;rw[e,qj h.1 h.2]
theorem zG {x:Operand} {s d:TypeId} {j:IntKind} {p:Int} {td:TypeDesc} (eh:P.underlying s=some td) (hd:P.underlying d=some (.int .u32)) (hx:ev L x=some (.int j p)) (h:0<=p/\p<4294967296):Yl P n B w0 (.convert s d x) ty L R (.int .u32 p):=by
 have:=qF (P:=P) (n:=n) (B:=B) (w0:=w0) (R:=R) (ty:=ty) eh hd hx;rwa[wrap32 h] at this
theorem aJv (x m:Int) (h:0<=x*m/\x*m<4294967296) (j:IntKind) (k:Nat) (hk:k<=32) (hm:(2:Int)^k=m) (w:World):(Op.shift .shl .u32 x j (k:Int)).run P w= .ok (.int .u32 (x*m)) w:=by
 have hn: ¬((k:Int)<0):=G
 have hb:min (k:Int).toNat (IntKind.bits .u32)=k:=by
  have:IntKind.bits .u32=32:=rfl;omega
 unfold Op.shift;simp only[hn,hb,xg,hm,wrap32 h];rfl
theorem GH {x y:Operand} {t u:TypeId} {a m:Int} {j:IntKind} {k:Nat} (hx:ev L x=some (.int .u32 a)) (hy:ev L y=some (.int j (k:Int))) (hm:(2:Int)^k=m) (h:0<=a*m/\a*m<4294967296) (hk:Nat.ble k 32=true):Yl P n B w0 (.binOp .shl t x y u) ty L R (.int .u32 (a*m)):=by
 intro a' w o ho _ hs _;simp[execOp,ho,hs.ev hx,hs.ev hy,binOp,eqGuard,aJv a m h j k (ak hk) hm]
theorem aPk (p q:Int) (k:Nat) (m:Int) (hm:(2:Int)^k=m) (h:0<=p/\p*m+q<4294967296) (hq:0<=q/\q<m) (w:World):(Op.intBits .or .u32 q (p*m)).run P w= .ok (.int .u32 (q+p*m)) w:=by
 show Result.ok (Value.int .u32 (IntKind.u32.wrap ((BitVec.ofInt 32 q|||BitVec.ofInt 32 (p*m)).toNat:Int))) w=_;have hpm:0<=p*m:=Ab h.1 G;rw[BitVec.or_comm,Ka,yE G,yE G]
 have e1:(p*m).toNat=2^k*p.toNat:=by
  have:p*m=((2^k*p.toNat:Nat):Int):=by
   rw[Av,lc h.1,Gc,<-hm,Dn];rfl
  rw[this,bq]
 have e2:q.toNat<2^k:=by
  have:((2^k:Nat):Int)=m:=by rw[<-hm,Gc];rfl
  omega
 rw[e1,<-Gn e2,<-e1];rw[show(((p*m).toNat+q.toNat:Nat):Int)=q+p*m by omega,wrap32 G]
theorem RU {x y:Operand} {t u:TypeId} {p q m:Int} (k:Nat) (hx:ev L x=some (.int .u32 q)) (hy:ev L y=some (.int .u32 (p*m))) (hm:(2:Int)^k=m) (h:0<=p/\p*m+q<4294967296) (hq:0<=q/\q<m):Yl P n B w0 (.binOp .or t x y u) ty L R (.int .u32 (q+p*m)):=by
 intro a w o ho _ hs _;simp[execOp,ho,binOp,eqGuard,hs.ev hx,hs.ev hy,aPk p q k m hm h hq]
theorem vI {w:World} (base:Nat) (t tn ty e:TypeId) (kn:IntKind) (i:TypeInfo) (z:Value) (bytes:Nat) (ht:P.underlying t=some (.slice e)) (Qf:P.underlying tn=some (.int kn)) (hi:P.info? e=some i) (hz:i.zero=some z)
  (Ob:i.size=1) (Ku:i.bytes=bytes) (Rr:z.cells= #[z]) (wk:z.oneCell'=true) (v:Value) (n:Nat) (xs:AG) (fc:w.ownsRow base e 1 v n xs) (m:Nat) (h0:0<m) (Xp:n+m<=maxLen) (iz:(n+m)*bytes<=140737488355328) (Tf:base<=w.heap.size):
  ∃v' w',(Builtin.append_ #[t,tn] ty #[v, .int .i64 (m:Int)]).run P w= .ok v' w'/\w'.ownsRow base e 1 v' (n+m) (xs++List.replicate m z)/\w.grownBy w' v.ownBlock/\(v'.ownBlock=v.ownBlock\/v'.ownBlock=some w.heap.size):=by
 subst Ku;have pv:n+m<=9223372036854775807:=by simp only[maxLen] at Xp;omega
 have hl:(List.replicate m z).length=m:=cz;have hlen:(xs++List.replicate m z).length=(n+m)*1:=by rw[ai,fc.1,hl];omega
 have Wv: ∀q,(Builtin.zeroCells z.cells q).toList=List.replicate q z:=λq=>by
  rw[Rr];refine sw (by simp[Builtin.zeroCells]) λi h1 h2=> ?_;simp[Builtin.zeroCells,Nat.mod_one]
 have yp:Builtin.zeroCells z.cells m=(List.replicate m z).toArray:=by rw[<-Wv m]
 have sv:m≠0:=G
 have hw:IntKind.i64.wrap (m:Int)=m:=by rw[Bp];omega
 have Mn: ¬((m:Int)<0):=G
 have Re:m*i.bytes<=(n+m)*i.bytes:=ul _ G
 have Sk: ¬(281474976710656<(m:Int)*(i.bytes:Int)):=by
  rw[<-Av];omega
 have grown: ∀(old:Nat),old<n+m-> ∀(row:Option Nat),
   (w.drew.alloc (.cells (xs.toArray++Builtin.zeroCells z.cells m++Builtin.zeroCells z.cells (grownCap w (n+m) old e-(n+m))) e)).ownsRow base e 1 (.slice (some ⟨w.heap.size,0,none⟩) (n+m) (grownCap w (n+m) old e)) (n+m) (xs++List.replicate m z)/\
   w.grownBy (w.drew.alloc (.cells (xs.toArray++Builtin.zeroCells z.cells m++Builtin.zeroCells z.cells (grownCap w (n+m) old e-(n+m))) e)) row:=by
  intro old ho row;have Fo:=grownCap_ge w (n+m) old e;have pt:grownCap w (n+m) old e<=maxLen:=Ho w (n+m) old e Xp;have s8:=fc.1;refine⟨⟨hlen, .inr ⟨w.heap.size,_,_,rfl,Tf,heap_alloc_new w.drew _,Fo,pt,?_,?_⟩⟩,⟨rfl,rfl,rfl,cD,λk hk _=>by first|exact heap_alloc_old w.drew _ k hk|exact heap_alloc_old w.drew _ hk⟩⟩
  ·rw [<-jr,uu,uu,ai,ai,Wv,Wv,cz,cz];show xs.length+m+_=_;omega
  ·rw [uu,uu,Wv,<-hlen];exact Dv
 rcases fc.2 with⟨rfl,rfl⟩|⟨g,cap,cur,rfl,hbg,hg,hnc,pt,ie,htake⟩
 ·have hx:xs=[]:=dx (by simpa using fc.1);subst hx;have hr:=Lib.run_append_nil_zeros (P:=P) w t tn ty e i z .i64 kn ht Qf hi hz m h0 G G G;have Qr:=grown 0 G (Value.ownBlock (.slice none 0 0));simp only[mg,ig,Array.empty_append] at Qr ⊢;exact⟨_,_,hr,Qr.1,Qr.2,Or.inr rfl⟩
 ·by_cases oy:n+m<=cap
  ·have b7:n*1+(List.replicate m z).length<=cur.size:=by rw[hl,ie];omega
   have ff:=run_storeCells_at P g (n*1) e (List.replicate m z) 0 cur w hg (by simpa using b7) (λu hu=>by rw[Ce hu];exact wk);simp only[qf] at ff
   have hr:(Builtin.append_ #[t,tn] ty #[.slice (some ⟨g,0,none⟩) n cap, .int .i64 (m:Int)]).run P w= .ok (.slice (some ⟨g,0,none⟩) (n+m) cap) (w.setRow g (cur.toList.take (n*1)++List.replicate m z++cur.toList.drop (n*1+(List.replicate m z).length)).toArray):=by
    simp only[qg] at ff;simp[Builtin.append_,mo ht,mo Qf,sizeOf,typeInfo,zeroValue,hi,hz,asInt,asIntOf,hw,sv,Mn,Sk,Ob,oy,yp,Addr.add_lit,ff]
   refine⟨_,_,hr,⟨hlen, .inr ⟨g,cap,_,rfl,hbg,Km w g cur _ e _ hg,oy,pt,?_,?_⟩⟩,⟨rfl,rfl,rfl,cD,λk _ hk=>Jy w g k _ (λe=>hk (by simp[Value.ownBlock,e]))⟩,Or.inl rfl⟩
   ·simp only[qb,ai,ax,bn,jr];omega
   ·rw [htake,<-hlen];exact Dv
  ·have holds: ∀j u,xs[j]? =some u->w.cell? ((⟨g,0,none⟩:Addr).add j)=some u:=fc.cells (g:=g) rfl;have Zb:=run_firstCells_some (P:=P) w.drew 1 n ⟨g,0,none⟩ n cap xs fc.1 (by simpa using holds);have hn: ¬(n+m<=cap):=oy;have Xq: ¬(9223372036854775807<((n:Int)+(m:Int))):=G
   have hfits:=growslice_fits (old:=cap) G iz;have Xo: ¬(281474976710656<Builtin.nextslicecap (n+m) cap*i.bytes):=G
   have hr:(Builtin.append_ #[t,tn] ty #[.slice (some ⟨g,0,none⟩) n cap, .int .i64 (m:Int)]).run P w= .ok (.slice (some ⟨w.heap.size,0,none⟩) (n+m) (grownCap w (n+m) cap e)) (w.drew.alloc (.cells (xs.toArray++Builtin.zeroCells z.cells m++Builtin.zeroCells z.cells (grownCap w (n+m) cap e-(n+m))) e)):=by
    simp[Builtin.append_,mo ht,mo Qf,sizeOf,typeInfo,zeroValue,hi,hz,asInt,asIntOf,hw,sv,Mn,Sk,Ob,hn,Xq,Xo,Question.forced,Zb,newRow,grownCap]
   have Qr:=grown cap G (Value.ownBlock (.slice (some ⟨g,0,none⟩) n cap));exact⟨_,_,hr,Qr.1,Qr.2,Or.inr rfl⟩
theorem aVz {s x:Operand} {t tn e:TypeId} {bytes m:Nat} {kn k:IntKind} {A:AF} {c q:Nat} {l:AH} (i:Nat) (hi:R[i]? =some ⟨e,1,A,q,c,ints k l,false⟩) (ht:P.underlying t=some (.slice e)) (Qf:P.underlying tn=some (.int kn)) (dq:(P.info? e).map (λi=>(i.zero,i.size,i.bytes))=some (some (.int k 0),1,bytes))
  (hs:ev L s=some (.slice A q c)) (hx:ev L x=some (.int .i64 (m:Int))) (h0:0<m) (Xp:q+m<=1000000) (iz:(q+m)*bytes<=140737488355328):
  Ac P n B w0 (.call {callee:= .builtin .append,args:= #[s,x],argTypes:= #[t,tn]}) ty L R (λv R'=> ∃A' c',v= .slice A' (q+m) c'/\R'=R.set i ⟨e,1,A',q+m,c',ints k (l++List.replicate m 0),false⟩):=by
 intro a w o K Q ho _ eh hp hk;obtain⟨i0,bb,yp⟩:=iy.1 dq;simp only[zz] at yp;obtain⟨wj,wk,w7⟩:=yp;have hr:=hp.own _ (gq hi);have fc:=Row.lies_w hr rfl;obtain⟨v',w',h2,h3,h4,h5⟩:=vI (P:=P) B t tn o.type e kn i0 (.int k 0) bytes ht Qf bb wj wk w7 rfl rfl _ q (ints k l) fc m h0 (by unfold maxLen;omega) iz hp.base
 have Fm: ∃A' c',v'= .slice A' (q+m) c':=by
  rcases h3.2 with⟨rfl,hn⟩|⟨g,cap,cur,rfl,_⟩
  ·exact⟨none,0,by rw[hn]⟩
  ·exact⟨_,cap,rfl⟩
 obtain⟨A',c',rfl⟩:=Fm;have hrep:ints k l++List.replicate m (.int k 0)=ints k (l++List.replicate m 0):=by simp[ints]
 rw[hrep] at h3;unfold Oper.wp execOp;simp only[ho,resolve,invoke,builtin,jl,nu,jo,tq,jq,qo,eh.ev hs,eh.ev hx,h2,Oper.upon];refine hk _ w' _ ?_ ⟨A',c',rfl,rfl⟩;refine hp.upd hi h4 (JL _ _ _ _ h2) (λk hk=> ?_) ?_ (λa' nb=> ?_)
 ·cases hA:A with
  |none=>rw[hA] at hk;simp[Value.ownBlock] at hk
  |some a1=>rw[hA] at hk;simp only[Value.ownBlock,lv] at hk;exact⟨a1,rfl,hk⟩
 ·exact h3
 ·have Lz:A'=some a':=nb;subst Lz;rcases h5 with h5|h5
  ·cases hA:A with
   |none=>rw[hA] at h5;simp[Value.ownBlock] at h5
   |some a1=>rw[hA] at h5;simp only[Value.ownBlock,lv] at h5;exact .inl ⟨a1,rfl,h5.symm⟩
  ·simp only[Value.ownBlock,lv] at h5;exact .inr G
end
theorem aZn {x:Int} (h:0<=x/\x<4294967296):0+x/1%256*1+x/256%256*256+x/65536%256*65536+x/16777216%256*16777216=x:=G
end Go.Eng
namespace Go.Proofs.YtdbebmmhdefgdaaGreat
open Go Go.Eng Go.Pure
open Tryz
set_option maxRecDepth 100000
variable {B g n c:Nat} {w0:World} {R:List Row} {A:AF} {x:AH} {us cc r total:Int}
theorem uE {C:AH} {y v0:Int} (hn:n=C.length) (dr:mH C) (hy:0<=y/\y<258) (hv:aR (C.take y.toNat)<=v0/\v0<aR (C.take y.toNat)+rd C y):
  CT 301 #[PG g,I v0] B w0 ((rc 256 2 g [sl A n c,I (aR C)])::(ri 3 A n c C)::R) (λv R'=>v= .tuple #[I y,bt]/\R'=(rc 256 2 g [sl A n c,I (aR C)])::(ri 3 A n c C)::R):=by
 subst hn;have ki:=dr.1;have hpy:=dr.le.part hy.1 hy.2;have Py:=sG (i:=y) dr.2.1 hy.1 G;refine fn2 Tryz.func301 Z Z Z ?_;refine wq<|wg Z<|wn Z<|aD<|wq<|wm Z<|wy (Yl.f (fO Z Z))<|wm Z<|aB Z Z<|wm Z<|aB Z Z<|wm Z ?_;refine aB Z Z<|wa (aC MC Z ((iX))) ?_;rintro _ _⟨rfl,rfl⟩;refine aB Z Z<|wy (Yl.f (jN Z Z))<|wy (aP Z Z)<|aA<|aN Z<|aH<|aD<|aI ?_;refine dS (λ(i:Int) (x:Int)=>[(0,PG g),(1,I x),(4,I i)]) (λi x=>((rc 256 2 g [sl A C.length c,I (aR C)])::(ri 3 A C.length c C)::R)) (λi x=>(0<=i)/\(i<=y)/\(x=v0-aR (C.take i.toNat))) (λi x=>(y-i).toNat) ?_ ?_
 ·exact⟨0,v0,⟨G,G,(by rw[show aR (C.take (0:Int).toNat)=0 from rfl];omega)⟩,KP⟩
 intro i x ⟨bb,ij,hx⟩;have hp:=dr.le.part bb G;refine aD<|wq<|wm Z<|wm Z<|wy (aF Z)<|wy (yF 0 0 pu iL Z)<|wy (yL 0 aa Z Z Z)<|wm Z<|wy (aG aa sz3 Z Z (rdr 1 Z))<|wy (aW au Z Z (rdr 1 Z))<|wy (jN Z Z)<|aA<|bA Z (λbc=> ?_) (λbc=> ?_)
 ·have cg:i≠y:=by rintro rfl;omega
  refine aH<|aI<|wq<|wm Z<|wm Z<|wy (aF Z)<|wy (yF 0 0 pu iL Z)<|wy (yL 0 aa Z Z Z)<|wm Z<|wy (aG aa sz3 Z Z (rdr 1 Z))<|wy (aW au Z Z (rdr 1 Z))<|wS Z Z<|wn Z ?_;refine aJ<|wm Z<|wA Z Z<|wn Z ?_;exact⟨i+1,x-(rd C i),⟨G,G,(by rw[sF bb G];omega)⟩,G,KP⟩
 ·refine aS<|wq<|wm Z<|wg Z<|wn Z<|bN (R1:=((rc 256 2 g [sl A C.length c,I (aR C)])::(ri 3 A C.length c C)::R)) hiZ ?_;refine⟨_,_,Z,Z,?_⟩;obtain rfl:i=y:=aWx dr.2.1 bb ij G hv.1 G;exact⟨Z,Z⟩
theorem qL {M:Int} {m:Nat} (hn:n=x.length) (m6:aL x) (hN:x.length<=1000000) (hu:us=(m:Int)) (hc:cc=sS (x.take m)-M) (hb:0<=cc/\cc<4294967296) (hm:m<x.length):
  CT 327 #[PG g] B w0 ((rc 360 4 g [sl A n c,I us, .int .u64 cc, .int .u64 r])::(ru 5 A n c x)::R) (λv R'=>v=bt/\R'=(rc 360 4 g [sl A n c,I ((m+1:Nat):Int), .int .u64 (sS (x.take (m+1))-M*256), .int .u64 r])::(ru 5 A n c x)::R):=by
 subst hn;subst hu;have hbx:=m6.rd (m:Int);refine fn1 Tryz.func327 Z Z Z ?_;refine wq<|wn Z<|aD<|aD<|bL mixed<|wD 0 Z (aK Z)<|wD 1 Z (aF Z)<|wD 2 Z (yF 1 1 ou sz3 Z)<|wD 3 Z (yL 0 au Z Z Z)<|wD 4 Z (aK Z)<|wD 5 Z (aF Z)<|wD 6 Z (yF 0 0 ou dP Z)<|wD 7 Z (yL 0 ah Z Z Z) ?_;refine wD 8 Z (aO ah Z)<|wD 9 Z (Yl.f (jN Z Z))<|wN<|aN Z<|aH<|aD<|bL mixed<|wD 0 Z (aK Z)<|wD 1 Z (aK Z)<|wD 2 Z (aF Z)<|wD 3 Z (yF 2 2 ou dX Z)<|wD 4 Z (yL 0 gy Z Z Z)<|wD 5 Z (yH (k:=8) (m:=256) Z Z Z G Z)<|wD 6 Z (aK Z)<|wD 7 Z (aF Z) ?_;refine wD 8 Z (yF 0 0 ou dP Z)<|wD 9 Z (yL 0 ah Z Z Z)<|wD 10 Z (aK Z)<|wD 11 Z (aF Z)<|wD 12 Z (yF 1 1 ou sz3 Z)<|wD 13 Z (yL 0 au Z Z Z)<|wD 14 Z (aG ah sz5 Z Z (rdr 1 Z))<|wD 15 Z (aW dh Z Z (rdr 1 Z))<|wD 16 Z (jI dh gy Z)<|wD 17 Z (bGe (p:=cc) (m:=256) 8 Z Z Z G G)<|wD 18 Z (aF Z)<|wD 19 Z (yF 2 2 ou dX Z)<|qG 20 Z cA (aZ 0 Z Z Z dX Z Z Z Z (ak Z)) ?_;rintro _ _ rfl;refine⟨.inl cA,?_⟩;refine wN<|wq<|wm Z<|wy (aF Z)<|wy (yF 1 1 ou sz3 Z)<|wy (yL 0 au Z Z Z)<|wA Z Z<|wy (aF Z)<|wy (yF 1 1 ou sz3 Z)<|bY (aZ 0 Z Z Z sz3 Z Z Z Z (ak Z)) ?_;rintro _ _ rfl;refine aA<|wq<|wn Z<|bN (R1:=((rc 360 4 g [sl A x.length c,I ((m:Int)+1), .int .u64 (cc*256+rd x (m:Int)), .int .u64 r])::(ru 5 A x.length c x)::R)) hiZ ?_;refine⟨_,Z,?_⟩;rw[YY hm hc];exact⟨Z,Z⟩
theorem KW {w:World} {an:AF} {ar am:Nat} {u:AH} (al:Rd w an ar am 1 (ints .u8 u)) (ac:aL u) (hN:u.length<=1000000) (h4:4<=u.length):
  CF 299 #[sl an ar am] w (λv R'=> ∃g A c,v= .tuple #[PG g,bt]/\R'=[(rc 360 4 g [sl A u.length c,I ((cd0.k+4:Nat):Int), .int .u64 (cuC u cd0), .int .u64 cd0.R]),(ru 5 A u.length c u)]):=by
 obtain rfl:=al.lenI;refine fn2 Tryz.func299 Z Z Z ?_;have mv:=al.max;have io:=BB 0 (u.take 0) (by rw[ax];omega) (ac.take _);have i8:=BB 1 (u.take 1) (by rw[ax];omega) (ac.take _);have hq2:=BB 2 (u.take 2) (by rw[ax];omega) (ac.take _);have hq3:=BB 3 (u.take 3) (by rw[ax];omega) (ac.take _);refine wq<|wg Z<|wn Z<|aD<|wq<|wm Z<|wy (aO ah Z)<|wy (Yl.f (fO Z Z))<|aA<|aN Z<|aH<|aD ?_;refine aJ<|wm Z<|wa (aC aMl Z (Ct.fresh (λw hw=>qD ((al.c _) w hw) hN))) ?_;rintro _ _⟨_,rfl,cr,co,rfl,rfl⟩;refine wy (gV (v:= .agg #[sl cr u.length co,I 0, .int .u64 0, .int .u64 4294967295]) Z (λw=>cA))<|wa (dC (sz:=4) rfl rfl) ?_;rintro _ _⟨ew,rfl,rfl⟩;refine wn Z<|aD<|wq<|wm Z<|aA<|aI<|oJ 5<|dZ<|wq<|wy (Yl.t (fO Z Z) cC)<|aA<|aD ?_;refine dI Z<|aH<|aD<|aI<|aJ<|wm Z<|wa (aC YN Z ((qL (m:=0) (M:=0) Z ac hN Z Z (by first|exact⟨cC,cC⟩|(simp only[mg,Nat.reduceAdd,Jj,Ji];omega)) G))) ?_;rintro _ _⟨rfl,rfl⟩;refine aA<|aJ<|wy (Yl.is (dK Z Z) Z)<|wm Z<|aA<|dZ<|wq<|wy (Yl.t (fO Z Z) cC)<|aA<|aD<|dI Z<|aH<|aD<|aI ?_;refine aJ<|wm Z<|wa (aC YN Z ((qL (m:=0+1) (M:=(0*256)) Z ac hN Z Z (by first|exact⟨cC,cC⟩|(simp only[mg,Nat.reduceAdd,Jj,Ji];omega)) G))) ?_;rintro _ _⟨rfl,rfl⟩;refine aA<|aJ<|wy (Yl.is (dK Z Z) Z)<|wm Z<|aA<|dZ<|wq<|wy (Yl.t (fO Z Z) cC)<|aA<|aD<|dI Z<|aH<|aD<|aI ?_;refine aJ<|wm Z<|wa (aC YN Z ((qL (m:=0+1+1) (M:=(0*256*256)) Z ac hN Z Z (by first|exact⟨cC,cC⟩|(simp only[mg,Nat.reduceAdd,Jj,Ji];omega)) G))) ?_;rintro _ _⟨rfl,rfl⟩;refine aA<|aJ<|wy (Yl.is (dK Z Z) Z)<|wm Z<|aA<|dZ<|wq<|wy (Yl.t (fO Z Z) cC)<|aA<|aD<|dI Z<|aH<|aD<|aI ?_;refine aJ<|wm Z<|wa (aC YN Z ((qL (m:=0+1+1+1) (M:=(0*256*256*256)) Z ac hN Z Z (by first|exact⟨cC,cC⟩|(simp only[mg,Nat.reduceAdd,Jj,Ji];omega)) G))) ?_;rintro _ _⟨rfl,rfl⟩;refine aA<|aJ<|wy (Yl.is (dK Z Z) Z)<|wm Z<|aA<|dZ<|wq<|wy (Yl.f (fO Z Z) cC)<|aA<|aD<|aN Z<|aS<|wq ?_;refine wm Z<|wg Z<|wn Z<|bN (R1:=[(rc 360 4 ew [sl cr u.length co,I ((0+1+1+1+1:Nat):Int), .int .u64 (sS (u.take (0+1+1+1+1))-(0*256*256*256)*256), .int .u64 4294967295]),(ru 5 cr u.length co u)]) hiZ ?_;refine⟨_,_,Z,Z,?_⟩;exact⟨_,_,_,Z,Z⟩
theorem EB (hn:n=x.length) (ht:1<=total/\total<=65536) (hr:16777216<=r/\r<4294967296) (hc:0<=cc/\cc<4294967296) (hv:cc/(r/total)<total):
  CT 300 #[PG g,I total] B w0 ((rc 360 4 g [sl A n c,I us, .int .u64 cc, .int .u64 r])::(ru 5 A n c x)::R) (λv R'=>v= .tuple #[I (cc/(r/total)),bt]/\R'=(rc 360 4 g [sl A n c,I us, .int .u64 cc, .int .u64 r])::(ru 5 A n c x)::R):=by
 subst hn;have hq:256<=r/total:=(Ai G).2 G;have Wt:0<=cc/(r/total):=Gb hc.1 G;refine fn2 Tryz.func300 Z Z Z ?_;refine wq<|wg Z<|wn Z<|aD<|wq<|wm Z<|wy (kI underlying332 Z Z)<|wm Z<|aB Z Z<|wm Z<|aB Z Z<|wy (Yl.f (fO Z Z)) ?_;refine wy (aP Z Z)<|wm Z<|aB Z Z<|wm Z<|aB Z Z<|wy (Yl.f (dN Z Z))<|wy (aP Z Z)<|aA<|aN Z<|aH<|wq<|wm Z<|wy (aF Z)<|wy (yF 3 3 ou dX Z) ?_;refine wy (yL 0 gy Z Z Z)<|wm Z<|wy (jI au gy Z)<|wy (II Z Z G G)<|wn Z<|aD<|wq<|wm Z<|wy (Yl.f (gT Z Z))<|wm Z<|aB Z Z<|wm Z<|aB Z Z ?_;refine wy (aF Z)<|aB Z Z<|wy (yF 2 2 ou dX Z)<|aB Z Z<|wy (yL 0 gy Z Z Z)<|aB Z Z<|wm Z<|aB Z Z<|wy (II Z Z G G)<|aB Z Z<|wm Z<|aB Z Z<|wy (jI au gy Z)<|aB Z Z<|wy (Yl.f (jN Z Z)) ?_;refine wy (aP Z Z)<|aA<|aN Z<|aH<|wq<|wm Z<|wy (aF Z)<|wy (yF 2 2 ou dX Z)<|wy (yL 0 gy Z Z Z)<|wm Z<|wy (II Z Z G G)<|wy (jJ gy au Z)<|wg Z<|wg Z ?_;refine aA<|bN (R1:=((rc 360 4 g [sl A x.length c,I us, .int .u64 cc, .int .u64 r])::(ru 5 A x.length c x)::R)) hiZ ?_;refine⟨_,_,Z,Z,?_⟩;exact⟨Z,Z⟩
theorem DI {s:CdS} {low size:Int} (hn:n=x.length) (m6:aL x) (hN:x.length<=1000000) (hs:16777216<=s.R/\s.R<4294967296) (s6:wU low size total) (v8:s.R/total*low<=cuC x s) (Tl:cuC x s<s.R/total*(low+size)) (hlen:(iN s low size total).k+4<=x.length):
  CT 302 #[PG g,I low,I size,I total] B w0 ((rc 360 4 g [sl A n c,I ((s.k+4:Nat):Int), .int .u64 (cuC x s), .int .u64 s.R])::(ru 5 A n c x)::R) (λv R'=>v=bt/\R'=(rc 360 4 g [sl A n c,I (((iN s low size total).k+4:Nat):Int), .int .u64 (cuC x (iN s low size total)), .int .u64 ((iN s low size total).R)])::(ru 5 A n c x)::R):=by
 subst hn;have Qc:=s6;obtain⟨s1,s2,s3,s4⟩:=Qc;obtain⟨f1,f2,f3,f4,f5⟩:=qJ s6 hs;have Rf:=Kg (s.R/total) low size;have Tv:s.k+shN (s.R/total*size)+4<=x.length:=hlen;refine fn1 Tryz.func302 Z Z Z ?_;refine wq<|wn Z<|aD<|wq<|wm Z<|wy (kI underlying332 Z Z)<|wm Z<|aB Z Z<|wm Z<|aB Z Z<|wm Z<|aB Z Z ?_;refine wm Z<|aB Z Z<|wa (aC bCh Z (Ct.quiet (λw hw=>FK s6))) ?_;rintro _ _⟨rfl,rfl⟩;refine aB Z Z<|wy (dH Z)<|wy (aP Z Z)<|aA<|aN Z<|aH<|wq<|wm Z<|wy (aF Z)<|wy (yF 3 3 ou dX Z)<|wy (yL 0 gy Z Z Z)<|wm Z<|wy (jI au gy Z)<|wy (II Z Z G G) ?_;refine wn Z<|aD<|wq<|wm Z<|wy (aF Z)<|wy (yF 2 2 ou dX Z)<|wy (yL 0 gy Z Z Z)<|wm Z<|wm Z<|wy (jI au gy Z)<|wy (yI Z Z G)<|wy (Yl.f (fO Z Z))<|wm Z ?_;refine aB Z Z<|wm Z<|aB Z Z<|wy (aF Z)<|aB Z Z<|wy (yF 2 2 ou dX Z)<|aB Z Z<|wy (yL 0 gy Z Z Z)<|aB Z Z<|wm Z<|aB Z Z<|wm Z<|aB Z Z<|wm Z<|aB Z Z ?_;refine wA Z Z<|aB Z Z<|wy (jI au gy Z)<|aB Z Z<|wy (yI Z Z G)<|aB Z Z<|wy (Yl.f (jN Z Z))<|wy (aP Z Z)<|aA<|aN Z<|aH<|wq<|wm Z<|wy (aF Z) ?_;refine wy (yF 2 2 ou dX Z)<|wy (yL 0 gy Z Z Z)<|wm Z<|wm Z<|wy (jI au gy Z)<|wy (yI Z Z G)<|wy (bCw Z Z G)<|wy (aF Z)<|wy (yF 2 2 ou dX Z)<|bY (aZ 0 Z Z Z dX Z Z Z Z (ak Z)) ?_;rintro _ _ rfl;refine aA<|aD<|wq<|wm Z<|wm Z<|wm Z<|wy (jI au gy Z)<|wy (yI Z Z G)<|wy (aF Z)<|wy (yF 3 3 ou dX Z)<|bY (aZ 0 Z Z Z dX Z Z Z Z (ak Z)) ?_;rintro _ _ rfl;refine aA<|aI ?_;refine GM (λ(j:Nat) (cc:Int) (r:Int) (M:Int)=>[(0,PG g)]) (λj cc r M=>((rc 360 4 g [sl A x.length c,I ((s.k+j+4:Nat):Int), .int .u64 cc, .int .u64 r])::(ru 5 A x.length c x)::R)) (λj cc r M=>(M=(s.N+s.R/total*low)*256^j)/\(r=(s.R/total*size)*256^j)/\(j<=shN (s.R/total*size))/\(cc=sS (x.take (s.k+j+4))-M)/\(0<=cc/\cc<r)) (λj cc r M=>(4-j)) ?_ ?_
 ·exact⟨0,(cuC x s-s.R/total*low),(s.R/total)*size,(s.N+s.R/total*low),⟨(by rw[ww,Bj]),(by rw[ww,Bj]),(qh _),(by show cuC x s-s.R/total*low=sS (x.take (s.k+4))-_;unfold cuC;omega),G⟩,KP⟩
 intro j cc r M ⟨hM,hr,hj,hc,hb⟩;have ka:=JG (s.R/total*size);have hrp:1<=r:=by rw[hr];exact KE G
 refine aD<|wq<|wm Z<|wy (aF Z)<|wy (yF 3 3 ou dX Z)<|wy (yL 0 gy Z Z Z)<|wL Z Z<|aA<|bA Z (λbc=> ?_) (λbc=> ?_)
 ·have hj2:j+1<=shN (s.R/total*size):=JF G hj (by rw[<-hr];assumption);have jp:=YY (x:=x) (m:=s.k+j+4) G hc;have hbx:=m6.rd ((s.k+j+4:Nat):Int);have rr:0<=sS (x.take (s.k+j+4+1))-M*256/\sS (x.take (s.k+j+4+1))-M*256<r*256:=G
  refine aH<|aD<|aI<|wq<|wm Z<|wa (aC YN Z ((qL (m:=(s.k+j+4)) (M:=M) Z m6 hN Z hc G G))) ?_;rintro _ _⟨rfl,rfl⟩;refine wy (dH Z)<|aA<|aN Z<|aH<|aJ<|wm Z<|wy (aF Z)<|wy (yF 3 3 ou dX Z)<|wy (yL 0 gy Z Z Z)<|wy (yH (k:=8) (m:=256) Z Z Z G Z)<|wy (aF Z)<|wy (yF 3 3 ou dX Z)<|bY (aZ 0 Z Z Z dX Z Z Z Z (ak Z)) ?_;rintro _ _ rfl;refine aA ?_;exact⟨(j+1),(sS (x.take (s.k+j+4+1))-M*256),r*256,(M*256),⟨(by rw[hM,um,<-xx]),(by rw[hr,um,<-xx]),(hj2),(Z),(rr)⟩,G,KP⟩
 ·refine aS<|wq<|wn Z<|bN (R1:=((rc 360 4 g [sl A x.length c,I ((s.k+j+4:Nat):Int), .int .u64 cc, .int .u64 r])::(ru 5 A x.length c x)::R)) hiZ ?_;refine⟨_,Z,?_⟩;obtain rfl:j=shN (s.R/total*size):=SI G hj (by rw[<-hr];omega);rw[hc,hr,hM];exact⟨Z,Z⟩
variable {w:World} {m5:AF} {La m9:Nat} {x b:AH} {o dt:Int}
theorem SG (kp:Rd w m5 La m9 1 (ints .u8 x)) (hx:x=bX b o) (dd:aL b) (ho:o=0\/o=1) (hN:b.length<=100000) (hm:(b.length:Int)<=dt):
  CF 272 #[sl m5 La m9,I o,I dt] w (λv R'=> ∃A c,v= .tuple #[sl A (cB 0 (bS bD b)).length c,bt]/\R'=[(ri 3 A ((cB 0 (bS bD b)).length) c (cB 0 (bS bD b)))]):=by
 obtain rfl:=kp.lenI;refine fn2 Tryz.func272 Z Z Z ?_;have m_x:=kp.max;have It:=sD dd;have My:x.length<=2*b.length+6:=by rw[hx];exact lV dd
 have hx4:4<=x.length:=by rw[hx];unfold bX;rw[lL];omega
 have xl:(bI b).length=(cB 0 (bS bD b)).length+1:=by unfold bI;rw[ai];rfl
 have Mx:=qI (bS bD b) 0;rw[kQ] at Mx;refine wq<|wg Z<|wn Z<|wq<|wm Z<|wa (aC bHs Z (Ct.fresh (λw hw=>KW ((kp.c _) w hw) (by rw[hx];exact fK _ _) G hx4))) ?_;rintro _ _⟨_,rfl,ao,kj,kl,rfl,rfl⟩;refine wm Z<|wX Z Z<|wX Z Z<|wg Z<|wn Z<|wq<|wm Z<|wa (aC bCp Z (Ct.fresh (λw hw=>PX))) ?_;rintro _ _⟨_,rfl,ef,im,fd,gh,jj,en,br,bw,ce,dj,rfl,rfl⟩;refine wn Z<|wq<|bR (R1:=[(ri 3 none 0 0 ([])),(rc 250 5 ef [PG im,PG fd,PG gh,I 0,I o]),(rc 256 2 im [sl jj 258 bw,I 258]),(ri 3 jj 258 bw yS),(rc 256 2 fd [sl en 258 ce,I 258]),(ri 3 en 258 ce yS),(rc 256 2 gh [sl br 258 dj,I 258]),(ri 3 br 258 dj yS),(rc 360 4 ao [sl kj x.length kl,I ((cd0.k+4:Nat):Int), .int .u64 (cuC x cd0), .int .u64 cd0.R]),(ru 5 kj x.length kl x)]) (Sub.refl _) (λ_ h=>h.nil 3 1)<|wn Z<|aD<|aI ?_;refine pJ (λ(i:Int) (A1:AF) (n1:Nat) (c1:Nat) (acc:AH) (Sx:PpS)=>[(2,I dt),(8,PG ao),(9,bt),(10,PG ef),(11,sl A1 n1 c1)]) (λi A1 n1 c1 acc Sx=>[(ri 3 A1 n1 c1 acc),(rc 250 5 ef [PG im,PG fd,PG gh,I Sx.cls,I o]),(rc 256 2 im [sl jj 258 bw,I (aR Sx.c0)]),(ri 3 jj 258 bw Sx.c0),(rc 256 2 fd [sl en 258 ce,I (aR Sx.c1)]),(ri 3 en 258 ce Sx.c1),(rc 256 2 gh [sl br 258 dj,I (aR Sx.c2)]),(ri 3 br 258 dj Sx.c2),(rc 360 4 ao [sl kj x.length kl,I ((Sx.cd.k+4:Nat):Int), .int .u64 (cuC x Sx.cd), .int .u64 Sx.cd.R]),(ru 5 kj x.length kl x)]) (λi A1 n1 c1 acc Sx=>(0<=i)/\(i<(bI b).length)/\((n1:Int)=i)/\(acc=(bI b).take i.toNat)/\(Sx=encP o ((bI b).take i.toNat))) (λi A1 n1 c1 acc Sx=>((bI b).length-i).toNat) ?_ ?_
 ·exact⟨0,none,0,0,[],pp0,⟨G,G,(Z),(Z),(Z)⟩,KP⟩
 intro i A1 n1 c1 acc Sx ⟨bb,ij,dp,bh,hS⟩;have dv:=aHl It hS;have oc:=aYp dd hx hS bb ij;have hy:=It _ (bF (L:=bI b) (k:=i) bb G);have o4:=dv.1.2.2;have o5:16777216<=Sx.cd.R/\Sx.cd.R<4294967296:=⟨o4.1,o4.2.1⟩;have Yy:=aWt dd bb ij;refine aD<|wq<|wm Z<|wm Z<|aB Z Z<|wm Z<|aB Z Z<|wy (aO aa Z)<|aB Z Z<|wm Z<|aB Z Z<|wy (Yl.t (uV Z Z) G)<|wy (aQ Z Z)<|aA ?_;refine dI Z<|aH<|aI<|wq ?_;rcases ZK dv.1 ho with hk|hk|hk
 ·refine wm Z<|wa (aC nE Z (Ct.at 1 Z (nX hk))) ?_;rintro _ _⟨rfl,rfl⟩;refine wa (aC MC Z (Ct.sub (R1:=[(rc 256 2 im [sl jj 258 bw,I (aR Sx.c0)]),(ri 3 jj 258 bw Sx.c0),(ri 3 A1 n1 c1 acc),(rc 250 5 ef [PG im,PG fd,PG gh,I Sx.cls,I o]),(rc 256 2 fd [sl en 258 ce,I (aR Sx.c1)]),(ri 3 en 258 ce Sx.c1),(rc 256 2 gh [sl br 258 dj,I (aR Sx.c2)]),(ri 3 br 258 dj Sx.c2),(rc 360 4 ao [sl kj x.length kl,I ((Sx.cd.k+4:Nat):Int), .int .u64 (cuC x Sx.cd), .int .u64 Sx.cd.R]),(ru 5 kj x.length kl x)]) (λ_ h=>h.sel [2,3,0,1,4,5,6,7,8,9] cC Z) (iX))) ?_;rintro _ _⟨rfl,rfl⟩;refine wn Z<|wq<|wm Z<|wm Z<|wa (aC aTx Z (Ct.sub (R1:=[(rc 360 4 ao [sl kj x.length kl,I ((Sx.cd.k+4:Nat):Int), .int .u64 (cuC x Sx.cd), .int .u64 Sx.cd.R]),(ru 5 kj x.length kl x),(rc 256 2 im [sl jj 258 bw,I (aR Sx.c0)]),(ri 3 jj 258 bw Sx.c0),(ri 3 A1 n1 c1 acc),(rc 250 5 ef [PG im,PG fd,PG gh,I Sx.cls,I o]),(rc 256 2 fd [sl en 258 ce,I (aR Sx.c1)]),(ri 3 en 258 ce Sx.c1),(rc 256 2 gh [sl br 258 dj,I (aR Sx.c2)]),(ri 3 br 258 dj Sx.c2)]) (λ_ h=>h.sel [8,9,0,1,2,3,4,5,6,7] cC Z) (EB Z ((oc.w0 hk).tot dv.1.1.1 hy.1 hy.2).2 o5 ⟨(oc.w0 hk).c0,(oc.w0 hk).c1⟩ ((oc.w0 hk).tot dv.1.1.1 hy.1 hy.2).1))) ?_;rintro _ _⟨rfl,rfl⟩;refine wm Z<|wX Z Z<|wX Z Z<|wg Z<|wn Z<|wq<|wm Z<|wa (aC nE Z (Ct.at 5 Z (nX hk))) ?_;rintro _ _⟨rfl,rfl⟩;refine wm Z<|wa (aC aTw Z (Ct.sub (R1:=[(rc 256 2 im [sl jj 258 bw,I (aR Sx.c0)]),(ri 3 jj 258 bw Sx.c0),(rc 360 4 ao [sl kj x.length kl,I ((Sx.cd.k+4:Nat):Int), .int .u64 (cuC x Sx.cd), .int .u64 Sx.cd.R]),(ru 5 kj x.length kl x),(ri 3 A1 n1 c1 acc),(rc 250 5 ef [PG im,PG fd,PG gh,I Sx.cls,I o]),(rc 256 2 fd [sl en 258 ce,I (aR Sx.c1)]),(ri 3 en 258 ce Sx.c1),(rc 256 2 gh [sl br 258 dj,I (aR Sx.c2)]),(ri 3 br 258 dj Sx.c2)]) (λ_ h=>h.sel [2,3,0,1,4,5,6,7,8,9] cC Z) (uE (by rw[dv.1.1.1.1]) dv.1.1.1 hy ⟨(oc.w0 hk).v0,(oc.w0 hk).v1⟩))) ?_;rintro _ _⟨rfl,rfl⟩;refine wm Z<|wX Z Z<|wX Z Z<|wg Z<|wn Z<|wq<|wm Z<|wa (aC nE Z (Ct.at 5 Z (nX hk))) ?_;rintro _ _⟨rfl,rfl⟩;refine wm Z<|wa (aC QP Z (Ct.sub (R1:=[(rc 256 2 im [sl jj 258 bw,I (aR Sx.c0)]),(ri 3 jj 258 bw Sx.c0),(rc 360 4 ao [sl kj x.length kl,I ((Sx.cd.k+4:Nat):Int), .int .u64 (cuC x Sx.cd), .int .u64 Sx.cd.R]),(ru 5 kj x.length kl x),(ri 3 A1 n1 c1 acc),(rc 250 5 ef [PG im,PG fd,PG gh,I Sx.cls,I o]),(rc 256 2 fd [sl en 258 ce,I (aR Sx.c1)]),(ri 3 en 258 ce Sx.c1),(rc 256 2 gh [sl br 258 dj,I (aR Sx.c2)]),(ri 3 br 258 dj Sx.c2)]) hiZ (kR (by rw[dv.1.1.1.1]) (by rw[dv.1.1.1.1];exact hy) dv.1.1.1))) ?_;rintro _ _⟨rfl,rfl⟩;refine wm Z<|wX Z Z<|wX Z Z<|wX Z Z<|wg Z<|wg Z<|wn Z<|wq<|wm Z<|wm Z<|aB Z Z<|wm Z<|wy (aQ Z Z) ?_;refine wm Z<|aB Z Z<|wm Z<|aB Z Z<|wm Z<|aB Z Z<|wm Z<|aB Z Z<|wm Z<|aB Z Z<|wa (aC aTv Z (Ct.sub (R1:=[(rc 360 4 ao [sl kj x.length kl,I ((Sx.cd.k+4:Nat):Int), .int .u64 (cuC x Sx.cd), .int .u64 Sx.cd.R]),(ru 5 kj x.length kl x),(rc 256 2 im [sl jj 258 bw,I (aR Sx.c0)]),(ri 3 jj 258 bw Sx.c0),(ri 3 A1 n1 c1 acc),(rc 250 5 ef [PG im,PG fd,PG gh,I Sx.cls,I o]),(rc 256 2 fd [sl en 258 ce,I (aR Sx.c1)]),(ri 3 en 258 ce Sx.c1),(rc 256 2 gh [sl br 258 dj,I (aR Sx.c2)]),(ri 3 br 258 dj Sx.c2)]) (λ_ h=>h.sel [2,3,0,1,4,5,6,7,8,9] cC Z) (DI Z (by rw[hx];exact fK _ _) G o5 (mR dv.1.1.1 hy.1 hy.2) (oc.w0 hk).lo (oc.w0 hk).hi (oc.w0 hk).len))) ?_;rintro _ _⟨rfl,rfl⟩;refine wy (aQ Z Z)<|wn Z<|aD<|wq<|wm Z<|wm Z<|aB Z Z<|wm Z<|aB Z Z<|wy (gT Z Z)<|wy (aQ Z Z)<|aA<|bA Z (λbc=> ?_) (λbc=> ?_)
  ·refine wq<|wm Z<|wg Z<|wn Z<|bN (R1:=[(ri 3 A1 n1 c1 acc)]) (λ_ h=>h.sel [4] cC Z) ?_;refine⟨_,_,Z,Z,?_⟩;have Qv:=Yy.1 cF;have Lz:acc=cB 0 (bS bD b):=by rw[bh,show i.toNat=(bI b).length-1 by omega];exact DJ b
   have nw:n1=(cB 0 (bS bD b)).length:=G
   rw[Lz,nw];exact⟨_,_,Z,Z⟩
  ·refine aH<|wq<|wm Z<|wm Z<|wa (bQ .i64 [rd (bI b) i] aa zs3 Z Z Z) ?_;rintro _ _⟨se,rfl,rfl⟩;refine wa (aY 5 Z aa zb3 Z Z Z (rdr 0 Z)) ?_;rintro _ _⟨w8,Bk,rfl,rfl⟩;refine bK (v:=sl w8 (n1+1) Bk) Z<|wn Z<|aJ<|wm Z<|wm Z<|wa (aC QO Z (Ct.sub (R1:=[(rc 250 5 ef [PG im,PG fd,PG gh,I Sx.cls,I o]),(rc 256 2 im [sl jj 258 bw,I (aR Sx.c0)]),(ri 3 jj 258 bw Sx.c0),(ri 3 (GG se) 1 1 ([rd (bI b) i])),(rc 360 4 ao [sl kj x.length kl,I (((iN Sx.cd (aR (Sx.c0.take (rd (bI b) i).toNat)) (rd Sx.c0 (rd (bI b) i)) (aR Sx.c0)).k+4:Nat):Int), .int .u64 (cuC x (iN Sx.cd (aR (Sx.c0.take (rd (bI b) i).toNat)) (rd Sx.c0 (rd (bI b) i)) (aR Sx.c0))), .int .u64 ((iN Sx.cd (aR (Sx.c0.take (rd (bI b) i).toNat)) (rd Sx.c0 (rd (bI b) i)) (aR Sx.c0)).R)]),(ru 5 kj x.length kl x),(ri 3 w8 (n1+1) Bk (acc++([rd (bI b) i]))),(rc 256 2 fd [sl en 258 ce,I (aR Sx.c1)]),(ri 3 en 258 ce Sx.c1),(rc 256 2 gh [sl br 258 dj,I (aR Sx.c2)]),(ri 3 br 258 dj Sx.c2)]) (λ_ h=>h.sel [6,3,4,0,1,2,5,7,8,9,10] cC Z) (JJ hk (by rw[dv.1.1.1.1];exact hy) dv.1.1.1))) ?_;rintro _ _⟨rfl,rfl⟩;refine aA ?_;exact⟨(i+1),w8,n1+1,Bk,acc++([rd (bI b) i]),(⟨mI Sx.c0 (rd (bI b) i),Sx.c1,Sx.c2,mG (rd (bI b) i),uQ Sx.cd Sx.c0 (rd (bI b) i)⟩:PpS),⟨G,G,G,(by rw[dF bb G,<-bh]),(sI hS bb G (aFi hk))⟩,G,SA,λ_ h=>h.sel [6,0,1,2,7,8,9,10,4,5] cC Z⟩
 ·refine wm Z<|wa (aC nE Z (Ct.at 1 Z (nW hk))) ?_;rintro _ _⟨rfl,rfl⟩;refine wa (aC MC Z (Ct.sub (R1:=[(rc 256 2 fd [sl en 258 ce,I (aR Sx.c1)]),(ri 3 en 258 ce Sx.c1),(ri 3 A1 n1 c1 acc),(rc 250 5 ef [PG im,PG fd,PG gh,I Sx.cls,I o]),(rc 256 2 im [sl jj 258 bw,I (aR Sx.c0)]),(ri 3 jj 258 bw Sx.c0),(rc 256 2 gh [sl br 258 dj,I (aR Sx.c2)]),(ri 3 br 258 dj Sx.c2),(rc 360 4 ao [sl kj x.length kl,I ((Sx.cd.k+4:Nat):Int), .int .u64 (cuC x Sx.cd), .int .u64 Sx.cd.R]),(ru 5 kj x.length kl x)]) (λ_ h=>h.sel [4,5,0,1,2,3,6,7,8,9] cC Z) (iX))) ?_;rintro _ _⟨rfl,rfl⟩;refine wn Z<|wq<|wm Z<|wm Z<|wa (aC aTx Z (Ct.sub (R1:=[(rc 360 4 ao [sl kj x.length kl,I ((Sx.cd.k+4:Nat):Int), .int .u64 (cuC x Sx.cd), .int .u64 Sx.cd.R]),(ru 5 kj x.length kl x),(rc 256 2 fd [sl en 258 ce,I (aR Sx.c1)]),(ri 3 en 258 ce Sx.c1),(ri 3 A1 n1 c1 acc),(rc 250 5 ef [PG im,PG fd,PG gh,I Sx.cls,I o]),(rc 256 2 im [sl jj 258 bw,I (aR Sx.c0)]),(ri 3 jj 258 bw Sx.c0),(rc 256 2 gh [sl br 258 dj,I (aR Sx.c2)]),(ri 3 br 258 dj Sx.c2)]) (λ_ h=>h.sel [8,9,0,1,2,3,4,5,6,7] cC Z) (EB Z ((oc.w1 hk).tot dv.1.1.2.1 hy.1 hy.2).2 o5 ⟨(oc.w1 hk).c0,(oc.w1 hk).c1⟩ ((oc.w1 hk).tot dv.1.1.2.1 hy.1 hy.2).1))) ?_;rintro _ _⟨rfl,rfl⟩;refine wm Z<|wX Z Z<|wX Z Z<|wg Z<|wn Z<|wq<|wm Z<|wa (aC nE Z (Ct.at 5 Z (nW hk))) ?_;rintro _ _⟨rfl,rfl⟩;refine wm Z<|wa (aC aTw Z (Ct.sub (R1:=[(rc 256 2 fd [sl en 258 ce,I (aR Sx.c1)]),(ri 3 en 258 ce Sx.c1),(rc 360 4 ao [sl kj x.length kl,I ((Sx.cd.k+4:Nat):Int), .int .u64 (cuC x Sx.cd), .int .u64 Sx.cd.R]),(ru 5 kj x.length kl x),(ri 3 A1 n1 c1 acc),(rc 250 5 ef [PG im,PG fd,PG gh,I Sx.cls,I o]),(rc 256 2 im [sl jj 258 bw,I (aR Sx.c0)]),(ri 3 jj 258 bw Sx.c0),(rc 256 2 gh [sl br 258 dj,I (aR Sx.c2)]),(ri 3 br 258 dj Sx.c2)]) (λ_ h=>h.sel [2,3,0,1,4,5,6,7,8,9] cC Z) (uE (by rw[dv.1.1.2.1.1]) dv.1.1.2.1 hy ⟨(oc.w1 hk).v0,(oc.w1 hk).v1⟩))) ?_;rintro _ _⟨rfl,rfl⟩;refine wm Z<|wX Z Z<|wX Z Z<|wg Z<|wn Z<|wq<|wm Z<|wa (aC nE Z (Ct.at 5 Z (nW hk))) ?_;rintro _ _⟨rfl,rfl⟩;refine wm Z<|wa (aC QP Z (Ct.sub (R1:=[(rc 256 2 fd [sl en 258 ce,I (aR Sx.c1)]),(ri 3 en 258 ce Sx.c1),(rc 360 4 ao [sl kj x.length kl,I ((Sx.cd.k+4:Nat):Int), .int .u64 (cuC x Sx.cd), .int .u64 Sx.cd.R]),(ru 5 kj x.length kl x),(ri 3 A1 n1 c1 acc),(rc 250 5 ef [PG im,PG fd,PG gh,I Sx.cls,I o]),(rc 256 2 im [sl jj 258 bw,I (aR Sx.c0)]),(ri 3 jj 258 bw Sx.c0),(rc 256 2 gh [sl br 258 dj,I (aR Sx.c2)]),(ri 3 br 258 dj Sx.c2)]) hiZ (kR (by rw[dv.1.1.2.1.1]) (by rw[dv.1.1.2.1.1];exact hy) dv.1.1.2.1))) ?_;rintro _ _⟨rfl,rfl⟩;refine wm Z<|wX Z Z<|wX Z Z<|wX Z Z<|wg Z<|wg Z<|wn Z<|wq<|wm Z<|wm Z<|aB Z Z<|wm Z<|wy (aQ Z Z) ?_;refine wm Z<|aB Z Z<|wm Z<|aB Z Z<|wm Z<|aB Z Z<|wm Z<|aB Z Z<|wm Z<|aB Z Z<|wa (aC aTv Z (Ct.sub (R1:=[(rc 360 4 ao [sl kj x.length kl,I ((Sx.cd.k+4:Nat):Int), .int .u64 (cuC x Sx.cd), .int .u64 Sx.cd.R]),(ru 5 kj x.length kl x),(rc 256 2 fd [sl en 258 ce,I (aR Sx.c1)]),(ri 3 en 258 ce Sx.c1),(ri 3 A1 n1 c1 acc),(rc 250 5 ef [PG im,PG fd,PG gh,I Sx.cls,I o]),(rc 256 2 im [sl jj 258 bw,I (aR Sx.c0)]),(ri 3 jj 258 bw Sx.c0),(rc 256 2 gh [sl br 258 dj,I (aR Sx.c2)]),(ri 3 br 258 dj Sx.c2)]) (λ_ h=>h.sel [2,3,0,1,4,5,6,7,8,9] cC Z) (DI Z (by rw[hx];exact fK _ _) G o5 (mR dv.1.1.2.1 hy.1 hy.2) (oc.w1 hk).lo (oc.w1 hk).hi (oc.w1 hk).len))) ?_;rintro _ _⟨rfl,rfl⟩;refine wy (aQ Z Z)<|wn Z<|aD<|wq<|wm Z<|wm Z<|aB Z Z<|wm Z<|aB Z Z<|wy (gT Z Z)<|wy (aQ Z Z)<|aA<|bA Z (λda=> ?_) (λda=> ?_)
  ·refine wq<|wm Z<|wg Z<|wn Z<|bN (R1:=[(ri 3 A1 n1 c1 acc)]) (λ_ h=>h.sel [4] cC Z) ?_;refine⟨_,_,Z,Z,?_⟩;have Qv:=Yy.1 cF;have Lz:acc=cB 0 (bS bD b):=by rw[bh,show i.toNat=(bI b).length-1 by omega];exact DJ b
   have nw:n1=(cB 0 (bS bD b)).length:=G
   rw[Lz,nw];exact⟨_,_,Z,Z⟩
  ·refine aH<|wq<|wm Z<|wm Z<|wa (bQ .i64 [rd (bI b) i] aa zs3 Z Z Z) ?_;rintro _ _⟨sf,rfl,rfl⟩;refine wa (aY 5 Z aa zb3 Z Z Z (rdr 0 Z)) ?_;rintro _ _⟨kb,kc,rfl,rfl⟩;refine bK (v:=sl kb (n1+1) kc) Z<|wn Z<|aJ<|wm Z<|wm Z<|wa (aC QO Z (Ct.sub (R1:=[(rc 250 5 ef [PG im,PG fd,PG gh,I Sx.cls,I o]),(rc 256 2 fd [sl en 258 ce,I (aR Sx.c1)]),(ri 3 en 258 ce Sx.c1),(ri 3 (GG sf) 1 1 ([rd (bI b) i])),(rc 360 4 ao [sl kj x.length kl,I (((iN Sx.cd (aR (Sx.c1.take (rd (bI b) i).toNat)) (rd Sx.c1 (rd (bI b) i)) (aR Sx.c1)).k+4:Nat):Int), .int .u64 (cuC x (iN Sx.cd (aR (Sx.c1.take (rd (bI b) i).toNat)) (rd Sx.c1 (rd (bI b) i)) (aR Sx.c1))), .int .u64 ((iN Sx.cd (aR (Sx.c1.take (rd (bI b) i).toNat)) (rd Sx.c1 (rd (bI b) i)) (aR Sx.c1)).R)]),(ru 5 kj x.length kl x),(ri 3 kb (n1+1) kc (acc++([rd (bI b) i]))),(rc 256 2 im [sl jj 258 bw,I (aR Sx.c0)]),(ri 3 jj 258 bw Sx.c0),(rc 256 2 gh [sl br 258 dj,I (aR Sx.c2)]),(ri 3 br 258 dj Sx.c2)]) (λ_ h=>h.sel [6,3,4,0,1,2,5,7,8,9,10] cC Z) (JI hk (by rw[dv.1.1.2.1.1];exact hy) dv.1.1.2.1))) ?_;rintro _ _⟨rfl,rfl⟩;refine aA ?_;exact⟨(i+1),kb,n1+1,kc,acc++([rd (bI b) i]),(⟨Sx.c0,mI Sx.c1 (rd (bI b) i),Sx.c2,mG (rd (bI b) i),uQ Sx.cd Sx.c1 (rd (bI b) i)⟩:PpS),⟨G,G,G,(by rw[dF bb G,<-bh]),(sI hS bb G (aFh hk))⟩,G,SA,λ_ h=>h.sel [6,0,7,8,1,2,9,10,4,5] cC Z⟩
 ·refine wm Z<|wa (aC nE Z (Ct.at 1 Z (nV hk))) ?_;rintro _ _⟨rfl,rfl⟩;refine wa (aC MC Z (Ct.sub (R1:=[(rc 256 2 gh [sl br 258 dj,I (aR Sx.c2)]),(ri 3 br 258 dj Sx.c2),(ri 3 A1 n1 c1 acc),(rc 250 5 ef [PG im,PG fd,PG gh,I Sx.cls,I o]),(rc 256 2 im [sl jj 258 bw,I (aR Sx.c0)]),(ri 3 jj 258 bw Sx.c0),(rc 256 2 fd [sl en 258 ce,I (aR Sx.c1)]),(ri 3 en 258 ce Sx.c1),(rc 360 4 ao [sl kj x.length kl,I ((Sx.cd.k+4:Nat):Int), .int .u64 (cuC x Sx.cd), .int .u64 Sx.cd.R]),(ru 5 kj x.length kl x)]) (λ_ h=>h.sel [6,7,0,1,2,3,4,5,8,9] cC Z) (iX))) ?_;rintro _ _⟨rfl,rfl⟩;refine wn Z<|wq<|wm Z<|wm Z<|wa (aC aTx Z (Ct.sub (R1:=[(rc 360 4 ao [sl kj x.length kl,I ((Sx.cd.k+4:Nat):Int), .int .u64 (cuC x Sx.cd), .int .u64 Sx.cd.R]),(ru 5 kj x.length kl x),(rc 256 2 gh [sl br 258 dj,I (aR Sx.c2)]),(ri 3 br 258 dj Sx.c2),(ri 3 A1 n1 c1 acc),(rc 250 5 ef [PG im,PG fd,PG gh,I Sx.cls,I o]),(rc 256 2 im [sl jj 258 bw,I (aR Sx.c0)]),(ri 3 jj 258 bw Sx.c0),(rc 256 2 fd [sl en 258 ce,I (aR Sx.c1)]),(ri 3 en 258 ce Sx.c1)]) (λ_ h=>h.sel [8,9,0,1,2,3,4,5,6,7] cC Z) (EB Z ((oc.w2 hk).tot dv.1.1.2.2 hy.1 hy.2).2 o5 ⟨(oc.w2 hk).c0,(oc.w2 hk).c1⟩ ((oc.w2 hk).tot dv.1.1.2.2 hy.1 hy.2).1))) ?_;rintro _ _⟨rfl,rfl⟩;refine wm Z<|wX Z Z<|wX Z Z<|wg Z<|wn Z<|wq<|wm Z<|wa (aC nE Z (Ct.at 5 Z (nV hk))) ?_;rintro _ _⟨rfl,rfl⟩;refine wm Z<|wa (aC aTw Z (Ct.sub (R1:=[(rc 256 2 gh [sl br 258 dj,I (aR Sx.c2)]),(ri 3 br 258 dj Sx.c2),(rc 360 4 ao [sl kj x.length kl,I ((Sx.cd.k+4:Nat):Int), .int .u64 (cuC x Sx.cd), .int .u64 Sx.cd.R]),(ru 5 kj x.length kl x),(ri 3 A1 n1 c1 acc),(rc 250 5 ef [PG im,PG fd,PG gh,I Sx.cls,I o]),(rc 256 2 im [sl jj 258 bw,I (aR Sx.c0)]),(ri 3 jj 258 bw Sx.c0),(rc 256 2 fd [sl en 258 ce,I (aR Sx.c1)]),(ri 3 en 258 ce Sx.c1)]) (λ_ h=>h.sel [2,3,0,1,4,5,6,7,8,9] cC Z) (uE (by rw[dv.1.1.2.2.1]) dv.1.1.2.2 hy ⟨(oc.w2 hk).v0,(oc.w2 hk).v1⟩))) ?_;rintro _ _⟨rfl,rfl⟩;refine wm Z<|wX Z Z<|wX Z Z<|wg Z<|wn Z<|wq<|wm Z<|wa (aC nE Z (Ct.at 5 Z (nV hk))) ?_;rintro _ _⟨rfl,rfl⟩;refine wm Z<|wa (aC QP Z (Ct.sub (R1:=[(rc 256 2 gh [sl br 258 dj,I (aR Sx.c2)]),(ri 3 br 258 dj Sx.c2),(rc 360 4 ao [sl kj x.length kl,I ((Sx.cd.k+4:Nat):Int), .int .u64 (cuC x Sx.cd), .int .u64 Sx.cd.R]),(ru 5 kj x.length kl x),(ri 3 A1 n1 c1 acc),(rc 250 5 ef [PG im,PG fd,PG gh,I Sx.cls,I o]),(rc 256 2 im [sl jj 258 bw,I (aR Sx.c0)]),(ri 3 jj 258 bw Sx.c0),(rc 256 2 fd [sl en 258 ce,I (aR Sx.c1)]),(ri 3 en 258 ce Sx.c1)]) hiZ (kR (by rw[dv.1.1.2.2.1]) (by rw[dv.1.1.2.2.1];exact hy) dv.1.1.2.2))) ?_;rintro _ _⟨rfl,rfl⟩;refine wm Z<|wX Z Z<|wX Z Z<|wX Z Z<|wg Z<|wg Z<|wn Z<|wq<|wm Z<|wm Z<|aB Z Z<|wm Z<|wy (aQ Z Z) ?_;refine wm Z<|aB Z Z<|wm Z<|aB Z Z<|wm Z<|aB Z Z<|wm Z<|aB Z Z<|wm Z<|aB Z Z<|wa (aC aTv Z (Ct.sub (R1:=[(rc 360 4 ao [sl kj x.length kl,I ((Sx.cd.k+4:Nat):Int), .int .u64 (cuC x Sx.cd), .int .u64 Sx.cd.R]),(ru 5 kj x.length kl x),(rc 256 2 gh [sl br 258 dj,I (aR Sx.c2)]),(ri 3 br 258 dj Sx.c2),(ri 3 A1 n1 c1 acc),(rc 250 5 ef [PG im,PG fd,PG gh,I Sx.cls,I o]),(rc 256 2 im [sl jj 258 bw,I (aR Sx.c0)]),(ri 3 jj 258 bw Sx.c0),(rc 256 2 fd [sl en 258 ce,I (aR Sx.c1)]),(ri 3 en 258 ce Sx.c1)]) (λ_ h=>h.sel [2,3,0,1,4,5,6,7,8,9] cC Z) (DI Z (by rw[hx];exact fK _ _) G o5 (mR dv.1.1.2.2 hy.1 hy.2) (oc.w2 hk).lo (oc.w2 hk).hi (oc.w2 hk).len))) ?_;rintro _ _⟨rfl,rfl⟩;refine wy (aQ Z Z)<|wn Z<|aD<|wq<|wm Z<|wm Z<|aB Z Z<|wm Z<|aB Z Z<|wy (gT Z Z)<|wy (aQ Z Z)<|aA<|bA Z (λfk=> ?_) (λfk=> ?_)
  ·refine wq<|wm Z<|wg Z<|wn Z<|bN (R1:=[(ri 3 A1 n1 c1 acc)]) (λ_ h=>h.sel [4] cC Z) ?_;refine⟨_,_,Z,Z,?_⟩;have Qv:=Yy.1 cF;have Lz:acc=cB 0 (bS bD b):=by rw[bh,show i.toNat=(bI b).length-1 by omega];exact DJ b
   have nw:n1=(cB 0 (bS bD b)).length:=G
   rw[Lz,nw];exact⟨_,_,Z,Z⟩
  ·refine aH<|wq<|wm Z<|wm Z<|wa (bQ .i64 [rd (bI b) i] aa zs3 Z Z Z) ?_;rintro _ _⟨zp,rfl,rfl⟩;refine wa (aY 5 Z aa zb3 Z Z Z (rdr 0 Z)) ?_;rintro _ _⟨js,jt,rfl,rfl⟩;refine bK (v:=sl js (n1+1) jt) Z<|wn Z<|aJ<|wm Z<|wm Z<|wa (aC QO Z (Ct.sub (R1:=[(rc 250 5 ef [PG im,PG fd,PG gh,I Sx.cls,I o]),(rc 256 2 gh [sl br 258 dj,I (aR Sx.c2)]),(ri 3 br 258 dj Sx.c2),(ri 3 (GG zp) 1 1 ([rd (bI b) i])),(rc 360 4 ao [sl kj x.length kl,I (((iN Sx.cd (aR (Sx.c2.take (rd (bI b) i).toNat)) (rd Sx.c2 (rd (bI b) i)) (aR Sx.c2)).k+4:Nat):Int), .int .u64 (cuC x (iN Sx.cd (aR (Sx.c2.take (rd (bI b) i).toNat)) (rd Sx.c2 (rd (bI b) i)) (aR Sx.c2))), .int .u64 ((iN Sx.cd (aR (Sx.c2.take (rd (bI b) i).toNat)) (rd Sx.c2 (rd (bI b) i)) (aR Sx.c2)).R)]),(ru 5 kj x.length kl x),(ri 3 js (n1+1) jt (acc++([rd (bI b) i]))),(rc 256 2 im [sl jj 258 bw,I (aR Sx.c0)]),(ri 3 jj 258 bw Sx.c0),(rc 256 2 fd [sl en 258 ce,I (aR Sx.c1)]),(ri 3 en 258 ce Sx.c1)]) (λ_ h=>h.sel [6,3,4,0,1,2,5,7,8,9,10] cC Z) (JH hk (by rw[dv.1.1.2.2.1];exact hy) dv.1.1.2.2))) ?_;rintro _ _⟨rfl,rfl⟩;refine aA ?_;exact⟨(i+1),js,n1+1,jt,acc++([rd (bI b) i]),(⟨Sx.c0,Sx.c1,mI Sx.c2 (rd (bI b) i),mG (rd (bI b) i),uQ Sx.cd Sx.c2 (rd (bI b) i)⟩:PpS),⟨G,G,G,(by rw[dF bb G,<-bh]),(sI hS bb G (aFg hk))⟩,G,SA,λ_ h=>h.sel [6,0,7,8,9,10,1,2,4,5] cC Z⟩
theorem NP {ln:AF} {py ml:Nat} {l:AH} {q:AH} (lj:Rd w ln py ml 1 (ints .i64 l)) (hb:bkL dt l [] 1=some q) (hm:0<=dt/\dt<=100000) (hN:l.length<=1000000):
  CF 273 #[sl ln py ml,I dt] w (λv R'=> ∃A c,v= .tuple #[sl A q.length c,bt]/\R'=[(ru 5 A q.length c q)]):=by
 obtain rfl:=lj.lenI;refine fn2 Tryz.func273 Z Z Z ?_;have Vh:=lj.max;refine wq<|wg Z<|wn Z<|aD<|wq<|wm Z<|wy (Yl.f (fO Z Z))<|aA<|aN Z<|aH<|wq ?_;refine wa (bQ .u8 [] ah zs5 Z Z Z) ?_;rintro _ _⟨db,rfl,rfl⟩;refine wn Z<|wq<|wn Z<|aD<|wq<|wm Z<|wy (aO aa Z)<|wm Z<|aA<|aI ?_;refine pJ (λ(i:Int) (A1:AF) (n1:Nat) (c1:Nat) (acc:AH) (p:Int)=>[(1,I dt),(6,sl A1 n1 c1),(7,I p),(14,sl ln l.length ml),(15,I (l.length:Int)),(16,I i)]) (λi A1 n1 c1 acc p=>[(ru 5 A1 n1 c1 acc)]) (λi A1 n1 c1 acc p=>(0<=i)/\(i<=l.length)/\(n1=acc.length)/\(1<=p/\p<=200000)/\((acc.length:Int)<=dt)/\(bkL dt (l.drop i.toNat) acc p=some q)) (λi A1 n1 c1 acc p=>(l.length-i).toNat) ?_ ?_
 ·exact⟨0,GG db,0,0,[],1,⟨G,G,(Z),G,(by show(0:Int)<=dt;omega),(hb)⟩,KP⟩
 intro i A1 n1 c1 acc p ⟨bb,ij,dp,hp,sp,Kt⟩;refine wq<|wL Z Z<|aA<|aD<|bA Z (λbc=> ?_) (λbc=> ?_)
 ·have un:=bFn Kt bb G;refine aH<|aD<|aI<|wq<|wy (aG aa sz3 Z Z (lj.c _))<|wy (aW au Z Z (lj.c _))<|wn Z<|aD<|aI<|wq<|wm Z<|wy (Yl.f (fO Z Z)) ?_;refine wm Z<|aB Z Z<|wm Z<|aB Z Z<|wy (Yl.f (jN Z Z))<|wy (aP Z Z)<|wn Z<|aN Z<|wq<|wm Z<|wy (jN Z Z)<|wn Z ?_;refine bA Z (λda=> ?_) (λda=> ?_)
  ·obtain ⟨_,h3,h4⟩:=un.2.resolve_right (λh=>G);refine wq<|wm Z<|wm Z<|wS Z Z<|wy (gU au dh Z)<|wa (bQ .u8 [((rd l i)-1)%256] ah zs5 Z Z Z) ?_;rintro _ _⟨im,rfl,rfl⟩;refine wa (aY 1 Z ah zb5 Z Z Z (rdr 0 Z)) ?_;rintro _ _⟨fh,kh,rfl,rfl⟩;refine bK (v:=sl fh (n1+1) kh) Z<|wn Z<|aJ<|wn Z<|wq<|wm Z<|wy (aO ah Z)<|wm Z<|wy (Yl.f (dN Z Z))<|aA<|aN Z<|aH ?_;refine aJ<|wA Z Z<|wm Z<|aA ?_;exact⟨i+1,fh,n1+1,kh,acc++([((rd l i)-1)%256]),1,⟨G,G,(by rw[ai,dp];simp),G,(by rw[ai,ii];omega),(by rw[qj G G];exact h4)⟩,G,SA,λ_ h=>h.sel [1] cC Z⟩
  ·obtain ⟨_,h3,hz,h5⟩:=un.2.resolve_left (λh=>G)
   have hxp:(rd l i+1)*p=p\/(rd l i+1)*p=2*p:=by
    rcases(by omega:rd l i=0\/rd l i=1) with e|e<;>rw[e]<;>omega
   obtain⟨zn,hzn⟩: ∃zn:Nat,(rd l i+1)*p=(zn:Int):=⟨((rd l i+1)*p).toNat,G⟩;refine wq<|wm Z<|wA Z Z<|wm Z<|wy (Yl.is (iW Z Z) (by rw[hzn])) ?_;refine wn Z<|aD<|wq<|wm Z<|wm Z<|wy (Yl.f (dN Z Z))<|wm Z<|aB Z Z<|wm Z<|aB Z Z<|wm Z<|aB Z Z<|wm Z ?_;refine aB Z Z<|wy (aO ah Z)<|aB Z Z<|wS Z Z<|aB Z Z<|wy (Yl.f (dN Z Z))<|wy (aP Z Z)<|aA<|aN Z<|aH<|wq<|wm Z<|wm Z<|wa (aVz (m:=zn) 0 Z ah au zb5 Z Z G G G) ?_;rintro _ _⟨jj,na,rfl,rfl⟩;refine wn Z<|aJ<|wm Z<|wy (iW Z Z)<|wn Z<|wq<|wm Z<|wy (aO ah Z)<|wm Z<|wy (Yl.f (dN Z Z))<|aA<|aN Z ?_;refine aH<|aJ<|wA Z Z<|wm Z<|aA ?_;exact⟨i+1,jj,n1+zn,na,acc++List.replicate zn 0,p*2,⟨G,G,(by rw[ai,dp];simp),G,(by rw[ai,cz];omega),(by rw[show zn=((rd l i+1)*p).toNat by omega];exact h5)⟩,G,KP⟩
 ·refine aS<|wq<|wm Z<|wg Z<|wn Z<|aX [0] 99 cC Z ?_;refine⟨_,_,Z,Z,?_⟩;have Nq:l.drop i.toNat=[]:=zb G;rw[Nq] at Kt;have hq:acc=q:=jd Kt;subst hq;subst dp;exact⟨_,_,Z,Z⟩
theorem VD (kp:Rd w m5 La m9 1 (ints .u8 x)) (hx:x=bX b o) (dd:aL b) (ho:o=0\/o=1) (hN:b.length<=100000) (hm:(b.length:Int)<=dt):
  CF 229 #[sl m5 La m9,I o,I dt] w (λv R'=> ∃A c,v= .tuple #[sl A b.length c,bt]/\R'=[(ru 5 A b.length c b)]):=by
 obtain rfl:=kp.lenI;refine fn2 Tryz.func229 Z Z Z ?_;have m_x:=kp.max;have It:=sD dd;have My:x.length<=2*b.length+6:=by rw[hx];exact lV dd
 have hx4:4<=x.length:=by rw[hx];unfold bX;rw[lL];omega
 have xl:(bI b).length=(cB 0 (bS bD b)).length+1:=by unfold bI;rw[ai];rfl
 have Mx:=qI (bS bD b) 0;rw[kQ] at Mx;have hmv:=kQ b bD;refine wq<|wg Z<|wn Z<|aD<|wq<|wm Z<|wa (aC bCq Z (Ct.quiet (λw hw=>BJ ho))) ?_;rintro _ _⟨rfl,rfl⟩;refine wy (dH Z)<|wm Z<|aB Z Z<|wm Z<|aB Z Z<|wy (Yl.f (fO Z Z))<|wy (aP Z Z)<|aA<|aN Z<|aH<|wq<|wm Z<|wy (uP Z Z)<|wg Z ?_;refine aA<|wq<|wm Z<|wm Z<|wm Z<|wa (aC bIc Z (Ct.fresh (λw hw=>SG ((kp.c _) w hw) hx dd ho hN G))) ?_;rintro _ _⟨_,rfl,cr,co,rfl,rfl⟩;refine wm Z<|wX Z Z<|wX Z Z<|wg Z<|wn Z<|aD<|wq<|wm Z<|wy (dH Z)<|aA<|aN Z<|aH<|aD ?_;refine aJ<|wm Z<|wm Z<|wa (aC bIb Z (Ct.fresh (λw hw=>NP ((rdr 0 Z) w hw) (bFm (qP dd) G) G G))) ?_;rintro _ _⟨_,rfl,me,mz,rfl,rfl⟩;refine wm Z<|wX Z Z<|wX Z Z<|wg Z<|wn Z<|aD<|wq<|wm Z<|wy (dH Z)<|aA<|aN Z<|aH<|aD ?_;refine aJ<|wm Z<|wa (aC bJs Z (Ct.fresh (λw hw=>aNr ((rdr 0 Z) w hw) (qP dd) G))) ?_;rintro _ _⟨_,rfl,ft,ee,rfl,rfl⟩;refine wn Z<|aD<|wq<|wm Z<|wm Z<|wa (aC aTu Z (Ct.fresh (λw hw=>sM ((rdr 0 Z) w hw) (by rw[tX dd];exact dd) ho (by rw[tX dd];exact hN)))) ?_;rintro _ _⟨_,rfl,br,bw,rfl,rfl⟩;refine wm Z<|wX Z Z<|wX Z Z<|wg Z<|wn Z<|wq<|wm Z<|wm Z<|wa (aC aTy Z (Ct.quiet (λw hw=>EC ((rdr 0 Z) w hw) ((kp.c _) w hw) (fK _ _) (by rw[hx];exact fK _ _)))) ?_;rintro _ _⟨rfl,rfl⟩;refine oG 50 Z (by rw[tX dd,hx]) ?_;refine wy (dH Z)<|aA<|aN Z<|aH<|wq<|wm Z<|wg Z<|wn Z<|bN (R1:=[(ru 5 ft (((bS bD b)).length) ee (oK bD (bS bD b)))]) (λ_ h=>h.sel [1] cC Z) ?_;refine⟨_,_,Z,Z,?_⟩;rw[hmv,tX dd];exact⟨_,_,Z,Z⟩
variable {B g gc ar am nt ct:Nat} {w0:World} {X R0 R:List Row} {an At:AF} {u t:AH} {p0 p1 p2 p3 ms tt ls x n:Int}
theorem lH {Ax:AF} {nx cx:Nat} (V:Int) (t:AH) (al:RdC B w0 R0 an ar am 1 (ints .u8 u)) (bx:ar=u.length) (hN:u.length<=1000000) (ac:aL u) (hV:0<=V/\V<=9223372036854775807) (hu:u=aU V++t):
  CT 90 #[PG g] B w0 ((rc 87 10 g [PG gc,I p0,I p1,I p2,I p3,I ms,I tt,I ls,sl At nt ct,sl Ax nx cx])::(rc 146 1 gc [sl an ar am])::(X++R0)) (λv R'=> ∃(A9:AF) (c9:Nat),RdC B w0 R0 A9 (t).length c9 1 (ints .u8 (t))/\v= .tuple #[I V,bt]/\R'=(rc 87 10 g [PG gc,I p0,I p1,I p2,I p3,I ms,I tt,I ls,sl At nt ct,sl Ax nx cx])::(rc 146 1 gc [sl A9 ((t).length) c9])::(X++R0)):=
 (BA (R:=X++R0) (m:=(aU V).length) (RdC.right al X) bx hN ac (by rw[hu];exact uT.of ⟨hV.1,G⟩ t) hV.2).mono λv R' hv=>by
  obtain⟨rfl,rfl⟩:=hv;have e:=RdC.fromI (l:=(aU V).length) al (by rw[bx,hu,ai];omega);have hl:ar-(aU V).length=t.length:=by rw[bx,hu,ai];omega
  have hd:u.drop (aU V).length=t:=by rw[hu];exact Gx
  rw[hl,hd] at e;rw[hl];exact⟨_,_,e,Z,Z⟩
theorem aFf {k:Int} (a t:AH) (al:RdC B w0 R0 an ar am 1 (ints .u8 u)) (bx:ar=u.length) (hN:u.length<=1000000) (hk:k=(a.length:Int)) (hu:u=a++t):
  CT 156 #[PG gc,I k] B w0 ((rc 146 1 gc [sl an ar am])::(X++R0)) (λv R'=> ∃(A1:AF) (c1:Nat),∃(A9:AF) (c9:Nat),RdC B w0 R0 A9 (t).length c9 1 (ints .u8 (t))/\v= .tuple #[sl A1 a.length c1,bt]/\R'=(ru 5 A1 a.length c1 a)::(rc 146 1 gc [sl A9 ((t).length) c9])::(X++R0)):=
 (yK (R:=X++R0) (k:=k) (RdC.right al X) bx hN (by rw[hu,ai];omega)).mono λv R' hv=>by
  obtain⟨A1,c1,rfl,rfl⟩:=hv;have Qy:k.toNat=a.length:=G
  have e:=RdC.fromI (l:=a.length) al (by rw[bx,hu,ai];omega);have hl:ar-a.length=t.length:=by rw[bx,hu,ai];omega
  have hd:u.drop a.length=t:=by rw[hu];exact Gx
  have ht:u.take a.length=a:=by rw[hu];exact Dv
  rw[hl,hd] at e;rw[Qy,hl,ht];exact⟨_,_,_,_,e,Z,Z⟩
theorem aTf (al:RdC B w0 R0 an ar am 1 (ints .u8 u)) (bx:ar=u.length) (hN:u.length<=1000000) (hx:0<=x/\x<4294967296) (hu:u=fM x++t):
  CT 228 #[PG gc] B w0 ((rc 146 1 gc [sl an ar am])::(X++R0)) (λv R'=> ∃(A9:AF) (c9:Nat),RdC B w0 R0 A9 (t).length c9 1 (ints .u8 (t))/\v= .tuple #[.int .u32 x,bt]/\R'=(rc 146 1 gc [sl A9 ((t).length) c9])::(X++R0)):=by
 subst bx;have vu:=(gZ x).rd 0;have pj:=(gZ x).rd 1;have rr:=(gZ x).rd 2;have Md:=(gZ x).rd 3;refine fn2 Tryz.func228 Z Z Z ?_;refine wq<|wg Z<|wn Z<|wq<|wm Z<|wa (aC aHs Z ((aFf (X:=([]++X)) (R0:=R0) (fM x) (t) al Z hN Z hu))) ?_;rintro _ _⟨me,mz,cr,co,mn,rfl,rfl⟩;refine fA (R1:=((ru 5 me 4 mz (fM x))::(rc 146 1 gc [sl cr ((t).length) co])::(X++R0))) Z<|bK (v:= .tuple #[sl me 4 mz,bt]) Z<|wm Z<|wX Z Z<|wX Z Z<|wg Z<|wn Z<|aD<|wq<|wm Z<|wy (dH Z)<|aA<|aN Z ?_;refine aH<|wq<|wn Z<|aD<|wq<|wm Z<|wy (aO ah Z)<|wm Z<|aA<|aI<|oJ 5<|dZ ?_;refine wq<|wy (Yl.t (fO Z Z) cC)<|aA<|aD<|dI Z<|aH<|aD<|aI<|wq<|wm Z<|wy (aG ah sz5 Z Z (rdr 0 Z))<|wy (aW dh Z Z (rdr 0 Z))<|wg Z ?_;refine wn Z<|aJ<|wm Z<|wm Z<|wy (zG dh wu Z G)<|wm Z<|wy (Yl.is (iW Z Z) (Z:_=Value.int .i64 0))<|wy (GH (k:=0) (m:=1) Z Z Z G Z)<|wy (RU (p:=(rd (fM x) 0)) (m:=1) 0 Z Z Z G G)<|wn Z<|aJ<|wy (Yl.is (dK Z Z) (Z:_=Value.int .i64 1))<|wm Z ?_;refine aA<|dZ<|wq<|wy (Yl.t (fO Z Z) cC)<|aA<|aD<|dI Z<|aH<|aD<|aI<|wq<|wm Z<|wy (aG ah sz5 Z Z (rdr 0 Z)) ?_;refine wy (aW dh Z Z (rdr 0 Z))<|wg Z<|wn Z<|aJ<|wm Z<|wm Z<|wy (zG dh wu Z G)<|wm Z<|wy (Yl.is (iW Z Z) (Z:_=Value.int .i64 8))<|wy (GH (k:=8) (m:=256) Z Z Z G Z)<|wy (RU (p:=(rd (fM x) 1)) (m:=256) 8 Z Z Z G G)<|wn Z<|aJ ?_;refine wy (Yl.is (dK Z Z) (Z:_=Value.int .i64 2))<|wm Z<|aA<|dZ<|wq<|wy (Yl.t (fO Z Z) cC)<|aA<|aD<|dI Z<|aH<|aD<|aI<|wq ?_;refine wm Z<|wy (aG ah sz5 Z Z (rdr 0 Z))<|wy (aW dh Z Z (rdr 0 Z))<|wg Z<|wn Z<|aJ<|wm Z<|wm Z<|wy (zG dh wu Z G)<|wm Z<|wy (Yl.is (iW Z Z) (Z:_=Value.int .i64 16))<|wy (GH (k:=16) (m:=65536) Z Z Z G Z)<|wy (RU (p:=(rd (fM x) 2)) (m:=65536) 16 Z Z Z G G)<|wg Z ?_;refine aA<|aJ<|wy (Yl.is (dK Z Z) (Z:_=Value.int .i64 3))<|wm Z<|aA<|dZ<|wq<|wy (Yl.t (fO Z Z) cC)<|aA<|aD<|dI Z<|aH<|aD<|aI ?_;refine wq<|wm Z<|wy (aG ah sz5 Z Z (rdr 0 Z))<|wy (aW dh Z Z (rdr 0 Z))<|wg Z<|wn Z<|aJ<|wm Z<|wm Z<|wy (zG dh wu Z G)<|wm Z<|wy (Yl.is (iW Z Z) (Z:_=Value.int .i64 24))<|wy (GH (k:=24) (m:=16777216) Z Z Z G Z) ?_;refine wy (RU (p:=(rd (fM x) 3)) (m:=16777216) 24 Z Z Z G G)<|wn Z<|aJ<|wy (Yl.is (dK Z Z) (Z:_=Value.int .i64 4))<|wm Z<|aA<|dZ<|wq<|wy (Yl.f (fO Z Z) cC)<|aA<|aD<|aN Z<|aS ?_;refine wq<|wm Z<|wg Z<|wn Z ?_;have he:0+(rd (fM x) 0)*1+(rd (fM x) 1)*256+(rd (fM x) 2)*65536+(rd (fM x) 3)*16777216=x:=aZn hx;refine aX [1] 2 cC Z ?_;refine⟨_,_,Z,Z,?_⟩;rw[he];exact⟨_,_,mn,Z,Z⟩
theorem aCq (hn:n<=p3) (hb:(-1000000<=ms/\ms<=1000000)/\(0<=tt/\tt<=1000000)):
  CT 158 #[PG g,I n] B w0 ((rc 87 10 g [PG gc,I 0,I p1,I p2,I p3,I ms,I tt,I ls,sl At nt ct,sl none 0 0])::R) (λv R'=>v= .bool (decide (n<=ms-tt))/\R'=(rc 87 10 g [PG gc,I 0,I p1,I p2,I p3,I ms,I tt,I ls,sl At nt ct,sl none 0 0])::R):=by
 refine fn1 Gp Z Z Z ?_;refine wq<|wn Z<|aD<|wq<|wm Z<|wy (aF Z)<|wy (yF 1 1 dw eF Z)<|wy (yF 0 1 bz sz3 Z)<|wy (yL 0 au Z Z Z)<|wQ Z Z<|wm Z<|aM Z Z Z Z ?_;refine aM Z Z Z Z<|aM Z Z Z Z<|aM Z Z Z Z<|aM Z Z Z Z<|wy (aP Z Z)<|wm Z<|aB Z Z<|wm Z<|aB Z Z<|wy (aF Z)<|aB Z Z<|wy (yF 1 1 dw eF Z)<|aB Z Z<|wy (yF 0 1 bz sz3 Z)<|aB Z Z ?_;refine wy (yL 0 au Z Z Z)<|aB Z Z<|wy (Yl.t (iI Z Z) cC)<|aB Z Z<|wm Z<|aB Z Z<|wm Z<|aB Z Z<|wm Z<|aB Z Z<|wy (aF Z)<|aB Z Z<|wy (yF 1 1 dw eF Z)<|aB Z Z<|wy (yF 3 4 bz sz3 Z) ?_;refine aB Z Z<|wy (yL 0 au Z Z Z)<|aB Z Z<|wy (Yl.f (dN Z Z))<|aB Z Z<|wy (aQ Z Z)<|wy (aP Z Z)<|aA<|aN Z<|aH<|aD<|bL mixed<|wD 0 Z (aK Z)<|wD 1 Z (aK Z)<|wD 2 Z (aF Z) ?_;refine wD 3 Z (yF 5 5 dw sz3 Z)<|wD 4 Z (yL 0 au Z Z Z)<|wD 5 Z (aK Z)<|wD 6 Z (aF Z)<|wD 7 Z (yF 6 6 dw sz3 Z)<|wD 8 Z (yL 0 au Z Z Z)<|wD 9 Z (nG Z Z)<|wD 10 Z (uV Z Z)<|wD 11 Z (bB Z)<|wN<|bN (R1:=((rc 87 10 g [PG gc,I 0,I p1,I p2,I p3,I ms,I tt,I ls,sl At nt ct,sl none 0 0])::R)) hiZ ?_;exact⟨_,Z,Z,Z⟩
theorem aCp (hn:n<=p3) (hb:(-1000000<=ms/\ms<=1000000)/\(0<=tt/\tt<=1000000)):
  CT 158 #[PG g,I n] B w0 ((rc 87 10 g [PG gc,I 1,I p1,I p2,I p3,I ms,I tt,I ls,sl At nt ct,sl none 0 0])::R) (λv R'=>v= .bool (decide (n<=ms-tt))/\R'=(rc 87 10 g [PG gc,I 1,I p1,I p2,I p3,I ms,I tt,I ls,sl At nt ct,sl none 0 0])::R):=by
 refine fn1 Gp Z Z Z ?_;refine wq<|wn Z<|aD<|wq<|wm Z<|wy (aF Z)<|wy (yF 1 1 dw eF Z)<|wy (yF 0 1 bz sz3 Z)<|wy (yL 0 au Z Z Z)<|wQ Z Z<|wm Z<|aM Z Z Z Z ?_;refine aM Z Z Z Z<|aM Z Z Z Z<|aM Z Z Z Z<|aM Z Z Z Z<|wy (aP Z Z)<|wm Z<|aB Z Z<|wm Z<|aB Z Z<|wy (aF Z)<|aB Z Z<|wy (yF 1 1 dw eF Z)<|aB Z Z<|wy (yF 0 1 bz sz3 Z)<|aB Z Z ?_;refine wy (yL 0 au Z Z Z)<|aB Z Z<|wy (Yl.t (iI Z Z) cC)<|aB Z Z<|wm Z<|aB Z Z<|wm Z<|aB Z Z<|wm Z<|aB Z Z<|wy (aF Z)<|aB Z Z<|wy (yF 1 1 dw eF Z)<|aB Z Z<|wy (yF 3 4 bz sz3 Z) ?_;refine aB Z Z<|wy (yL 0 au Z Z Z)<|aB Z Z<|wy (Yl.f (dN Z Z))<|aB Z Z<|wy (aQ Z Z)<|wy (aP Z Z)<|aA<|aN Z<|aH<|aD<|bL mixed<|wD 0 Z (aK Z)<|wD 1 Z (aK Z)<|wD 2 Z (aF Z) ?_;refine wD 3 Z (yF 5 5 dw sz3 Z)<|wD 4 Z (yL 0 au Z Z Z)<|wD 5 Z (aK Z)<|wD 6 Z (aF Z)<|wD 7 Z (yF 6 6 dw sz3 Z)<|wD 8 Z (yL 0 au Z Z Z)<|wD 9 Z (nG Z Z)<|wD 10 Z (uV Z Z)<|wD 11 Z (bB Z)<|wN<|bN (R1:=((rc 87 10 g [PG gc,I 1,I p1,I p2,I p3,I ms,I tt,I ls,sl At nt ct,sl none 0 0])::R)) hiZ ?_;exact⟨_,Z,Z,Z⟩
theorem aCo (hn:n<=p3) (hb:(-1000000<=ms/\ms<=1000000)/\(0<=tt/\tt<=1000000)):
  CT 158 #[PG g,I n] B w0 ((rc 87 10 g [PG gc,I 2,I p1,I p2,I p3,I ms,I tt,I ls,sl At nt ct,sl none 0 0])::R) (λv R'=>v= .bool (decide (n<=ms-tt))/\R'=(rc 87 10 g [PG gc,I 2,I p1,I p2,I p3,I ms,I tt,I ls,sl At nt ct,sl none 0 0])::R):=by
 refine fn1 Gp Z Z Z ?_;refine wq<|wn Z<|aD<|wq<|wm Z<|wy (aF Z)<|wy (yF 1 1 dw eF Z)<|wy (yF 0 1 bz sz3 Z)<|wy (yL 0 au Z Z Z)<|wQ Z Z<|wm Z<|aM Z Z Z Z ?_;refine aM Z Z Z Z<|aM Z Z Z Z<|aM Z Z Z Z<|aM Z Z Z Z<|wy (aP Z Z)<|wm Z<|aB Z Z<|wm Z<|aB Z Z<|wy (aF Z)<|aB Z Z<|wy (yF 1 1 dw eF Z)<|aB Z Z<|wy (yF 0 1 bz sz3 Z)<|aB Z Z ?_;refine wy (yL 0 au Z Z Z)<|aB Z Z<|wy (Yl.t (iI Z Z) cC)<|aB Z Z<|wm Z<|aB Z Z<|wm Z<|aB Z Z<|wm Z<|aB Z Z<|wy (aF Z)<|aB Z Z<|wy (yF 1 1 dw eF Z)<|aB Z Z<|wy (yF 3 4 bz sz3 Z) ?_;refine aB Z Z<|wy (yL 0 au Z Z Z)<|aB Z Z<|wy (Yl.f (dN Z Z))<|aB Z Z<|wy (aQ Z Z)<|wy (aP Z Z)<|aA<|aN Z<|aH<|aD<|bL mixed<|wD 0 Z (aK Z)<|wD 1 Z (aK Z)<|wD 2 Z (aF Z) ?_;refine wD 3 Z (yF 5 5 dw sz3 Z)<|wD 4 Z (yL 0 au Z Z Z)<|wD 5 Z (aK Z)<|wD 6 Z (aF Z)<|wD 7 Z (yF 6 6 dw sz3 Z)<|wD 8 Z (yL 0 au Z Z Z)<|wD 9 Z (nG Z Z)<|wD 10 Z (uV Z Z)<|wD 11 Z (bB Z)<|wN<|bN (R1:=((rc 87 10 g [PG gc,I 2,I p1,I p2,I p3,I ms,I tt,I ls,sl At nt ct,sl none 0 0])::R)) hiZ ?_;exact⟨_,Z,Z,Z⟩
theorem aKu:
  CT 159 #[PG g,I n] B w0 ((rc 87 10 g [PG gc,I 0,I p1,I p2,I p3,I ms,I tt,I ls,sl At nt ct,sl none 0 0])::R) (λv R'=>v= .tuple #[sl none 0 0,bt]/\R'=(rc 87 10 g [PG gc,I 0,I p1,I p2,I p3,I ms,I tt,I ls,sl At nt ct,sl none 0 0])::R):=by
 refine fn2 Gq Z Z Z ?_;refine wq<|wg Z<|wn Z<|aD<|wq<|wm Z<|wy (aF Z)<|wy (yF 1 1 dw eF Z)<|wy (yF 0 1 bz sz3 Z)<|wy (yL 0 au Z Z Z)<|aA<|aI ?_;refine wq<|wQ Z Z<|wn Z<|aN Z<|wq<|wQ Z Z<|wn Z<|aN Z<|aH<|wq ?_;refine wg Z<|wn Z<|bN (R1:=((rc 87 10 g [PG gc,I 0,I p1,I p2,I p3,I ms,I tt,I ls,sl At nt ct,sl none 0 0])::R)) hiZ ?_;refine⟨_,_,Z,Z,?_⟩;exact⟨Z,Z⟩
theorem aKs:
  CT 159 #[PG g,I n] B w0 ((rc 87 10 g [PG gc,I 2,I p1,I p2,I p3,I ms,I tt,I ls,sl At nt ct,sl none 0 0])::R) (λv R'=>v= .tuple #[sl none 0 0,bt]/\R'=(rc 87 10 g [PG gc,I 2,I p1,I p2,I p3,I ms,I tt,I ls,sl At nt ct,sl none 0 0])::R):=by
 refine fn2 Gq Z Z Z ?_;refine wq<|wg Z<|wn Z<|aD<|wq<|wm Z<|wy (aF Z)<|wy (yF 1 1 dw eF Z)<|wy (yF 0 1 bz sz3 Z)<|wy (yL 0 au Z Z Z)<|aA<|aI ?_;refine wq<|wQ Z Z<|wn Z<|aN Z<|wq<|wQ Z Z<|wn Z<|aN Z<|aH<|wq ?_;refine wg Z<|wn Z<|bN (R1:=((rc 87 10 g [PG gc,I 2,I p1,I p2,I p3,I ms,I tt,I ls,sl At nt ct,sl none 0 0])::R)) hiZ ?_;refine⟨_,_,Z,Z,?_⟩;exact⟨Z,Z⟩
theorem aKt {at_:Int} (al:RdC B w0 R0 an ar am 1 (ints .u8 u)) (bx:ar=u.length) (hN:u.length<=1000000) (ac:aL u) (rg:0<=at_/\at_<=n/\n<=1000000) (hu:u=aU at_++t):
  CT 159 #[PG g,I n] B w0 ((rc 87 10 g [PG gc,I 1,I p1,I p2,I p3,I ms,I tt,I ls,sl At nt ct,sl none 0 0])::(rc 146 1 gc [sl an ar am])::(X++R0)) (λv R'=> ∃(A8:AF),∃(A9:AF) (c9:Nat),RdC B w0 R0 A9 (t).length c9 1 (ints .u8 (t))/\v= .tuple #[sl A8 1 1,bt]/\R'=(ri 3 A8 1 1 ([at_]))::(rc 87 10 g [PG gc,I 1,I p1,I p2,I p3,I ms,I tt,I ls,sl At nt ct,sl none 0 0])::(rc 146 1 gc [sl A9 ((t).length) c9])::(X++R0)):=by
 subst bx;refine fn2 Gq Z Z Z ?_;refine wq<|wg Z<|wn Z<|aD<|wq<|wm Z<|wy (aF Z)<|wy (yF 1 1 dw eF Z)<|wy (yF 0 1 bz sz3 Z)<|wy (yL 0 au Z Z Z)<|aA<|aI ?_;refine wq<|wR Z Z<|wn Z<|dI Z<|wq<|wm Z<|wa (aC EF Z ((lH (X:=([]++X)) (R0:=R0) (at_) (t) al Z G cF G hu))) ?_;rintro _ _⟨cr,co,mn,rfl,rfl⟩;refine wm Z<|wX Z Z<|wX Z Z<|wg Z<|wn Z<|wq<|wm Z<|wa (bQ .i64 [at_] aa zs3 Z Z Z) ?_;rintro _ _⟨im,rfl,rfl⟩;refine wm Z<|wm Z<|aB Z Z<|wm Z<|aB Z Z<|wm Z<|aB Z Z<|wy (Yl.t (uV Z Z) G)<|wy (aQ Z Z)<|wg Z<|wn Z<|bN (R1:=((ri 3 (GG im) 1 1 ([at_]))::(rc 87 10 g [PG gc,I 1,I p1,I p2,I p3,I ms,I tt,I ls,sl At nt ct,sl none 0 0])::(rc 146 1 gc [sl cr ((t).length) co])::(X++R0))) hiZ ?_;refine⟨_,_,Z,Z,?_⟩;exact⟨_,_,_,mn,Z,Z⟩
theorem xL {l:AH} (al:RdC B w0 R0 an ar am 1 (ints .u8 u)) (bx:ar=u.length) (hN:u.length<=1000000) (ac:aL u) (hx:0<=x/\x<4294967296) (nf:p2=0\/p2=1) (g8:aL l) (hl:(l.length:Int)=n/\l.length<=100000) (hu:u=aU ((bX l p2).length:Int)++(fM x++(bX l p2++t))):
  CT 160 #[PG g,I n] B w0 ((rc 87 10 g [PG gc,I p0,I p1,I p2,I p3,I ms,I tt,I ls,sl At nt ct,sl none 0 0])::(rc 146 1 gc [sl an ar am])::(X++R0)) (λv R'=> ∃(A8:AF) (c8:Nat),∃(A9:AF) (c9:Nat),RdC B w0 R0 A9 (t).length c9 1 (ints .u8 (t))/\v= .tuple #[.int .u32 x,sl A8 l.length c8,bt]/\R'=(ru 5 A8 l.length c8 l)::(rc 87 10 g [PG gc,I p0,I p1,I p2,I p3,I ms,I tt,I ls,sl At nt ct,sl none 0 0])::(rc 146 1 gc [sl A9 ((t).length) c9])::(X++R0)):=by
 subst bx;have ux:=bg List.length hu;simp only[ai] at ux;have qu:(fM x).length=4:=rfl;have j9:=ac;rw[hu] at j9;refine fn3 Tryz.func160 Z Z Z ?_;refine wq<|wg Z<|wg Z<|wn Z<|wq<|wm Z<|wa (aC EF Z ((lH (X:=([]++X)) (R0:=R0) (((bX l p2).length:Int)) (fM x++(bX l p2++t)) al Z G cF G hu))) ?_;rintro _ _⟨cr,co,mn,rfl,rfl⟩;refine wm Z<|wX Z Z<|wX Z Z<|wg Z<|wn Z<|wq<|wm Z<|wy (aF Z)<|wy (yF 0 0 dw VP Z)<|wy (yL 0 yf Z Z Z)<|wa (aC bIo Z (Ct.pick [1,0] 2 cC Z (aTf (X:=([(rc 87 10 g [PG gc,I p0,I p1,I p2,I p3,I ms,I tt,I ls,sl At nt ct,sl none 0 0])]++X)) (R0:=R0) (x:=x) (t:=bX l p2++t) mn Z (by simp only[ai];omega) hx Z))) ?_;rintro _ _⟨me,mz,ub,rfl,rfl⟩;refine wm Z<|wX Z Z<|wX Z Z<|wg Z<|wn Z<|wq<|wm Z<|wy (aF Z)<|wy (yF 0 0 dw VP Z)<|wy (yL 1 yf Z Z Z)<|wm Z<|wa (aC aHs Z ((aFf (X:=([(rc 87 10 g [PG gc,I p0,I p1,I p2,I p3,I ms,I tt,I ls,sl At nt ct,sl none 0 0])]++X)) (R0:=R0) (bX l p2) (t) ub Z (by simp only[ai];omega) Z Z))) ?_;rintro _ _⟨br,bw,ft,ee,uc,rfl,rfl⟩;refine wm Z<|wX Z Z<|wX Z Z<|wg Z<|wn Z<|aD<|wq<|wm Z<|wy (dH Z)<|wm Z<|aB Z Z<|wm Z<|aB Z Z ?_;refine wy (dH Z)<|wy (aP Z Z)<|wm Z<|aB Z Z<|wm Z<|aB Z Z<|wy (dH Z)<|wy (aP Z Z)<|aA<|aN Z<|aH<|wq<|wm Z<|wm Z ?_;refine wy (aF Z)<|wy (yF 1 1 dw eF Z)<|wy (yF 2 3 bz sz3 Z)<|wy (yL 2 au Z Z Z)<|wm Z<|wa (aC bIn Z (Ct.fresh (λw hw=>VD ((rdr 0 Z) w hw) Z g8 nf hl.2 G))) ?_;rintro _ _⟨_,rfl,qq,dj,rfl,rfl⟩;refine wm Z<|wX Z Z<|wX Z Z<|wg Z<|wn Z<|wq<|wm Z<|wm Z<|wm Z<|wm Z<|aB Z Z<|wm Z<|aB Z Z ?_;refine wy (aO ah Z)<|aB Z Z<|wm Z<|aB Z Z<|wy (Yl.t (gT Z Z) G)<|wy (aQ Z Z)<|wg Z<|wg Z<|wn Z<|aX [0,3,2] 4 cC Z ?_;refine⟨_,_,_,Z,Z,Z,?_⟩;exact⟨_,_,_,_,uc,Z,Z⟩
end Go.Proofs.YtdbebmmhdefgdaaGreat
namespace Go.Pure
open Go Go.Eng
section
variable {p:AH}
def pit (p:AH):Nat->Int->Int
 |0,i=>i
 |b+1,i=>rd p (pit p b i)
theorem uB (hp:p.Perm (iota p.length)) {i:Int} (i0:0<=i) (hi:i<p.length): ∀b:Nat,0<=pit p b i/\pit p b i<p.length
 |0=>⟨i0,hi⟩
 |b+1=>by
  have ih:=uB hp i0 hi b;exact aV.1 (hp.subset (bF (L:=p) ih.1 ih.2))
theorem aGf (p:AH) (a:Nat) (i:Int): ∀b:Nat,pit p (a+b) i=pit p b (pit p a i)
 |0=>rfl
 |b+1=>by rw[<-qi,pit,aGf p a i b,pit]
theorem bBr (hp:p.Perm (iota p.length)) {x y:Int} (x0:0<=x) (hx:x<p.length) (y0:0<=y) (hy:y<p.length) (h:rd p x=rd p y):x=y:=jY (hp.symm.nodup (fG _)) x0 hx y0 hy h
structure Ring (p:AH) (i:Int) (c:AH):Prop where
 pos:0<c.length
 at_: ∀b:Nat,b<c.length->rd c b=pit p b i
 close:pit p c.length i=i
 nodup:c.Nodup
 least: ∀x∈c,i<=x
structure ClE (p:AH) (E:List Bool):Prop where
 len:E.length=p.length
 back: ∀j:Int,0<=j->j<p.length->rdb E (rd p j)=true->rdb E j=true
theorem aWz {l:AH} {x:Int} {b:Nat} (h:b<(l++[x]).length):rd (l++[x]) b=if b<l.length then rd l b else x:=by
 split
 ·rename_i g;rw[jZ G G]
 ·rename_i g;have:b=l.length:=by simp at h;omega
  subst this;rw[gY G,Jh];rfl
theorem OE (hp:p.Perm (iota p.length)) {E0:List Bool} {i:Int} (hE0:ClE p E0) (i0:0<=i) (hi:i<p.length) (Ix:rdb E0 i≠true) (gs: ∀j:Int,0<=j->j<i->rdb E0 j=true):
  ∀(f:Nat) (E:List Bool) (acc:AH),E.length=p.length->cntF E<=f->(∀b:Nat,b<acc.length->rd acc b=pit p b i)->acc.Nodup->(∀x∈acc,rdb E0 x≠true)->(∀j:Int,0<=j->j<p.length->(rdb E j=true↔rdb E0 j=true\/j∈acc))->
  Ring p i (acc++(gL p f E (pit p acc.length i)).1)/\(∀x∈acc++(gL p f E (pit p acc.length i)).1,rdb E0 x≠true)/\ ∀j:Int,0<=j->j<p.length->(rdb (gL p f E (pit p acc.length i)).2 j=true↔rdb E0 j=true\/j∈acc++(gL p f E (pit p acc.length i)).1)
 | f, E,acc,hl,hf,rg,hnd,Mj,hset=>by
  have hk:=uB hp i0 hi acc.length;have kx: ∀b:Nat,b<acc.length->pit p b i∈acc:=λb hb=>by rw[<-rg b hb];exact bF G G
  by_cases qs:rdb E (pit p acc.length i)=true
  ·rw [tV qs];simp only[ji]
   have cg:0<acc.length:=by
    rcases fe acc.length with z|z
    ·exfalso;have hz:acc=[]:=dx z;subst hz;rcases(hset i i0 hi).1 qs with a|a
     ·exact Ix a
     ·cases a
    ·exact z
   have Pd:pit p acc.length i=i:=by
    have hz:=uB hp i0 hi (acc.length-1)
    have Oe:pit p acc.length i=rd p (pit p (acc.length-1) i):=by
     obtain⟨m,hm⟩: ∃m,acc.length=m+1:=⟨acc.length-1,G⟩;rw[hm,pit];rfl
    rcases(hset _ hk.1 hk.2).1 qs with a|a
    ·rw [Oe] at a;exact absurd (hE0.back _ hz.1 hz.2 a) (Mj _ (kx _ G))
    ·obtain ⟨b,hb,e⟩:=ic.1 a;have e2:pit p acc.length i=pit p b i:=by rw[<-rg b hb,iM hb];exact e.symm
     rcases fe b with z|z
     ·rw[e2,z];rfl
     ·exfalso;have pj:=uB hp i0 hi (b-1)
      have Qd:pit p b i=rd p (pit p (b-1) i):=by
       obtain⟨m,rfl⟩: ∃m,b=m+1:=⟨b-1,G⟩;rw[pit];rfl
      have:=bBr hp hz.1 hz.2 pj.1 pj.2 (by rw[<-Oe,<-Qd,e2]);rw[<-rg _ G,<-rg _ G] at this;have:=jY hnd G G G G this;omega
   refine⟨⟨cg,rg,Pd,hnd,λx hx=> ?_⟩,Mj,hset⟩;obtain⟨b,hb,rfl⟩:=ic.1 hx;have hr:=uB hp i0 hi b;rw[<-rg b hb,iM hb] at hr;rcases bu acc[b] i with g|g
   ·exact absurd (gs _ hr.1 g) (Mj _ hx)
   ·exact g
  ·have dy:=MJ hk.1 G qs;have s7:=CE hk.1 G qs;obtain⟨g,rfl⟩: ∃g,f=g+1:=⟨f-1,G⟩;rw[IP hk.1 G hf qs];have yd: ¬(rdb E0 (pit p acc.length i)=true\/pit p acc.length i∈acc):=λh=>qs ((hset _ hk.1 hk.2).2 h);have hlen:(acc++[pit p acc.length i]).length=acc.length+1:=cD
   have ih:=OE hp hE0 i0 hi Ix gs g (qH E (pit p acc.length i) true) (acc++[pit p acc.length i]) (by rw[kZ];exact hl) G (λb hb=>by
    rw[aWz hb];split
    ·rename_i q;exact rg b q
    ·rename_i q;rw[show b=acc.length by rw[hlen] at hb;omega]) (xc.2 ⟨hnd,cD,λx hx y hy e=>by obtain rfl:=jb.1 hy;subst e;exact yd (.inr hx)⟩) (λx hx=>by
    rcases fo.1 hx with h|h
    ·exact Mj x h
    ·obtain rfl:=jb.1 h
     exact λe=>yd (.inl e)) (λj j0 hj=>by
    rw[xH hk.1 G j0,fo,jb];split
    ·rename_i e;exact⟨λ_=> .inr (.inr e),λ_=>rfl⟩
    ·rename_i e;rw[hset j j0 hj];exact⟨λh=>h.elim .inl λh=> .inr (.inl h),λh=>h.elim .inl λh=>h.elim .inr λh=>absurd h e⟩)
   rw[hlen,pit,ek] at ih;exact ih
structure bKe (p:AH) (i:Nat) (E:List Bool) (ls:AD):Prop where
 cl:ClE p E
 seen: ∀j:Int,0<=j->j<p.length->(rdb E j=true↔j∈ls.flatten)
 nodup:ls.flatten.Nodup
 ring: ∀c∈ls,∃i0:Int,(0<=i0/\i0<i)/\Ring p i0 c
 heads:ls.Pairwise λc d=>rd c 0<rd d 0
theorem bJx (hp:p.Perm (iota p.length)): ∀i:Nat,i<=p.length->bKe p i (iY p i).1 (iY p i).2
 |0,_=>⟨⟨by simp[iY],λj j0 hj h=>by rw[iY,GY] at h;cases h⟩,λj j0 hj=>by rw[iY,GY];simp,by simp[iY],λc hc=>(by cases hc), .nil⟩
 | i +1,hi=>by
  have ih:=bJx hp i G;have qs:=EH hp i G;have hf:=lQ hp i G;have Yw:cntF (iY p i).1<=p.length:=by have:=hf.2.2;omega
  rw[iY];by_cases Ix:rdb (iY p i).1 i=true
  ·rw [tV Ix];simp only[Jw];exact⟨ih.cl,ih.seen,ih.nodup,λc hc=>by obtain⟨i0,h,r⟩:=ih.ring c hc;exact⟨i0,G,r⟩,ih.heads⟩
  ·obtain ⟨w1,w2,w3⟩:=OE hp ih.cl (i:=i) G G Ix (λj j0 hj=>by have:=qs j.toNat G;rwa[show((j.toNat:Nat):Int)=j by omega] at this) p.length (iY p i).1 [] hf.1 Yw (λb hb=>by simp at hb) .nil (λx hx=>by cases hx) (λj j0 hj=>cD);simp only[ig,jg,pit] at w1 w2 w3;have j4:=(rH hp p.length (iY p i).1 i hf.1 G G);generalize gL p p.length (iY p i).1 i=r at w1 w2 w3 j4;obtain⟨c,E'⟩:=r;simp only at w1 w2 w3 j4 ⊢;rw[df (λe=>by have:=w1.pos;rw[e] at this;simp at this)];have h0:rd c 0=i:=w1.at_ 0 w1.pos;refine⟨⟨j4.1,λj j0 hj h=> ?_⟩,λj j0 hj=> ?_,?_,λd hd=> ?_,?_⟩
   ·have vx:=aV.1 (hp.subset (bF (L:=p) j0 hj));rcases(w3 _ vx.1 vx.2).1 h with a|a
    ·exact(w3 j j0 hj).2 (.inl (ih.cl.back j j0 hj a))
    ·refine (w3 j j0 hj).2 (.inr ?_);obtain⟨b,hb,e⟩:=ic.1 a;have e2:rd p j=pit p b i:=by rw[<-w1.at_ b hb,iM hb];exact e.symm
     have key: ∀m:Nat,m<c.length->rd p j=rd p (pit p m i)->j∈c:=λm hm e=>by
      have Kx:=uB hp (i:=i) G G m;have:=bBr hp j0 hj Kx.1 Kx.2 e;rw[this,<-w1.at_ m hm];exact bF G G
     rcases fe b with z|z
     ·refine key (c.length-1) (by have:=w1.pos;omega) ?_;have hc:=w1.close;obtain⟨m,hm⟩: ∃m,c.length=m+1:=⟨c.length-1,by have:=w1.pos;omega⟩;rw[hm,pit] at hc;rw[e2,z,hm];exact hc.symm
     ·obtain ⟨m,rfl⟩: ∃m,b=m+1:=⟨b-1,G⟩;exact key m G (by rw[e2,pit])
   ·rw [w3 j j0 hj,lu,fo,ih.seen j j0 hj];simp
   ·rw [lu];refine xc.2 ⟨ih.nodup,by simpa using w1.nodup,λx hx y hy e=> ?_⟩;subst e;have hy:x∈c:=by simpa using hy
    have yk:=j4.2.1 x hy;exact w2 x hy ((ih.seen x yk.1 yk.2).2 hx)
   ·rcases fo.1 hd with h|h
    ·obtain ⟨i0,h,r⟩:=ih.ring d h;exact⟨i0,G,r⟩
    ·obtain rfl:=jb.1 h;exact⟨i,G,w1⟩
   ·refine ow.2 ⟨ih.heads,rz _ _,λd hd e he=> ?_⟩;obtain rfl:=jb.1 he;obtain⟨i0,h,r⟩:=ih.ring d hd;rw[h0,show rd d 0=i0 from r.at_ 0 r.pos];omega
theorem aDn (hp:p.Perm (iota p.length)):bKe p p.length (iY p p.length).1 (bU p):=bJx hp p.length (dn _)
theorem tC (hp:p.Perm (iota p.length)):(bU p).flatten.Perm (iota p.length):=qO (aDn hp).nodup (λx hx=>by
 obtain⟨c,hc,hx⟩:=uf.1 hx
 exact aV.2 (TU hp c hc x hx)) (by rw[bC,YV hp];exact dn _)
end
end Go.Pure
namespace Go.Pure
open Go Go.Eng
section
variable {l:AH}
def phi (l:AH) (q:Int):Int:=rd (bW (iota l.length) l 256) q
theorem KH (hl:aL l) {q:Int} (q0:0<=q) (hq:q<l.length):0<=phi l q/\phi l q<l.length:=by
 have h:=kD (l:=l) hl;have hlen:=h.1.length_eq;rw[bC] at hlen;exact aV.1 (h.1.subset (bF q0 G))
theorem bDx (hl:aL l) {i:Int} (i0:0<=i) (hi:i<l.length):phi l (lfC l i)=i:=by
 obtain⟨q,q0,q1,e,f⟩:=XM (l:=l) hl i0 hi;rw[f];exact e
theorem aCc (hl:aL l) {i k:Int} (i0:0<=i) (h:i<k) (hk:k<l.length):tl l (phi l i) (phi l k):=by
 have hlen:=(kD (l:=l) hl).1.length_eq;rw[bC] at hlen;exact eG (kD (l:=l) hl).2 i0 h G
def uw (l:AH):Nat->Int->Int
 |0,i=>rd l (phi l i)
 |d+1,i=>uw l d (phi l i)
def U (l:AH) (i:Int) (d:Nat):Int:=uw l d i
theorem wP (i:Int):U l i 0=rd l (phi l i):=by unfold U;rw[uw]
theorem zD (i:Int) (d:Nat):U l i (d+1)=U l (phi l i) d:=by unfold U;rw[uw]
theorem aWc (hl:aL l): ∀(d:Nat) (i k:Int),0<=i->i<k->k<l.length->(∀e,e<d->U l i e=U l k e)->U l i d<=U l k d
 |0,i,k,i0,h,hk,_=>by
  have:=aCc hl i0 h hk;rw[wP,wP];unfold tl at this;omega
 |d+1,i,k,i0,h,hk,he=>by
  have h0:=he 0 G;rw[wP,wP] at h0;have ht:=aCc hl i0 h hk;unfold tl at ht;have Qt:=KH hl (q:=i) i0 G;have nv:=KH hl (q:=k) G hk;rw[zD,zD];refine aWc hl d _ _ Qt.1 G nv.2 λe he'=> ?_;have:=he (e+1) G;rwa[zD,zD] at this
theorem aNv (hl:aL l) {i k:Int} (i0:0<=i) (h:i<=k) (hk:k<l.length): ¬Lt (U l k) (U l i):=by
 rintro⟨d,h1,h2⟩;rcases bu i k with a|a
 ·have:=aWc hl d i k i0 a hk λe he=>(h1 e he).symm;omega
 ·obtain rfl:i=k:=G
  omega
theorem phi_mono (hl:aL l) {i k:Int} (i0:0<=i) (h:i<k) (hk:k<l.length) (he: ∀d,U l i d=U l k d):phi l i<phi l k/\ ∀d,U l (phi l i) d=U l (phi l k) d:=by
 have ht:=aCc hl i0 h hk;have h0:=he 0;rw[wP,wP] at h0;unfold tl at ht;refine⟨G,λd=> ?_⟩;have:=he (d+1);rwa[zD,zD] at this
def jC (l:AH):Nat->Int->Int
 |0,i=>i
 |b+1,i=>jC l b (phi l i)
theorem uC (hl:aL l): ∀(b:Nat) {i:Int},0<=i->i<l.length->0<=jC l b i/\jC l b i<l.length
 |0,i,i0,hi=>⟨i0,hi⟩
 |b+1,i,i0,hi=>by
  have h:=KH hl i0 hi;exact uC hl b h.1 h.2
theorem DT (hl:aL l): ∀(b:Nat) {i k:Int},0<=i->i<k->k<l.length->(∀d,U l i d=U l k d)->jC l b i<jC l b k/\ ∀d,U l (jC l b i) d=U l (jC l b k) d
 |0,i,k,_,h,_,he=>⟨h,he⟩
 |b+1,i,k,i0,h,hk,he=>by
  have h1:=phi_mono hl i0 h hk he;have Qt:=KH hl (q:=i) i0 G;have nv:=KH hl (q:=k) G hk;exact DT hl b Qt.1 h1.1 nv.2 h1.2
theorem wT (i:Int): ∀(b d:Nat),U l (jC l b i) d=U l i (b+d)
 |0,d=>by rw[mg];rfl
 |b+1,d=>by
  rw[jC,wT (phi l i) b d,<-zD,show b+d+1=b+1+d by omega]
theorem oN (i:Int): ∀(a b:Nat),jC l (a+b) i=jC l b (jC l a i)
 |0,b=>by rw[mg];rfl
 |a+1,b=>by rw[show a+1+b=(a+b)+1 by omega,jC,oN (phi l i) a b];rfl
theorem aGv (hl:aL l) {i:Int} (i0:0<=i) (hi:i<l.length) {b:Nat} (h:i<jC l b i) (he: ∀d,U l i d=U l (jC l b i) d): ∀t:Nat,i+t<=jC l (t*b) i
 |0=>by rw[Dz];show i+0<=i;omega
 |t+1=>by
  have ih:=aGv hl i0 hi h he t;have hk:=uC hl b i0 hi;have h1:=(DT hl (t*b) i0 h hk.2 he).1;rw[<-oN i b (t*b),show b+t*b=(t+1)*b by rw[Br];omega] at h1;omega
theorem aGw (hl:aL l) {i:Int} (i0:0<=i) (hi:i<l.length) {b:Nat} (h:jC l b i<i) (he: ∀d,U l i d=U l (jC l b i) d): ∀t:Nat,jC l (t*b) i+t<=i
 |0=>by rw[Dz];show i+0<=i;omega
 |t+1=>by
  have ih:=aGw hl i0 hi h he t;have hk:=uC hl b i0 hi;have h1:=(DT hl (t*b) hk.1 h hi λd=>(he d).symm).1;rw[<-oN i b (t*b),show b+t*b=(t+1)*b by rw[Br];omega] at h1;omega
theorem aPl (hl:aL l) {i:Int} (i0:0<=i) (hi:i<l.length) {b:Nat} (cg:jC l b i≠i): ¬ ∀d,U l i d=U l (jC l b i) d:=λhe=>by
 rcases bu i (jC l b i) with h|h
 ·have:=aGv hl i0 hi h he (l.length+1);have:=uC hl ((l.length+1)*b) i0 hi;omega
 ·have:=aGw hl i0 hi G he (l.length+1);have:=uC hl ((l.length+1)*b) i0 hi;omega
theorem aZl (hl:aL l):(((iota l.length).map (lfC l))).Perm (iota ((iota l.length).map (lfC l)).length):=by
 rw[az,bC];exact CR (λx h0 h1=>XN (l:=l) hl h0 h1) λx y x0 x1 y0 y1 e=>aSg (l:=l) hl x0 x1 y0 y1 e
def lfL (l:AH):AH:=(iota l.length).map (lfC l)
theorem lJ (l:AH):(lfL l).length=l.length:=by unfold lfL;rw[az,bC]
theorem bDs {i:Int} (i0:0<=i) (hi:i<l.length):rd (lfL l) i=lfC l i:=by
 unfold lfL;rw[vL i0 (by rw[bC];exact hi),uA i0 hi]
theorem kE (hl:aL l):(lfL l).Perm (iota (lfL l).length):=aZl hl
theorem WW (hl:aL l) {i:Int} (i0:0<=i) (hi:i<l.length): ∀b:Nat,jC l b (pit (lfL l) b i)=i
 |0=>rfl
 |b+1=>by
  have h:=uB (kE hl) i0 (by rw[lJ];exact hi) b;rw[lJ] at h;rw[jC,pit,bDs h.1 h.2,bDx hl h.1 h.2];exact WW hl i0 hi b
section
variable {i:Int} {c:AH} (hl:aL l) (i0:0<=i) (hi:i<l.length) (hc:Ring (lfL l) i c)
include hl i0 hi hc
theorem xE {b:Nat} (hb:b<=c.length):jC l b i=pit (lfL l) (c.length-b) i:=by
 have h:=WW hl (uB (kE hl) i0 (by rw[lJ];exact hi) (c.length-b)).1 (by have:=(uB (kE hl) i0 (by rw[lJ];exact hi) (c.length-b)).2;rw[lJ] at this;exact this) b;rw[<-aGf,show c.length-b+b=c.length by omega,hc.close] at h;exact h
theorem JP:jC l c.length i=i:=by
 rw[xE hl i0 hi hc (dn _),Dy];rfl
theorem WL:Per (U l i) c.length:=λd=>by
 rw[ut,<-wT,JP hl i0 hi hc]
theorem UW {d:Nat} (hd:d<c.length):rd (dR l c) d=U l i d:=by
 have h1:rd (dR l c) d=rd l (rd c ((c.length-1-d:Nat):Int)):=by
  unfold dR;rw[vL G (by rw[lh];omega)];congr 1;rw[iM (by rw[lh];exact hd),Fs,iM G]
 have h2:U l i d=rd l (jC l (d+1) i):=by
  have:=wT (l:=l) i d 0;rw[qf,wP] at this;rw[<-this,oN i d 1];rfl
 rw[h1,h2,hc.at_ _ G,xE hl i0 hi hc G,show c.length-(d+1)=c.length-1-d by omega]
theorem IL:om (dR l c)=U l i:=by
 funext d;have hp:=hc.pos
 have h1:om (dR l c) d=rd (dR l c) ((d%c.length:Nat):Int):=by
  unfold om rd;rw[kJ,bq]
 rw[h1,UW hl i0 hi hc (yx _ hp)];exact(WL hl i0 hi hc).mod d
theorem JQ {r:Nat} (r0:0<r) (hr:r<c.length):i<jC l r i:=by
 rw[xE hl i0 hi hc G];have h1:=hc.least _ (bF (L:=c) (k:=((c.length-r:Nat):Int)) G G);rw[hc.at_ _ G] at h1;rcases bu i (pit (lfL l) (c.length-r) i) with g|g
 ·exact g
 ·exfalso
  have e:rd c ((c.length-r:Nat):Int)=rd c ((0:Nat):Int):=by
   rw[hc.at_ _ G,hc.at_ 0 hc.pos];show _=i;omega
  have:=jY hc.nodup G G G (by have:=hc.pos;omega) e;omega
theorem aQb:pV (dR l c)=true:=by
 rw[nA,kJ];refine⟨hc.pos,λr r0 hr=> ?_⟩;have hot:=JQ hl i0 hi hc r0 hr;have dv:=uC hl r i0 hi;have hnl:=aNv hl i0 (Dm hot) dv.2;have cg:=aPl hl i0 hi (b:=r) G
 have bo:Lt (U l i) (U l (jC l r i)):=by
  rcases yT (U l i) (U l (jC l r i)) with a|a|a
  ·exact a
  ·exact absurd a cg
  ·exact absurd a hnl
 obtain⟨d,h1,h2⟩:=bo;have Uu: ∀e,U l (jC l r i) e=U l i (r+e):=λe=>wT i r e;rw[Uu] at h2
 have hdm:d<c.length-r:=by
  rcases gu d (c.length-r) with g|g
  ·exact g
  ·exfalso;have mm:=WL hl i0 hi hc;have Pw:=JQ hl i0 hi hc (r:=c.length-r) G G;have Zg:=uC hl (c.length-r) i0 hi;refine aNv hl i0 (Dm Pw) Zg.2 ⟨d-(c.length-r),λe he=> ?_,?_⟩
   ·rw [wT];have:=h1 (c.length-r+e) G;rw[this,Uu,show r+(c.length-r+e)=e+c.length by omega,mm]
   ·rw [wT,show c.length-r+(d-(c.length-r))=d by omega];rw[show r+d=(d-(c.length-r))+c.length by omega,mm] at h2;exact h2
 rw[mX _ _ (by rw[bn,kJ];omega),bn,kJ]
 have bo: ∀e,e<c.length->lt (dR l c) e=U l i e:=λe he=>by
  rw[<-UW hl i0 hi hc he];unfold lt rd;rw[bq]
 refine⟨d,hdm,λe he=> ?_,?_⟩
 ·rw[iV,bo e G,bo (r+e) G,h1 e he,Uu]
 ·rw [iV,bo d G,bo (r+d) G];exact h2
end
end
end Go.Pure
namespace Go.Pure
open Go Go.Eng
theorem KT {w:AH} {e:Nat} (h:e<w.length):om w e=lt w e:=oO h
theorem aIm {v:AH} (h:pV v=true) {r:Nat} (r0:0<r) (hr:r<v.length): ∃d,d<v.length-r/\(∀e,e<d->lt v e=lt v (r+e))/\lt v d<lt v (r+d):=by
 have:=((nA v).1 h).2 r r0 hr;rw[mX _ _ (by rw[bn];omega),bn] at this;obtain⟨d,h1,h2,h3⟩:=this;refine⟨d,h1,λe he=> ?_,?_⟩
 ·rw[h2 e he,iV]
 ·rwa[iV] at h3
theorem longer {w v:AH} (hw:0<w.length) (hv:pV v=true) (hlen:w.length<v.length) (Hi: ∀e,e<w.length->lt v e=lt w e):Lt (om w) (om v):=by
 obtain⟨d,h1,h2,h3⟩:=aIm hv hw hlen;have mm:=rV w
 have agr: ∀e,e<w.length+d->lt v e=om w e:=by
  intro e
  induction e using Nat.strongRecOn with
  | ind e ih=>
   intro he;rcases gu e w.length with g|g
   ·rw[Hi e g,KT g]
   ·have e1:=h2 (e-w.length) G;rw[show w.length+(e-w.length)=e by omega] at e1;have e2:=mm (e-w.length);rw[show e-w.length+w.length=e by omega] at e2;rw[<-e1,e2];exact ih (e-w.length) G G
 refine⟨w.length+d,λf hf=> ?_,?_⟩
 ·rw[KT (w:=v) G,agr f hf]
 ·rw [KT (w:=v) G];have e1:=mm d;rw[ut d w.length] at e1;rw[e1,<-agr d G];exact h3
theorem aGz: ∀(ws:AD) (m:Nat),0<m->m<=ws.flatten.length-> ∃v∈ws,∃r,r<m/\m<=r+v.length/\ ∀e,e<v.length->lt ws.flatten (r+e)=lt v e
 |[],m,h0,h=>by simp at h;omega
 | w::ws,m,h0,h=>by
  rw[mh,ai] at h;rcases gu w.length m with g|g
  ·obtain ⟨v,hv,r,h1,h2,h3⟩:=aGz ws (m-w.length) G G;refine⟨v,fw _ hv,w.length+r,G,G,λe he=> ?_⟩;rw[mh,<-h3 e he];unfold lt;rw[af,af,jh G,show w.length+r+e-w.length=r+e by omega]
  ·refine ⟨w,cD,0,h0,G,λe he=> ?_⟩;rw[mh,mg];unfold lt;rw[af,af,jf he]
theorem aLy {w:AH} {ws:AD} (hw:pV w=true) (hws: ∀v∈ws,pV v=true) (mw: ∀v∈ws,¬Lt (om w) (om v)):mU (w++ws.flatten) (w++ws.flatten).length=w.length:=by
 have dy:=((nA w).1 hw).1;refine DY (by rw[Gi];exact hw;rfl) _ cD λm h1 h2=> ?_;cases hb:pV ((w++ws.flatten).take m) with
 |false=>rfl
 | true=>
  exfalso;rw[ai] at h2;obtain⟨v,hv,r,r1,r2,r3⟩:=aGz ws (m-w.length) G G;have Wn:((w++ws.flatten).take m).length=m:=by rw[ax,ai];omega
  obtain⟨d,d1,d2,d3⟩:=aIm hb (r:=w.length+r) G G;rw[Wn] at d1;have hs: ∀e,e<m->lt ((w++ws.flatten).take m) e=lt (w++ws.flatten) e:=λe he=>lt_take he
  have l5: ∀e,e<w.length->lt (w++ws.flatten) e=lt w e:=λe he=>by
   unfold lt;rw[af,af,jf he]
  have hsv: ∀e,e<v.length->lt (w++ws.flatten) (w.length+r+e)=lt v e:=λe he=>by
   rw[<-r3 e he];unfold lt;rw[af,af,jh G,show w.length+r+e-w.length=r+e by omega]
  have hlv:=hws v hv
  have q2: ∀e,e<d->lt (w++ws.flatten) e=lt v e:=λe he=>by
   have:=d2 e he;rwa[hs _ G,hs _ G,hsv e G] at this
  have q3:lt (w++ws.flatten) d<lt v d:=by rwa[hs _ G,hs _ G,hsv d G] at d3
  rcases gu d w.length with g|g
  ·refine mw v hv ⟨d,λe he=> ?_,?_⟩
   ·rw[KT (w:=w) G,KT (w:=v) G,<-q2 e he,l5 e G]
   ·rw [KT (w:=w) g,KT (w:=v) G,<-l5 d g];exact q3
  ·exact mw v hv (longer dy hlv G λe he=>by rw[<-q2 e G,l5 e he])
theorem aHd: ∀ {ws:AD},(∀v∈ws,pV v=true)->ws.Pairwise (λa b=> ¬Lt (om a) (om b))->fT ws.flatten=ws.map λw=>(w.length:Int)
 |[],_,_=>YC rfl
 |w::ws,hl,hp=>by
  obtain⟨h1,h2⟩:=il.1 hp;have hw:=hl w cD;have dy:=((nA w).1 hw).1;have hf:=aLy hw (λv hv=>hl v (fw _ hv)) h1;rw[mh,QJ (by rw[ai];omega),hf,Gg,jq,aHd (λv hv=>hl v (fw _ hv)) h2];rfl
theorem aBz (ws:AD) (k:Nat):ps (ws.map λw=>(w.length:Int)) k=((ws.take k).flatten.length:Int):=by
 unfold ps;rw[bq,<-Cg]
 induction ws.take k with
 |nil=>rfl
 |cons w l ih=>rw[jq,ug,ih,mh,ai];omega
theorem aMr (ws:AD):iB ws.flatten (ws.map λw=>(w.length:Int)) ws.length=ws:=by
 refine sw (by rw[tT];omega) λk h1 h2=> ?_;simp only[iB,xu,zf];rw[aBz,bq,iM (by rw[az];exact h2),xu,bq]
 have e:ws.flatten=(ws.take k).flatten++(ws[k]++(ws.drop (k+1)).flatten):=by
  conv=>lhs;rw[<-ik k ws,kz h2]
  rw[lu,mh]
 rw[e,Gg rfl,Gi rfl]
theorem RD {ws:AD} (hl: ∀v∈ws,pV v=true) (hp:ws.Pairwise (λa b=> ¬Lt (om a) (om b))):bws ws.flatten=ws:=by
 unfold bws;rw[aHd hl hp,az];exact aMr ws
end Go.Pure
namespace Go.Pure
open Go Go.Eng
section
variable {l:AH}
def fP (l:AH):AD:=((bU (lfL l)).reverse).map (dR l)
theorem aEm (l:AH):backL l (bU (lfL l))=(fP l).flatten:=rfl
theorem AC (hl:aL l) {c:AH} (hc:c∈bU (lfL l)): ∃i:Int,(0<=i/\i<l.length)/\Ring (lfL l) i c/\rd c 0=i:=by
 obtain⟨i,h,r⟩:=(aDn (kE hl)).ring c hc;rw[lJ] at h;exact⟨i,h,r,r.at_ 0 r.pos⟩
theorem xG (hl:aL l): ∀v∈fP l,pV v=true:=λv hv=>by
 obtain⟨c,hc,rfl⟩:=gz.1 hv;obtain⟨i,h,r,_⟩:=AC hl (xw.1 hc);exact aQb hl h.1 h.2 r
theorem JR (hl:aL l):(fP l).Pairwise (λa b=> ¬Lt (om a) (om b)):=by
 unfold fP;rw[Et];refine Eo.2 (ib.2 ?_);refine ku (λ{c d} hc hd h=> ?_) (aDn (kE hl)).heads;obtain⟨i,hi,r,e⟩:=AC hl hc;obtain⟨k,hk,q,f⟩:=AC hl hd;rw[IL hl hi.1 hi.2 r,IL hl hk.1 hk.2 q];exact aNv hl hi.1 G hk.2
theorem CO (hl:aL l):bws (backL l (bU (lfL l)))=fP l:=by
 rw[aEm];exact RD (xG hl) (JR hl)
theorem bBm {ws:AD} {w:Int} {j:Nat}:tw ws (w,(j:Int))=λd=>om (rdl ws w) (j+d):=by
 funext d;unfold tw om;simp only[bq]
theorem PL (hl:aL l) {i:Int} {c:AH} (i0:0<=i) (hi:i<l.length) (hc:Ring (lfL l) i c):((List.range c.length).map λj=>jC l j i).Perm c:=by
 have dy:=hc.pos
 have a8: ∀j,j<c.length->jC l j i=rd c (((c.length-j)%c.length:Nat):Int):=λj hj=>by
  rw[xE hl i0 hi hc G];rcases fe j with z|z
  ·subst z;rw[xz,hc.close,Nat.mod_self,hc.at_ 0 dy];rfl
  ·rw[mf G,hc.at_ _ G]
 refine qO ?_ (λx hx=> ?_) cD
 ·refine ib.2 (ku (λ{a b} ha hb vt e=> ?_) vz);have ha:=jm.1 ha;have hb:=jm.1 hb;rw[a8 a ha,a8 b hb] at e;have h1:=yx (c.length-a) dy;have h2:=yx (c.length-b) dy;have:=jY hc.nodup G G G G e;have e3:(c.length-a)%c.length=(c.length-b)%c.length:=G
  refine vt ?_;rcases fe a with z|z
  ·rcases fe b with y|y
   ·omega
   ·rw[z,xz,Nat.mod_self,mf G] at e3;omega
  ·rcases fe b with y|y
   ·rw[y,xz,Nat.mod_self,mf G] at e3;omega
   ·rw[mf G,mf G] at e3;omega
 ·obtain ⟨j,hj,rfl⟩:=gz.1 hx;have hj:=jm.1 hj;have h1:=yx (c.length-j) dy;rw[a8 j hj];exact bF G G
theorem tY (hl:aL l): ∀k:Nat,k<=(bU (lfL l)).length->((iD (fP l) k).map (tw (fP l))).Perm (((((bU (lfL l)).reverse).take k).flatten).map (U l))
 |0,_=> .refl _
 | k+1,hk=>by
  have ih:=tY hl k G;have bo:k<(bU (lfL l)).reverse.length:=by rw[lh];omega
  rw[iD,jc,qc,av bo,lu,jc];refine ih.append ?_;simp only[Al,mh,Jf,ji];have kx:(bU (lfL l)).reverse[k]∈bU (lfL l):=xw.1 (ky bo)
  have w5:rdl (fP l) (k:Int)=dR l (bU (lfL l)).reverse[k]:=by
   unfold rdl fP;rw[bq,af,kv,av bo];rfl
  generalize (bU (lfL l)).reverse[k]=c at kx w5;obtain⟨i,hi,r,_⟩:=AC hl kx;have h1:=(PL hl hi.1 hi.2 r).map (U l);refine List.Perm.trans (.of_eq ?_) h1;rw[w5,kJ];unfold turnsOf;rw[rq,rq];refine xh λj _=> ?_;show tw (fP l) ((k:Int),(j:Int))=U l (jC l j i);rw[bBm,w5,IL hl hi.1 hi.2 r];funext d;rw[wT]
theorem xC (hl:aL l) {q:Int} (q0:0<=q) (hq:q<l.length): ∃m:Nat,0<m/\jC l m q=q:=by
 have hp:=tC (kE hl);obtain⟨c,hc,hqc⟩:=uf.1 (hp.symm.subset (aV.2 ⟨q0,by rw[lJ];exact hq⟩));obtain⟨i,hi,r,_⟩:=AC hl hc;obtain⟨j,hj,e⟩:=gz.1 ((PL hl hi.1 hi.2 r).symm.subset hqc);refine⟨c.length,r.pos,?_⟩;rw[<-e,<-oN,ut,oN,JP hl hi.1 hi.2 r]
theorem WX {q:Int} {m:Nat} (h:jC l m q=q): ∀t:Nat,jC l (t*m) q=q
 |0=>by rw[Dz];rfl
 |t+1=>by rw[Br,oN,WX h t,h]
theorem UN {q:Int} {m t:Nat} (hm:jC l m q=q) (m0:0<m) (t0:0<t):U l q (m*t-1)=rd l q:=by
 have h:=WX hm t;rw[zt] at h;have dy:0<m*t:=Ib m0 t0;have h2:=wT (l:=l) q (m*t-1) 0;rw[qf,wP] at h2;rw[<-h2];have h3:=oN (l:=l) q (m*t-1) 1;rw[show m*t-1+1=m*t by omega,h] at h3;rw[show phi l (jC l (m*t-1) q)=jC l 1 (jC l (m*t-1) q) from rfl,<-h3]
theorem aIx (hl:aL l) {T:AE} (hp:T.Perm (iD (bws (backL l (bU (lfL l)))) (bws (backL l (bU (lfL l)))).length)) (ho:T.Pairwise (pO (bws (backL l (bU (lfL l)))))):T.map (lastB (bws (backL l (bU (lfL l)))))=l:=by
 rw[CO hl] at hp ho ⊢;have hlen:(fP l).length=(bU (lfL l)).length:=by unfold fP;rw[az,lh]
 have h1:(T.map (tw (fP l))).Perm ((iota l.length).map (U l)):=by
  refine(hp.map _).trans ?_;rw[hlen];refine(tY hl _ (dn _)).trans ?_;rw[bi (by rw[lh];exact dn _)];have hc:=tC (kE hl);rw[lJ] at hc;exact(((Du _).flatten).trans hc).map _
 have s1:(T.map (tw (fP l))).Pairwise λa b=> ¬Lt b a:=ib.2 (ho.imp λ{t u} h bo=>by
  rcases h with h|h
  ·exact h.asymm bo
  ·exact bo.not_eq λi=>(h.1 i).symm)
 have s2:((iota l.length).map (U l)).Pairwise λa b=> ¬Lt b a:=ib.2 (ku (λ{i k} hi hk h=>by
  have hi:=aV.1 hi;have hk:=aV.1 hk
  exact aNv hl hi.1 (Dm h) hk.2) (vW l.length))
 have same:T.map (tw (fP l))=(iota l.length).map (U l):=h1.eq_of_pairwise (λa b _ _ x y=>by
  rcases yT a b with z|z|z
  ·exact absurd z y
  ·exact funext z
  ·exact absurd z x) s1 s2
 have Sv:T.length=l.length:=by
  have:=bg List.length same;rwa[az,az,bC] at this
 refine bE (by rw[az];exact Sv) λq q0 q1=> ?_;rw[az] at q1;rw[aFx q0 q1];have hv:=uF.1 (hp.subset (kP (l:=T) q0 q1))
 have hU:tw (fP l) (rdp T q)=U l q:=by
  have e1:(T.map (tw (fP l)))[q.toNat]? =some (tw (fP l) (rdp T q)):=by
   rw[kv,av G];unfold rdp;rw[af,av G];rfl
  have e2:((iota l.length).map (U l))[q.toNat]? =some (U l q):=by
   rw[kv,av (by rw[bC];omega)];have:=uA (n:=l.length) q0 G;rw[fB q0 (by rw[bC];omega)] at this;rw[this];rfl
  rw[same,e2] at e1;exact(jd e1).symm
 obtain⟨m,m0,hm⟩:=xC hl q0 (by omega:q<l.length);obtain⟨a1,a2,a3,a4⟩:=hv;have Qj:0<(rdl (fP l) (rdp T q).1).length:=G
 generalize j4:(rdl (fP l) (rdp T q).1).length=wl at Qj a4;have pk:U l q (m*wl-1)=rd l q:=UN hm m0 Qj;rw[<-pk,<-hU];have dy:0<m*wl:=Ib m0 Qj;unfold lastB tw rd;rw[j4];congr 1;obtain⟨j,hj⟩: ∃j:Nat,(rdp T q).2=j:=⟨(rdp T q).2.toNat,G⟩;rw[hj,bq,show(j:Int)+(wl:Int)-1=((j+wl-1:Nat):Int) by omega,<-ze,bq]
 have e:j+(m*wl-1)=(j+wl-1)+wl*(m-1):=by
  obtain⟨m',rfl⟩: ∃m',m=m'+1:=⟨m-1,G⟩;rw[Br,Gz,zt wl m'];omega
 rw[e,Nat.add_mul_mod_self_left]
end
def aIb:AH:=(List.range 256).map λc:Nat=>(c:Int)
theorem PW {x:Int}:x∈aIb↔0<=x/\x<256:=by
 unfold aIb;rw[gz];constructor
 ·rintro ⟨c,hc,rfl⟩;have:=jm.1 hc;omega
 ·intro h;exact⟨x.toNat,jm.2 G,G⟩
theorem ZP:aIb.Nodup:=ib.2 (List.Pairwise.imp (λh e=>h G) vz)
def UG:Nat->AD
 |0=>[[]]
 |n+1=>aIb.flatMap λc=>(UG n).map λw=>c::w
theorem oP: ∀ {n:Nat} {w:AH},w∈UG n↔w.length=n/\aL w
 |0,w=>by
  rw[UG,jb];exact⟨λh=>by subst h;exact⟨rfl,λx hx=>by cases hx⟩,λh=>dx h.1⟩
 | n+1,w=>by
  rw[UG,Ae];constructor
  ·rintro ⟨c,hc,hw⟩;obtain⟨v,hv,rfl⟩:=gz.1 hw;have hv:=oP.1 hv;refine⟨by simp[hv.1],λx hx=> ?_⟩;rcases iw.1 hx with rfl|hx
   ·exact PW.1 hc
   ·exact hv.2 x hx
  ·rintro ⟨hl,hb⟩;cases w with
   |nil=>simp at hl
   |cons c v=>exact⟨c,PW.2 (hb c cD),gz.2 ⟨v,oP.2 ⟨by simpa using hl,λx hx=>hb x (fw _ hx)⟩,rfl⟩⟩
theorem NB: ∀n:Nat,(UG n).Nodup
 |0=>by rw[UG];exact rz _ _
 |n+1=>by
  rw[UG];refine List.pairwise_flatMap.2 ⟨λc _=>ib.2 ((NB n).imp λh e=>h (List.cons.inj e).2),ZP.imp λ{c d} h x hx y hy e=> ?_⟩;obtain⟨v,_,rfl⟩:=gz.1 hx;obtain⟨w,_,rfl⟩:=gz.1 hy;exact h (List.cons.inj e).1
theorem aVp {l k:AH} (hl:aL l) (hk:aL k) (hlen:l.length=k.length) (h:backL l (bU (lfL l))=backL k (bU (lfL k))):l=k:=by
 have hw:fP l=fP k:=by rw[<-CO hl,<-CO hk,h]
 have all: ∀ {x:AH},aL x->((iD (fP x) (fP x).length).map (tw (fP x))).Perm ((iota x.length).map (U x)):=λ{x} hx=>by
  have Wm:(fP x).length=(bU (lfL x)).length:=by unfold fP;rw[az,lh]
  rw[Wm];refine(tY hx _ (dn _)).trans ?_;rw[bi (by rw[lh];exact dn _)];have hc:=tC (kE hx);rw[lJ] at hc;exact(((Du _).flatten).trans hc).map _
 have srt: ∀ {x:AH},aL x->((iota x.length).map (U x)).Pairwise λa b=> ¬Lt b a:=λ{x} hx=>ib.2 (ku (λ{i k} hi hk h=>by
  have hi:=aV.1 hi;have hk:=aV.1 hk
  exact aNv hx hi.1 (Dm h) hk.2) (vW x.length))
 have h1:=all hl;rw[hw] at h1
 have same:(iota l.length).map (U l)=(iota k.length).map (U k):=(h1.symm.trans (all hk)).eq_of_pairwise (λa b _ _ x y=>by
  rcases yT a b with z|z|z
  ·exact absurd z y
  ·exact funext z
  ·exact absurd z x) (srt hl) (srt hk)
 refine bE hlen λq q0 q1=> ?_
 have at_: ∀ {x:AH},q<x.length->((iota x.length).map (U x))[q.toNat]? =some (U x q):=λ{x} hx=>by
  rw[kv,av (by rw[bC];omega)];have:=uA (n:=x.length) q0 hx;rw[fB q0 (by rw[bC];omega)] at this;rw[this];rfl
 have e:=at_ q1;rw[same,at_ G] at e;have eU:U k q=U l q:=jd e;obtain⟨m,m0,hm⟩:=xC hl q0 q1;obtain⟨m',m0',Kx⟩:=xC hk q0 (by omega:q<k.length);have a:=UN hm m0 m0';have b:=UN Kx m0' m0;rw[zt,eU,a] at b;exact b
theorem RH {s:AH} (hs:aL s): ∃l:AH,aL l/\l.length=s.length/\backL l (bU (lfL l))=s:=by
 have hp:((UG s.length).map λl=>backL l (bU (lfL l))).Perm (UG s.length):=by
  refine qO ?_ (λx hx=> ?_) cD
  ·refine ib.2 (ku (λ{a b} ha hb vt e=> ?_) (NB _));have ha:=oP.1 ha;have hb:=oP.1 hb;exact vt (aVp ha.2 hb.2 G e)
  ·obtain ⟨l,hl,rfl⟩:=gz.1 hx;have hl:=oP.1 hl;exact oP.2 ⟨by rw[aNp,YV (kE hl.2),lJ,hl.1],aNq hl.2 _⟩
 obtain⟨l,hl,e⟩:=gz.1 (hp.symm.subset (oP.2 ⟨rfl,hs⟩));have hl:=oP.1 hl;exact⟨l,hl.2,hl.1,e⟩
theorem aNo {s:AH} (hs:aL s) {T:AE} (hp:T.Perm (iD (bws s) (bws s).length)) (ho:T.Pairwise (pO (bws s))):backL (T.map (lastB (bws s))) (bU (lfL (T.map (lastB (bws s)))))=s:=by
 obtain⟨l,hl,_,e⟩:=RH hs;subst e;rw[aIx hl hp ho]
end Go.Pure
namespace Go.Pure
open Go Go.Eng
variable {t o:Int} {n k:Nat} {u w:AH}
noncomputable def kW (t o:Int) (n:Nat) (u:AH) (k:Nat):AH:=
 (((List.range (chK u.length n)).drop k).map λj=>dW t o ((u.drop (j*n)).take n)).flatten++(aU 0++aU u.length)
theorem PM (h:chK u.length n<=k):kW t o n u k=aU 0++aU u.length:=by
 unfold kW;rw[zb (by rw[yo];exact h)];rfl
theorem aBt (h:k<chK u.length n):kW t o n u k=dW t o ((u.drop (k*n)).take n)++kW t o n u (k+1):=by
 unfold kW;rw[kz (by rw[yo];exact h),jq,mh,zf,ek]
theorem QM (t so o sz:Int) (u:AH):xW t so o sz u=[87,72,82,76,1]++([t,so,o]++(aU sz++kW t o sz.toNat u 0)):=by
 unfold xW kW lK;rw[List.drop_zero];simp
theorem bFh {m:Nat} (hn:1<=n):k<chK m n↔k*n<m:=by
 unfold chK;rw[Nat.lt_iff_add_one_le,Nat.le_div_iff_mul_le hn,yg,Di];omega
theorem aL.back {x y:AH} (h:aL (x++y)):aL y:=λz hz=>h z (List.mem_append_right _ hz)
theorem oC {so sz:Int} (hu:aL u) (hS:u.length<=400) (ht:0<=t/\t<256) (hs:0<=so/\so<256) (ho:0<=o/\o<256) (hz:1<=sz/\sz<=16777216):aL (xW t so o sz u)/\(xW t so o sz u).length<=400000:=by
 have e1:=oW (t:=t) (o:=o) (n:=sz.toNat) hu G (chK u.length sz.toNat);have e2:chK u.length sz.toNat<=u.length:=aVd G;have e3:(2*u.length+22)*chK u.length sz.toNat<=822*400:=Dx G G;have e4:=dA 4 sz G;have e5:=dA 4 (u.length:Int) G;have e6:(aU 0).length=1:=rfl;unfold xW;refine⟨λx hx=> ?_,by simp only[ai,dm,jg];omega⟩;rcases fo.1 hx with hx|hx
 ·rcases fo.1 hx with hx|hx
  ·rcases fo.1 hx with hx|hx
   ·simp only[ja,ig,iw,uq,Hq] at hx;omega
   ·exact bZ G x hx
  ·exact e1.2 x hx
 ·rcases fo.1 hx with hx|hx
  ·exact bZ G x hx
  ·exact bZ G x hx
def rE (w:AH) (n k:Nat):AH:=(w.drop (k*n)).take n
theorem aVc (w:AH) (n k:Nat):(rE w n k).length=min n (w.length-k*n):=by unfold rE;rw[ax,bn]
theorem aNa (w:AH) (n k:Nat):w.take ((k+1)*n)=w.take (k*n)++rE w n k:=by
 unfold rE;rw[yg,Di,Iq]
theorem aDx (h:aL w) (n k:Nat):aL (rE w n k):=(h.drop _).take _
noncomputable def mZ (t o:Int) (b r:AH):AH:=(lT t b).1++(aU (bX (lT t b).2 o).length++(fM (bv (gP b))++(bX (lT t b).2 o++r)))
theorem aBu (h:k<chK w.length n):kW t o n w k=aU (rE w n k).length++mZ t o (rE w n k) (kW t o n w (k+1)):=by
 rw[aBt h];unfold dW mZ rE;simp only[ek]
theorem VZ {α:Type} {r:α->α->Prop} (tr: ∀a b c,r a b->r b c->r a c) (a:α): ∀m:List α,m.Pairwise r->(∀b∈m,r a b\/r b a)-> ∃m':List α,m'.Perm (a::m)/\m'.Pairwise r
 |[],_,_=>⟨[a], .refl _,rz _ _⟩
 | b::m,hm,hr=>by
  obtain⟨h1,h2⟩:=il.1 hm;rcases hr b cD with h|h
  ·exact⟨a::b::m, .refl _,il.2 ⟨λc hc=>by
    rcases iw.1 hc with rfl|hc
    ·exact h
    ·exact tr _ _ _ h (h1 c hc),hm⟩⟩
  ·obtain ⟨m',hp,hs⟩:=VZ tr a m h2 λc hc=>hr c (fw _ hc);refine⟨b::m',(hp.cons b).trans (.swap a b m),il.2 ⟨λc hc=> ?_,hs⟩⟩;rcases iw.1 (hp.subset hc) with rfl|hc
   ·exact h
   ·exact h1 c hc
theorem WA {α:Type} {r:α->α->Prop} (tr: ∀a b c,r a b->r b c->r a c): ∀l:List α,(l.Pairwise λa b=>r a b\/r b a)-> ∃m:List α,m.Perm l/\m.Pairwise r
 |[],_=>⟨[], .refl _, .nil⟩
 |a::l,h=>by
  obtain⟨h1,h2⟩:=il.1 h;obtain⟨m,hp,hs⟩:=WA tr l h2;obtain⟨m',cv,eh⟩:=VZ tr a m hs λb hb=>h1 b (hp.subset hb);exact⟨m',cv.trans (hp.cons a),eh⟩
theorem aRg {ws:AD} {t u:Int × Int} (h:t≠u):pO ws t u\/pO ws u t:=by
 rcases yT (tw ws t) (tw ws u) with a|a|a
 ·exact .inl (.inl a)
 ·have hd:t.1≠u.1\/t.2≠u.2:=by
   rcases Int.decEq t.1 u.1 with c|c
   ·exact .inl c
   ·exact .inr λe=>h (Prod.ext c e)
  have:ltI t u\/ltI u t:=by unfold ltI;omega
  rcases this with g|g
  ·exact .inl (.inr ⟨a,g⟩)
  ·exact .inr (.inr ⟨λi=>(a i).symm,g⟩)
 ·exact .inr (.inl a)
theorem yC (ws:AD): ∃T:AE,T.Perm (iD ws ws.length)/\T.Pairwise (pO ws):=
 WA (r:=pO ws) (λ_ _ _ h g=>aCf h g) _ ((vC ws _).imp λh=>aRg h)
end Go.Pure
namespace Go.Proofs.YtdbebmmhdefgdaaGreat
open Go Go.Eng Go.Pure
open Tryz
set_option maxRecDepth 100000
variable {B g gc nt ct py ml ar am:Nat} {w0:World} {R X R0:List Row} {At ln an:AF} {p1 p2 p3 ms tt ls:Int} {l b u s t:AH}
theorem aVv (lj:RdC B w0 R ln py ml 1 (ints .u8 l)) (Hc:py=l.length):
  CT 161 #[PG g,sl ln py ml,sl none 0 0] B w0 ((rc 87 10 g [PG gc,I 0,I p1,I p2,I p3,I ms,I tt,I ls,sl At nt ct,sl none 0 0])::R) (λv R'=>v= .tuple #[sl ln py ml,I 0]/\R'=(rc 87 10 g [PG gc,I 0,I p1,I p2,I p3,I ms,I tt,I ls,sl At nt ct,sl none 0 0])::R):=by
 subst Hc;refine fn2 Gr Z Z Z ?_;refine wq<|wg Z<|wn Z<|aD<|wq<|wm Z<|wy (aF Z)<|wy (yF 1 1 dw eF Z)<|wy (yF 0 1 bz sz3 Z)<|wy (yL 0 au Z Z Z)<|aA<|aI ?_;refine wq<|wQ Z Z<|wn Z<|aN Z<|wq<|wQ Z Z<|wn Z<|aN Z<|wq<|wQ Z Z ?_;refine wn Z<|aN Z<|aH<|wq<|wm Z<|wg Z<|wn Z<|bN (R1:=((rc 87 10 g [PG gc,I 0,I p1,I p2,I p3,I ms,I tt,I ls,sl At nt ct,sl none 0 0])::R)) hiZ ?_;refine⟨_,_,Z,Z,?_⟩;exact⟨Z,Z⟩
theorem aVu {vb:AF} {vl:Nat} {at_:Int} (lj:RdC B w0 R ln py ml 1 (ints .u8 l)) (Hc:py=l.length) (yq:RdC B w0 R vb 1 vl 1 (ints .i64 [at_])) (g8:aL l) (dr:bFz l at_) (hb:rD l at_=b) (hN:l.length<=100000):
  CT 161 #[PG g,sl ln py ml,sl vb 1 vl] B w0 ((rc 87 10 g [PG gc,I 1,I p1,I p2,I p3,I ms,I tt,I ls,sl At nt ct,sl none 0 0])::R) (λv R'=> ∃(A8:AF) (c8:Nat),v= .tuple #[sl A8 b.length c8,I 0]/\R'=(ru 5 A8 b.length c8 b)::(rc 87 10 g [PG gc,I 1,I p1,I p2,I p3,I ms,I tt,I ls,sl At nt ct,sl none 0 0])::R):=by
 subst Hc;refine fn2 Gr Z Z Z ?_;refine wq<|wg Z<|wn Z<|aD<|wq<|wm Z<|wy (aF Z)<|wy (yF 1 1 dw eF Z)<|wy (yF 0 1 bz sz3 Z)<|wy (yL 0 au Z Z Z)<|aA<|aI ?_;refine wq<|wR Z Z<|wn Z<|dI Z<|wq<|wm Z<|wm Z<|wy (aG aa sz3 Z Z (RdC.right yq [_]) (by first|decide|omega) (by first|decide|omega)) ?_;refine wy (aW au Z Z (RdC.right yq [_]) (by first|decide|omega) (by first|decide|omega)) ?_;refine wa (aC bJu Z (Ct.fresh (λw hw=>aVo ((RdC.right lj [_]) w hw) g8 dr hN))) ?_;rintro _ _⟨_,rfl,cr,co,rfl,rfl⟩;refine wX Z Z<|wX Z Z<|wg Z<|wn Z<|bN (R1:=((ru 5 cr l.length co (rD l (rd ([at_]) 0)))::(rc 87 10 g [PG gc,I 1,I p1,I p2,I p3,I ms,I tt,I ls,sl At nt ct,sl none 0 0])::R)) hiZ ?_;refine⟨_,_,Z,Z,?_⟩;have b5:l.length=b.length:=by rw[<-hb,xS]
 rw[b5];have rr:rD l (rd [at_] 0)=b:=hb;rw[rr];exact⟨_,_,Z,Z⟩
theorem aVt (lj:RdC B w0 R ln py ml 1 (ints .u8 l)) (Hc:py=l.length) (g8:aL l) (hb:backL l (bU (fsL l))=b) (hN:l.length<=100000):
  CT 161 #[PG g,sl ln py ml,sl none 0 0] B w0 ((rc 87 10 g [PG gc,I 2,I p1,I p2,I p3,I ms,I tt,I ls,sl At nt ct,sl none 0 0])::R) (λv R'=> ∃(A8:AF) (c8:Nat),v= .tuple #[sl A8 b.length c8,I 0]/\R'=(ru 5 A8 b.length c8 b)::(rc 87 10 g [PG gc,I 2,I p1,I p2,I p3,I ms,I tt,I ls,sl At nt ct,sl none 0 0])::R):=by
 subst Hc;refine fn2 Gr Z Z Z ?_;refine wq<|wg Z<|wn Z<|aD<|wq<|wm Z<|wy (aF Z)<|wy (yF 1 1 dw eF Z)<|wy (yF 0 1 bz sz3 Z)<|wy (yL 0 au Z Z Z)<|aA<|aI ?_;refine wq<|wQ Z Z<|wn Z<|aN Z<|wq<|wR Z Z<|wn Z<|dI Z<|wq<|wm Z ?_;refine wa (aC bJt Z (Ct.fresh (λw hw=>aEj ((RdC.right lj [_]) w hw) g8 hN))) ?_;rintro _ _⟨_,rfl,cr,co,rfl,rfl⟩;refine wX Z Z<|wX Z Z<|wg Z<|wn Z<|bN (R1:=((ru 5 cr ((backL l (bU (fsL l))).length) co (backL l (bU (fsL l))))::(rc 87 10 g [PG gc,I 2,I p1,I p2,I p3,I ms,I tt,I ls,sl At nt ct,sl none 0 0])::R)) hiZ ?_;refine⟨_,_,Z,Z,?_⟩;rw[hb];exact⟨_,_,Z,Z⟩
theorem aEg (al:RdC B w0 R0 an ar am 1 (ints .u8 u)) (bx:ar=u.length) (hN:u.length<=1000000) (ac:aL u) (yb:nt=s.length) (hu:u=mZ 0 p2 b t) (dd:aL b) (o3:b.length<=100000/\s.length<=100000) (hf:(b.length:Int)<=p3/\(b.length:Int)<=ms-tt) (nf:p2=0\/p2=1) (hb:(-1000000<=ms/\ms<=1000000)/\(0<=tt/\tt<=1000000)):
  CT 91 #[PG g,I (b.length:Int)] B w0 ((rc 87 10 g [PG gc,I 0,I p1,I p2,I p3,I ms,I tt,I ls,sl At nt ct,sl none 0 0])::(rc 146 1 gc [sl an ar am])::(ru 5 At nt ct s)::(X++R0)) (λv R'=> ∃(A7:AF) (c7:Nat),∃(A9:AF) (c9:Nat),RdC B w0 R0 A9 (t).length c9 1 (ints .u8 (t))/\v=I 0/\R'=(rc 87 10 g [PG gc,I 0,I p1,I p2,I p3,I ms,I (tt+(b.length:Int)),I ls,sl A7 ((s++b).length) c7,sl none 0 0])::(rc 146 1 gc [sl A9 ((t).length) c9])::(ru 5 A7 ((s++b).length) c7 (s++b))::(X++R0)):=by
 subst bx;subst yb;rw[mZ,VG (t:=0) cC cC] at hu;dsimp only at hu;rw[ig] at hu;have u4:b.length=b.length:=rfl;have ux:=bg List.length hu;simp only[ai] at ux;have j9:=ac;rw[hu] at j9;have ie:0<=bv (gP b)/\bv (gP b)<4294967296:=⟨by unfold bv;omega,by unfold bv;have:=(gP b).isLt;omega⟩;refine fn1 Ii Z Z Z ?_;refine wq<|wn Z<|aD<|wq<|wm Z<|wm Z<|wa (aC aHr Z (Ct.at 0 Z (aCq hf.1 G))) ?_;rintro _ _⟨rfl,rfl⟩;refine oG 13 Z G<|wy (dH Z)<|aA<|aN Z<|aH<|wq<|wm Z<|wy (aF Z)<|wy (yF 6 6 dw sz3 Z)<|wy (yL 0 au Z Z Z)<|wm Z<|wA Z Z<|wy (aF Z)<|wy (yF 6 6 dw sz3 Z) ?_;refine bY (aZ 0 Z Z Z sz3 Z Z Z Z (ak Z)) ?_;rintro _ _ rfl;refine aA<|wq<|wm Z<|wm Z<|wa (aC aHq Z (Ct.at 0 Z (aKu))) ?_;rintro _ _⟨rfl,rfl⟩;refine wm Z<|wX Z Z<|wX Z Z<|wg Z<|wn Z<|aD<|wq<|wm Z<|wy (dH Z)<|aA<|aN Z<|aH<|aD ?_;refine aJ<|wm Z<|wm Z<|wa (aC aHp Z ((xL (X:=([(ru 5 At s.length ct s)]++X)) (R0:=R0) (x:=bv (gP b)) (l:=b) (t:=t) al Z G ac ie nf dd G hu))) ?_;rintro _ _⟨me,mz,cr,co,mn,rfl,rfl⟩;refine wm Z<|wX Z Z<|wX Z Z<|wX Z Z<|wg Z<|wg Z<|wn Z<|aD<|wq<|wm Z<|wy (dH Z)<|aA<|aN Z ?_;refine aH<|wq<|wm Z<|wm Z<|wm Z<|wa (aC aHo Z (Ct.pick [1,0,2,3] 4 cC Z (aVv (rdr 0 Z) Z))) ?_;rintro _ _⟨rfl,rfl⟩;refine wm Z<|wX Z Z<|wX Z Z<|wg Z<|wn Z<|aD<|wq<|wm Z<|wy (Yl.f (iI Z Z) cC)<|aA<|aN Z<|aH<|aD ?_;refine wq<|wa (aC YM Z (Ct.fresh (λw hw=>mD))) ?_;rintro _ _⟨_,rfl,fd,rfl,rfl⟩;refine wm Z<|wa (iA [Value.slice me ((b).length) mz] ay mJ Z Z Z Z) ?_;rintro _ _⟨u3,rfl,rfl⟩;refine wa (aC YL Z (Ct.at 1 Z (lZ (ls:=[b]) (.inl ⟨Z,Z,cz ..,G⟩) (rdr 0 rfl) rfl (wV.one (l:=b) (rdr 2 rfl) dd (by first|rfl|simp|(simp[upd];done))) (Big.one (by first|omega|decide|simp))))) ?_;rintro _ _⟨rfl,rfl⟩;refine wm Z<|wy (Yl.f (aEz (p:=gP ([b]).flatten) (q:=gP b) Z Z) (λh=>h cD)) ?_;refine aA<|aN Z<|aH<|aD<|wq<|wm Z<|wy (aF Z)<|wy (yF 1 1 dw eF Z)<|wy (yF 0 1 bz sz3 Z)<|wy (yL 2 au Z Z Z)<|wy (Yl.t (iI Z Z) cC)<|aA<|dI Z<|aJ ?_;refine wm Z<|wm Z<|wy (aF Z)<|wy (yF 8 8 dw kK Z)<|wy (yF 0 8 ed dP Z)<|wy (yL 2 ah Z Z Z)<|wm Z<|wa (aY 5 Z ah zb5 Z Z Z (rdr 3 Z)) ?_;rintro _ _⟨en,cj,rfl,rfl⟩;refine bK (v:=sl en (s.length+((b).length)) cj) Z<|wy (aF Z)<|wy (yF 8 8 dw kK Z)<|wy (yF 0 8 ed dP Z)<|bY (aZ 2 Z Z Z dP Z Z Z Z (ak Z)) ?_;rintro _ _ rfl;refine aA<|wq<|wn Z<|aX [2,4,5] 6 cC Z ?_;refine⟨_,Z,?_⟩;have Us:s.length+b.length=(s++b).length:=by rw[ai]
 rw[Us];exact⟨_,_,_,_,mn,Z,Z⟩
theorem aEf (al:RdC B w0 R0 an ar am 1 (ints .u8 u)) (bx:ar=u.length) (hN:u.length<=1000000) (ac:aL u) (yb:nt=s.length) (hu:u=mZ 1 p2 b t) (dd:aL b) (o3:b.length<=100000/\s.length<=100000) (hf:(b.length:Int)<=p3/\(b.length:Int)<=ms-tt) (nf:p2=0\/p2=1) (hb:(-1000000<=ms/\ms<=1000000)/\(0<=tt/\tt<=1000000)):
  CT 91 #[PG g,I (b.length:Int)] B w0 ((rc 87 10 g [PG gc,I 1,I p1,I p2,I p3,I ms,I tt,I ls,sl At nt ct,sl none 0 0])::(rc 146 1 gc [sl an ar am])::(ru 5 At nt ct s)::(X++R0)) (λv R'=> ∃(A7:AF) (c7:Nat),∃(A9:AF) (c9:Nat),RdC B w0 R0 A9 (t).length c9 1 (ints .u8 (t))/\v=I 0/\R'=(rc 87 10 g [PG gc,I 1,I p1,I p2,I p3,I ms,I (tt+(b.length:Int)),I ls,sl A7 ((s++b).length) c7,sl none 0 0])::(rc 146 1 gc [sl A9 ((t).length) c9])::(ru 5 A7 ((s++b).length) c7 (s++b))::(X++R0)):=by
 subst bx;subst yb;obtain⟨a,wd,Ur⟩:=pM b;rw[mZ,VH wd Ur] at hu;have hz:=pG wd Ur;have w7:=JN (s:=b) (k:=0) G;dsimp only at hu;have u4:(ofL b a).length=b.length:=(KU wd Ur).length_eq;have ux:=bg List.length hu;simp only[ai] at ux;have j9:=ac;rw[hu] at j9;have ie:0<=bv (gP b)/\bv (gP b)<4294967296:=⟨by unfold bv;omega,by unfold bv;have:=(gP b).isLt;omega⟩;refine fn1 Ii Z Z Z ?_;refine wq<|wn Z<|aD<|wq<|wm Z<|wm Z<|wa (aC aHr Z (Ct.at 0 Z (aCp hf.1 G))) ?_;rintro _ _⟨rfl,rfl⟩;refine oG 13 Z G<|wy (dH Z)<|aA<|aN Z<|aH<|wq<|wm Z<|wy (aF Z)<|wy (yF 6 6 dw sz3 Z)<|wy (yL 0 au Z Z Z)<|wm Z<|wA Z Z<|wy (aF Z)<|wy (yF 6 6 dw sz3 Z) ?_;refine bY (aZ 0 Z Z Z sz3 Z Z Z Z (ak Z)) ?_;rintro _ _ rfl;refine aA<|wq<|wm Z<|wm Z<|wa (aC aHq Z ((aKt (X:=([(ru 5 At s.length ct s)]++X)) (R0:=R0) (at_:=(zat a)) (t:=aU ((bX (ofL b a) p2).length:Int)++(fM (bv (gP b))++(bX (ofL b a) p2++t))) al Z G cF G hu))) ?_;rintro _ _⟨me,cr,co,mn,rfl,rfl⟩;refine wm Z<|wX Z Z<|wX Z Z<|wg Z<|wn Z<|aD<|wq<|wm Z<|wy (dH Z)<|aA<|aN Z<|aH<|aD ?_;refine aJ<|wm Z<|wm Z<|wa (aC aHp Z (Ct.pick [1,2,0,3] 4 cC Z (xL (X:=([(ri 3 me 1 1 ([(zat a)])),(ru 5 At s.length ct s)]++X)) (R0:=R0) (x:=bv (gP b)) (l:=(ofL b a)) (t:=t) mn Z (by simp only[ai];omega) (aL.back j9) ie nf (AY dd wd) G Z))) ?_;rintro _ _⟨jj,na,fz,mj,hr_7,rfl,rfl⟩;refine wm Z<|wX Z Z<|wX Z Z<|wX Z Z<|wg Z<|wg Z<|wn Z<|aD<|wq<|wm Z<|wy (dH Z)<|aA<|aN Z ?_;refine aH<|wq<|wm Z<|wm Z<|wm Z<|wa (aC aHo Z (Ct.pick [1,0,2,3,4] 5 cC Z (aVu (rdr 0 Z) Z (rdr 2 Z) (AY dd wd) (ET dd wd Ur).1 (ET dd wd Ur).2 G))) ?_;rintro _ _⟨br,bw,rfl,rfl⟩;refine wm Z<|wX Z Z<|wX Z Z<|wg Z<|wn Z<|aD<|wq<|wm Z<|wy (Yl.f (iI Z Z) cC)<|aA<|aN Z<|aH<|aD ?_;refine wq<|wa (aC YM Z (Ct.fresh (λw hw=>mD))) ?_;rintro _ _⟨_,rfl,n5,rfl,rfl⟩;refine wm Z<|wa (iA [Value.slice br ((b).length) bw] ay mJ Z Z Z Z) ?_;rintro _ _⟨Cl,rfl,rfl⟩;refine wa (aC YL Z (Ct.at 1 Z (lZ (ls:=[b]) (.inl ⟨Z,Z,cz ..,G⟩) (rdr 0 rfl) rfl (wV.one (l:=b) (rdr 1 rfl) dd (by first|rfl|simp|(simp[upd];done))) (Big.one (by first|omega|decide|simp))))) ?_;rintro _ _⟨rfl,rfl⟩;refine wm Z<|wy (Yl.f (aEz (p:=gP ([b]).flatten) (q:=gP b) Z Z) (λh=>h cD)) ?_;refine aA<|aN Z<|aH<|aD<|wq<|wm Z<|wy (aF Z)<|wy (yF 1 1 dw eF Z)<|wy (yF 0 1 bz sz3 Z)<|wy (yL 3 au Z Z Z)<|wy (Yl.t (iI Z Z) cC)<|aA<|dI Z<|aJ ?_;refine wm Z<|wm Z<|wy (aF Z)<|wy (yF 8 8 dw kK Z)<|wy (yF 0 8 ed dP Z)<|wy (yL 3 ah Z Z Z)<|wm Z<|wa (aY 7 Z ah zb5 Z Z Z (rdr 2 Z)) ?_;rintro _ _⟨oe,ot,rfl,rfl⟩;refine bK (v:=sl oe (s.length+((b).length)) ot) Z<|wy (aF Z)<|wy (yF 8 8 dw kK Z)<|wy (yF 0 8 ed dP Z)<|bY (aZ 3 Z Z Z dP Z Z Z Z (ak Z)) ?_;rintro _ _ rfl;refine aA<|wq<|wn Z<|aX [3,5,7] 8 cC Z ?_;refine⟨_,Z,?_⟩;have Us:s.length+b.length=(s++b).length:=by rw[ai]
 rw[Us];exact⟨_,_,_,_,hr_7,Z,Z⟩
theorem aEe (al:RdC B w0 R0 an ar am 1 (ints .u8 u)) (bx:ar=u.length) (hN:u.length<=1000000) (ac:aL u) (yb:nt=s.length) (hu:u=mZ 2 p2 b t) (dd:aL b) (o3:b.length<=100000/\s.length<=100000) (hf:(b.length:Int)<=p3/\(b.length:Int)<=ms-tt) (nf:p2=0\/p2=1) (hb:(-1000000<=ms/\ms<=1000000)/\(0<=tt/\tt<=1000000)):
  CT 91 #[PG g,I (b.length:Int)] B w0 ((rc 87 10 g [PG gc,I 2,I p1,I p2,I p3,I ms,I tt,I ls,sl At nt ct,sl none 0 0])::(rc 146 1 gc [sl an ar am])::(ru 5 At nt ct s)::(X++R0)) (λv R'=> ∃(A7:AF) (c7:Nat),∃(A9:AF) (c9:Nat),RdC B w0 R0 A9 (t).length c9 1 (ints .u8 (t))/\v=I 0/\R'=(rc 87 10 g [PG gc,I 2,I p1,I p2,I p3,I ms,I (tt+(b.length:Int)),I ls,sl A7 ((s++b).length) c7,sl none 0 0])::(rc 146 1 gc [sl A9 ((t).length) c9])::(ru 5 A7 ((s++b).length) c7 (s++b))::(X++R0)):=by
 subst bx;subst yb;obtain⟨T,Ud,hsT⟩:=yC (bws b);rw[mZ,VI Ud hsT] at hu;dsimp only at hu;rw[ig] at hu;have u4:(T.map (lastB (bws b))).length=b.length:=by rw[az,IE Ud]
 have ux:=bg List.length hu;simp only[ai] at ux;have j9:=ac;rw[hu] at j9;have ie:0<=bv (gP b)/\bv (gP b)<4294967296:=⟨by unfold bv;omega,by unfold bv;have:=(gP b).isLt;omega⟩;refine fn1 Ii Z Z Z ?_;refine wq<|wn Z<|aD<|wq<|wm Z<|wm Z<|wa (aC aHr Z (Ct.at 0 Z (aCo hf.1 G))) ?_;rintro _ _⟨rfl,rfl⟩;refine oG 13 Z G<|wy (dH Z)<|aA<|aN Z<|aH<|wq<|wm Z<|wy (aF Z)<|wy (yF 6 6 dw sz3 Z)<|wy (yL 0 au Z Z Z)<|wm Z<|wA Z Z<|wy (aF Z)<|wy (yF 6 6 dw sz3 Z) ?_;refine bY (aZ 0 Z Z Z sz3 Z Z Z Z (ak Z)) ?_;rintro _ _ rfl;refine aA<|wq<|wm Z<|wm Z<|wa (aC aHq Z (Ct.at 0 Z (aKs))) ?_;rintro _ _⟨rfl,rfl⟩;refine wm Z<|wX Z Z<|wX Z Z<|wg Z<|wn Z<|aD<|wq<|wm Z<|wy (dH Z)<|aA<|aN Z<|aH<|aD ?_;refine aJ<|wm Z<|wm Z<|wa (aC aHp Z ((xL (X:=([(ru 5 At s.length ct s)]++X)) (R0:=R0) (x:=bv (gP b)) (l:=(T.map (lastB (bws b)))) (t:=t) al Z G ac ie nf (lY Ud (by rw[rA];exact dd)) G hu))) ?_;rintro _ _⟨me,mz,cr,co,mn,rfl,rfl⟩;refine wm Z<|wX Z Z<|wX Z Z<|wX Z Z<|wg Z<|wg Z<|wn Z<|aD<|wq<|wm Z<|wy (dH Z)<|aA<|aN Z ?_;refine aH<|wq<|wm Z<|wm Z<|wm Z<|wa (aC aHo Z (Ct.pick [1,0,2,3] 4 cC Z (aVt (rdr 0 Z) Z (lY Ud (by rw[rA];exact dd)) (aNo dd Ud hsT) G))) ?_;rintro _ _⟨fh,kh,rfl,rfl⟩;refine wm Z<|wX Z Z<|wX Z Z<|wg Z<|wn Z<|aD<|wq<|wm Z<|wy (Yl.f (iI Z Z) cC)<|aA<|aN Z<|aH<|aD ?_;refine wq<|wa (aC YM Z (Ct.fresh (λw hw=>mD))) ?_;rintro _ _⟨_,rfl,u3,rfl,rfl⟩;refine wm Z<|wa (iA [Value.slice fh ((b).length) kh] ay mJ Z Z Z Z) ?_;rintro _ _⟨zj,rfl,rfl⟩;refine wa (aC YL Z (Ct.at 1 Z (lZ (ls:=[b]) (.inl ⟨Z,Z,cz ..,G⟩) (rdr 0 rfl) rfl (wV.one (l:=b) (rdr 1 rfl) dd (by first|rfl|simp|(simp[upd];done))) (Big.one (by first|omega|decide|simp))))) ?_;rintro _ _⟨rfl,rfl⟩;refine wm Z<|wy (Yl.f (aEz (p:=gP ([b]).flatten) (q:=gP b) Z Z) (λh=>h cD)) ?_;refine aA<|aN Z<|aH<|aD<|wq<|wm Z<|wy (aF Z)<|wy (yF 1 1 dw eF Z)<|wy (yF 0 1 bz sz3 Z)<|wy (yL 3 au Z Z Z)<|wy (Yl.t (iI Z Z) cC)<|aA<|dI Z<|aJ ?_;refine wm Z<|wm Z<|wy (aF Z)<|wy (yF 8 8 dw kK Z)<|wy (yF 0 8 ed dP Z)<|wy (yL 3 ah Z Z Z)<|wm Z<|wa (aY 6 Z ah zb5 Z Z Z (rdr 2 Z)) ?_;rintro _ _⟨gd,ce,rfl,rfl⟩;refine bK (v:=sl gd (s.length+((b).length)) ce) Z<|wy (aF Z)<|wy (yF 8 8 dw kK Z)<|wy (yF 0 8 ed dP Z)<|bY (aZ 3 Z Z Z dP Z Z Z Z (ak Z)) ?_;rintro _ _ rfl;refine aA<|wq<|wn Z<|aX [3,5,6] 7 cC Z ?_;refine⟨_,Z,?_⟩;have Us:s.length+b.length=(s++b).length:=by rw[ai]
 rw[Us];exact⟨_,_,_,_,mn,Z,Z⟩
end Go.Proofs.YtdbebmmhdefgdaaGreat
namespace Go.Eng
open Go Go.RowKit Go.Pure
section
variable {P:Program} {n:Nd} {B:Nat} {w0:World} {L:Env} {R:List Row} {ty:TypeId}
def CellIs (L:Env) (R:List Row) (p sz:Nat) (xs:AG):Prop:= ∃(g i:Nat) (r:Row),lk L p=some (.pointer (some ⟨g,0,none⟩))/\R[i]? =some r/\r.ro=false/\r.A=some ⟨g,0,none⟩/\r.n=1/\r.c=1/\r.sz=sz/\r.xs=xs
theorem CellIs.load {m:Nat} {p sz:Nat} {xs:AG} {a:Act} {w:World} (h:CellIs L R p sz xs) (hs:Sat (m:Nd) L a) (hp:Hp B w0 w R): ∃g e,a.tmps[p]?.getD undef= .pointer (some ⟨g,0,none⟩)/\w.heap[g]? =some (.cells xs.toArray e (0,0))/\xs.length=sz:=by
 obtain⟨g,i,r,h1,h2,h3,h4,h5,h6,h7,h8⟩:=h;have fc:=Row.lies_w (hp.own r (gq h2)) h3;rcases fc.2 with⟨hn,_⟩|⟨g',cap,cur,hv,_,hg,_,_,ie,ht⟩
 ·rw[h4] at hn;cases hn
 ·rw [h4] at hv;simp only[jv,lv,Bb,Ag,zy] at hv;obtain⟨rfl,rfl⟩:=hv;rw[h5,h7,Di] at ht;rw[h6,h7,Di] at ie
  have e:cur=r.xs.toArray:=by
   rw[<-ht,bi (by rw[jr];omega)]
  rw[h8] at e;subst e;exact⟨g,_,by have:=hs.getD h1;simpa using this,hg,by simpa using ie⟩
theorem aTg {f:FuncId} {fn:Func} {c:Code} {args:AG} {R:List Row} {Post:Value->List Row->Prop} {p1 p2 r3:Nat} {t1 t2:TypeId} {d1 d2:TypeDesc} {s1 s2:Nat} (hf:P.funcs[f]? =some fn) (hb:fn.body=some c) (hr:fn.results= #[.cell p1 t1, .cell p2 t2, .tmp r3]) (hl:Nat.ble args.length fn.ntmps=true)
  (hu1:P.underlying t1=some d1) (Fk:(match d1 with| .struct _| .array _ _=>true|_=>false)=true) (ij:(P.info? t1).map (·.size)=some s1)
  (Og:P.underlying t2=some d2) (Pe:(match d2 with| .struct _| .array _ _=>true|_=>false)=true) (Qu:(P.info? t2).map (·.size)=some s2)
  (h:W P fn.ntmps B w0 c ⟨λL R'=> ∃xs ys u,CellIs L R' p1 s1 xs/\CellIs L R' p2 s2 ys/\lk L r3=some u/\ ∃R1,(∀w,Hp B w0 w R'->Hp B w0 w R1)/\Post (.tuple #[.agg xs.toArray, .agg ys.toArray,u]) R1,
   λL R'=> ∃xs ys u,CellIs L R' p1 s1 xs/\CellIs L R' p2 s2 ys/\lk L r3=some u/\ ∃R1,(∀w,Hp B w0 w R'->Hp B w0 w R1)/\Post (.tuple #[.agg xs.toArray, .agg ys.toArray,u]) R1,λ_ _ _=>False⟩ (ini 0 args) R):Ct P f args.toArray B w0 R Post:=by
 intro w hw;have Ra:args.length<=fn.ntmps:=ak hl
 have fin: ∀(L':Env) (R':List Row) (a':Act) (w':World),Sat fn.ntmps L' a'->Hp B w0 w' R'->(∃xs ys u,CellIs L' R' p1 s1 xs/\CellIs L' R' p2 s2 ys/\lk L' r3=some u/\ ∃R1,(∀w,Hp B w0 w R'->Hp B w0 w R1)/\Post (.tuple #[.agg xs.toArray, .agg ys.toArray,u]) R1)->
   ∃v R1,(results fn a'.tmps).run P w'= .ok v w'/\Hp B w0 w' R1/\Post v R1:=by
  rintro L' R' a' w' eh cv ⟨xs,ys,u,h1,h2,h3,R1,h8,h9⟩;obtain⟨g,e,a1,b1,l1⟩:=h1.load eh cv;obtain⟨g',e',a2,b2,l2⟩:=h2.load eh cv;have hu3:=eh.val r3 u h3
  have oa:(results fn a'.tmps).run P w'= .ok (.tuple #[.agg xs.toArray, .agg ys.toArray,u]) w':=by
   simp[results,hr,a1,a2,hu3,asAddr,run_loadVar_row w' g e t1 xs.toArray (0,0) d1 b1 hu1 Fk (by rw[ij];simp[l1]),run_loadVar_row w' g' e' t2 ys.toArray (0,0) d2 b2 Og Pe (by rw[Qu];simp[l2])]
  exact⟨_,R1,oa,h8 _ cv,h9⟩
 refine calls_of_wp hf hb (wp_mono (wpIn_wide.1 (h _ w ⟨cG,rfl,λt v ht=> ?_⟩ hw)) ?_)
 ·obtain ⟨_,h2⟩:=aCl args 0 t v ht;simp only[xz] at h2;have bo:=(gm.1 h2).1;rw[<-h2];simp[Be,bo]
 ·intro e a' w' hq;cases e with
  |normal=>
   obtain⟨L',R',eh,cv,hx⟩:=hq;obtain⟨v,R1,oa,hh,ov⟩:=fin L' R' _ _ eh cv hx;exact⟨eh.defers,v,oa,v,R1,rfl,hh,ov⟩
  |ret=>
   obtain⟨L',R',eh,cv,hx⟩:=hq;obtain⟨v,R1,oa,hh,ov⟩:=fin L' R' _ _ eh cv hx;exact⟨eh.defers,v,oa,v,R1,rfl,hh,ov⟩
  |exit id=>obtain⟨_,_,_,_,h⟩:=hq;exact h.elim
  |goto l=>exact hq
  |panic ch=>exact hq.elim
  |outgrown=>exact hq.elim
end
end Go.Eng
namespace Go.Proofs.YtdbebmmhdefgdaaGreat
open Go Go.Eng Go.Pure
open Tryz
set_option maxRecDepth 100000
variable {B g gc ar am nt ct:Nat} {w0:World} {X R0:List Row} {an At:AF} {u t:AH} {p1 p2 p3 ms tt ls sz k:Int}
theorem LK {p0:Int} {b0 b1 b2:Int} (al:RdC B w0 R0 an ar am 1 (ints .u8 u)) (bx:ar=u.length) (hN:u.length<=1000000) (ac:aL u) (hu:u=[87,72,82,76,1]++([b0,b1,b2]++(aU sz++t))) (wd:0<=b0/\b0<=3) (Ue:(0<=b1/\b1<=2)/\(b2=0\/b2=1)/\(1<=sz/\sz<=16777216)):
  CT 89 #[PG g] B w0 ((rc 87 10 g [PG gc,I p0,I p1,I p2,I p3,I ms,I tt,I ls,sl At nt ct,sl none 0 0])::(rc 146 1 gc [sl an ar am])::(X++R0)) (λv R'=> ∃(A9:AF) (c9:Nat),RdC B w0 R0 A9 (t).length c9 1 (ints .u8 (t))/\v=bt/\R'=(rc 87 10 g [PG gc,I b0,I b1,I b2,I sz,I ms,I tt,I ls,sl At nt ct,sl none 0 0])::(rc 146 1 gc [sl A9 ((t).length) c9])::(X++R0)):=by
 have h5:u.take (5:Int).toNat=[87,72,82,76,1]:=by rw[hu];rfl
 have hd5:u.drop (5:Int).toNat=[b0,b1,b2]++(aU sz++t):=by rw[hu];rfl
 have hd8:(u.drop (5:Int).toNat).drop (3:Int).toNat=aU sz++t:=by rw[hd5];rfl
 have ux:u.length=8+((aU sz).length+t.length):=by rw[hu];simp only[ai,dm,jg];omega
 refine(aCz (R:=X++R0) (m:=(aU sz).length) (RdC.right al X) bx hN ac h5 (by rw[hd5];rfl) G (by rw[hd8];exact uT.of ⟨G,G⟩ t) wd Ue).mono λv R' hv=> ?_;obtain⟨rfl,rfl⟩:=hv;have e:=RdC.fromI (l:=(aU sz).length) (RdC.fromI (l:=(3:Int).toNat) (RdC.fromI (l:=(5:Int).toNat) al (by show 5<=ar;omega)) (by show 3<=ar-5;omega)) (by show(aU sz).length<=ar-5-3;omega);have hl:ar-(5:Int).toNat-(3:Int).toNat-(aU sz).length=t.length:=by show ar-5-3-_=_;omega
 have hd:((u.drop (5:Int).toNat).drop (3:Int).toNat).drop (aU sz).length=t:=by rw[hd8];exact Gx
 rw[hl,hd] at e;rw[hl];exact⟨_,_,e,Z,Z⟩
theorem aNh {s b:AH} (al:RdC B w0 R0 an ar am 1 (ints .u8 u)) (bx:ar=u.length) (hN:u.length<=1000000) (ac:aL u) (yb:nt=s.length) (hu:u=mZ k p2 b t) (dd:aL b) (o3:b.length<=100000/\s.length<=100000) (hf:(b.length:Int)<=p3/\(b.length:Int)<=ms-tt) (nf:p2=0\/p2=1) (hb:(-1000000<=ms/\ms<=1000000)/\(0<=tt/\tt<=1000000)) (hk:k=0\/k=1\/k=2):
  CT 91 #[PG g,I (b.length:Int)] B w0 ((rc 87 10 g [PG gc,I k,I p1,I p2,I p3,I ms,I tt,I ls,sl At nt ct,sl none 0 0])::(rc 146 1 gc [sl an ar am])::(ru 5 At nt ct s)::(X++R0)) (λv R'=> ∃(A7:AF) (c7:Nat),∃(A9:AF) (c9:Nat),RdC B w0 R0 A9 (t).length c9 1 (ints .u8 (t))/\v=I 0/\R'=(rc 87 10 g [PG gc,I k,I p1,I p2,I p3,I ms,I (tt+(b.length:Int)),I ls,sl A7 ((s++b).length) c7,sl none 0 0])::(rc 146 1 gc [sl A9 ((t).length) c9])::(ru 5 A7 ((s++b).length) c7 (s++b))::(X++R0)):=by
 rcases hk with rfl|rfl|rfl
 ·exact aEg al bx hN ac yb hu dd o3 hf nf hb
 ·exact aEf al bx hN ac yb hu dd o3 hf nf hb
 ·exact aEe al bx hN ac yb hu dd o3 hf nf hb
theorem aQh {q0 q1 q2 q3:Int} {w:AH} {so od:Int} (al:RdC B w0 R0 an ar am 1 (ints .u8 u)) (bx:ar=u.length) (hN:u.length<=1000000) (ac:aL u) (hu:u=xW k so od sz w) (Li:aL w) (hS:w.length<=400) (hk:k=0\/k=1\/k=2) (hp:(0<=so/\so<=2)/\(od=0\/od=1)/\(1<=sz/\sz<=16777216)) (Rf: -1000000<=ms/\ms<=1000000) (b7:(w.length:Int)<=ms\/w.length=0):
  CT 51 #[PG g] B w0 ((rc 87 10 g [PG gc,I q0,I q1,I q2,I q3,I ms,I 0,I 0,sl none 0 0,sl none 0 0])::(rc 146 1 gc [sl an ar am])::(ru 5 none 0 0 ([]))::(X++R0)) (λv R'=> ∃(A7:AF) (c7:Nat) (L7:Int) (A9:AF) (c9:Nat),v=I 0/\R'=(rc 87 10 g [PG gc,I k,I so,I od,I sz,I ms,I (w.length:Int),I L7,sl A7 w.length c7,sl none 0 0])::(rc 146 1 gc [sl A9 0 c9])::(ru 5 A7 w.length c7 w)::(X++R0)):=by
 subst bx;have heb:=oC (t:=k) (so:=so) (o:=od) (sz:=sz) Li hS G G G hp.2.2;have Og:=hu;rw[QM] at Og;have ux:=bg List.length Og;simp only[ai,dm,jg] at ux;have Wl:u.length<=400000:=by rw[hu];exact heb.2
 have a6:=ac;rw[Og] at a6;have vu:aL (kW k od sz.toNat w 0):=aL.back (aL.back (aL.back a6));refine fn1 Kk Z Z Z ?_;refine wq<|wn Z<|aD<|wq<|wm Z<|wa (aC bEx Z ((LK (X:=([(ru 5 none 0 0 ([]))]++X)) (R0:=R0) (b0:=k) (b1:=so) (b2:=od) (sz:=sz) (t:=kW k od sz.toNat w 0) al Z G ac Og G hp))) ?_;rintro _ _⟨cr,co,mn,rfl,rfl⟩;refine wy (dH Z)<|aA<|aN Z<|aH<|wq<|wn Z<|aD<|aI ?_;refine RZ (λ(kk:Nat) (Ac:AF) (cc:Nat) (At:AF) (nt:Nat) (ct:Nat) (s:AH) (tt:Int) (ls:Int)=>[(0,PG g),(3,bf)]) (λkk Ac cc At nt ct s tt ls=>((rc 87 10 g [PG gc,I k,I so,I od,I sz,I ms,I tt,I ls,sl At nt ct,sl none 0 0])::(rc 146 1 gc [sl Ac ((kW k od sz.toNat w kk).length) cc])::(ru 5 At nt ct s)::(X++R0))) (λkk Ac cc At nt ct s tt ls=>(kk<=chK w.length sz.toNat)/\(RdC B w0 R0 Ac (kW k od sz.toNat w kk).length cc 1 (ints .u8 (kW k od sz.toNat w kk)))/\((kW k od sz.toNat w kk).length<=400000)/\(aL (kW k od sz.toNat w kk))/\(s=w.take (kk*sz.toNat))/\(nt=s.length)/\(tt=(s.length:Int))/\(ls=0\/ls=sz\/w.length<=kk*sz.toNat)) (λkk Ac cc At nt ct s tt ls=>(chK w.length sz.toNat-kk)) ?_ ?_
 ·exact⟨0,cr,co,none,0,0,[],0,0,⟨(qh _),(mn),G,(vu),(by rw[Dz];rfl),(Z),(Z),(.inl Z)⟩,KP⟩
 intro kk Ac cc At nt ct s tt ls ⟨hkk,Fl,Tv,Ku,hs,hnt,htt,yy⟩;have Qy:(kk+1)*sz.toNat=kk*sz.toNat+sz.toNat:=by rw[yg,Di]
 have ki:=aVc w sz.toNat kk;have Wj:=bFh (m:=w.length) (n:=sz.toNat) (k:=kk) G;have ka:s.length=min (kk*sz.toNat) w.length:=by rw[hs,ax]
 refine aI<|wq<|wm Z ?_;refine(Classical.em (kk<chK w.length sz.toNat)).elim (λFt=> ?_) (λFt=> ?_)
 ·have bo:kk+1<=chK w.length sz.toNat:=Ft;have hwk:=Wj.1 Ft;have Uo:=aBu (t:=k) (o:=od) Ft;have pj:=Ku;rw[Uo] at pj;have wb:=bg List.length Uo;rw[ai] at wb;have rr:aL (kW k od sz.toNat w (kk+1)):=aL.back (x:=(lT k (rE w sz.toNat kk)).1++(aU (bX (lT k (rE w sz.toNat kk)).2 od).length++(fM (bv (gP (rE w sz.toNat kk)))++bX (lT k (rE w sz.toNat kk)).2 od))) (by have h:=aL.back pj;unfold mZ at h;simpa only[ek] using h);have sr:(kW k od sz.toNat w (kk+1)).length<=(mZ k od (rE w sz.toNat kk) (kW k od sz.toNat w (kk+1))).length:=by unfold mZ;simp only[ai];omega
  refine wa (aC EF Z ((lH (X:=([(ru 5 At nt ct s)]++X)) (R0:=R0) ((((rE w sz.toNat kk).length:Nat):Int)) (mZ k od (rE w sz.toNat kk) (kW k od sz.toNat w (kk+1))) Fl Z G Ku G Uo))) ?_;rintro _ _⟨me,mz,ub,rfl,rfl⟩;refine wm Z<|wX Z Z<|wX Z Z<|wg Z<|wn Z<|aD<|wq<|wm Z<|wy (dH Z)<|aA<|aN Z<|aH<|aD ?_;refine wq<|wm Z<|wy (Yl.f (gT Z Z))<|aA<|aN Z<|aH ?_;refine zK [(0,PG g),(3,bf),(4,I (((rE w sz.toNat kk).length:Nat):Int))] ((rc 87 10 g [PG gc,I k,I so,I od,I sz,I ms,I tt,I ls,sl At nt ct,sl none 0 0])::(rc 146 1 gc [sl me ((mZ k od (rE w sz.toNat kk) (kW k od sz.toNat w (kk+1))).length) mz])::(ru 5 At nt ct s)::(X++R0)) ?_ ?_
  ·refine bL mixed<|wD 0 Z (aK Z)<|wD 1 Z (aK Z)<|wG 2 Z Z Z (aK Z)<|wG 3 Z Z Z (aF Z)<|wG 4 Z Z Z (yF 7 7 dw sz3 Z)<|wG 5 Z Z Z (yL 0 au Z Z Z)<|wG 6 Z Z Z (dN Z Z)<|wG 7 Z Z Z (aK Z)<|rG 28 Z (λbc=> ?_) (λbc=> ?_)
   ·refine wG 8 Z Z Z (aK Z)<|wG 9 Z Z Z (aF Z)<|wG 10 Z Z Z (yF 7 7 dw sz3 Z)<|wG 11 Z Z Z (yL 0 au Z Z Z)<|wG 12 Z Z Z (aK Z)<|wG 13 Z Z Z (aF Z)<|wG 14 Z Z Z (yF 1 1 dw eF Z)<|wG 15 Z Z Z (yF 3 4 bz sz3 Z)<|wG 16 Z Z Z (yL 0 au Z Z Z)<|wG 17 Z Z Z (Yl.f (fO Z Z))<|wG 18 Z Z Z (aQ Z Z)<|wD 19 Z (aP Z Z)<|wD 20 Z (bB Z)<|wN ?_;exact KP
   ·refine wO 8 Z Z Z<|wO 9 Z Z Z<|wO 10 Z Z Z<|wO 11 Z Z Z<|wO 12 Z Z Z<|wO 13 Z Z Z<|wO 14 Z Z Z<|wO 15 Z Z Z<|wO 16 Z Z Z<|wO 17 Z Z Z<|wG 18 Z Z Z (aP Z Z)<|wD 19 Z (aP Z Z)<|wD 20 Z (bB Z)<|wN ?_;exact KP
  refine aD<|wq<|wm Z<|wm Z<|wa (aC bGy Z ((aNh (X:=([]++X)) (R0:=R0) (b:=(rE w sz.toNat kk)) (t:=kW k od sz.toNat w (kk+1)) ub Z G (aL.back pj) hnt Z (aDx Li _ _) G G hp.2.1 G hk))) ?_;rintro _ _⟨br,bw,ft,ee,uc,rfl,rfl⟩;refine wn Z<|wq<|wm Z<|wy (Yl.f (iI Z Z) cC)<|aA<|aN Z<|aH<|aJ<|wm Z<|wm Z<|wy (aF Z)<|wy (yF 7 7 dw sz3 Z)<|bY (aZ 0 Z Z Z sz3 Z Z Z Z (ak Z)) ?_;rintro _ _ rfl;refine aA ?_;exact⟨(kk+1),ft,ee,br,(s++(rE w sz.toNat kk)).length,bw,s++(rE w sz.toNat kk),tt+((((rE w sz.toNat kk)).length:Nat):Int),(((rE w sz.toNat kk).length:Nat):Int),⟨(bo),(uc),G,(rr),(by rw[aNa,<-hs]),(Z),(by rw[ai];omega),G⟩,G,KP⟩
 ·have Pg:=PM (t:=k) (o:=od) (n:=sz.toNat) (u:=w) (k:=kk) G;have hwk: ¬kk*sz.toNat<w.length:=λh=>Ft (Wj.2 h);have l5:s=w:=by rw[hs];exact bi G
  have No:aL (aU 0++aU (w.length:Int)):=by rw[<-Pg];exact Ku
  refine wa (aC EF Z ((lH (X:=([(ru 5 At nt ct s)]++X)) (R0:=R0) (0) (aU (w.length:Int)) Fl Z G Ku G Pg))) ?_;rintro _ _⟨qq,dj,Hn,rfl,rfl⟩;refine wm Z<|wX Z Z<|wX Z Z<|wg Z<|wn Z<|aD<|wq<|wm Z<|wy (dH Z)<|aA<|aN Z<|aH<|aD ?_;refine wq<|wm Z<|wR Z Z<|aA<|dI Z<|aS<|wq<|wm Z<|wa (aC EF Z ((lH (X:=([(ru 5 At nt ct s)]++X)) (R0:=R0) ((w.length:Int)) ([]) Hn Z (by have:=bg List.length Pg;rw[ai] at this;omega) (aL.back No) G (ji _).symm))) ?_;rintro _ _⟨oe,ot,l3,rfl,rfl⟩;refine wm Z<|wX Z Z<|wX Z Z<|wg Z<|wn Z<|aD<|wq<|wm Z<|wy (dH Z)<|wm Z<|aB Z Z<|wm Z<|aB Z Z ?_;refine wm Z<|aB Z Z<|wy (aF Z)<|aB Z Z<|wy (yF 6 6 dw sz3 Z)<|aB Z Z<|wy (yL 0 au Z Z Z)<|aB Z Z<|wy (Yl.f (iI Z Z) (by rw[<-l5];omega)) ?_;refine wy (aP Z Z)<|wm Z<|aB Z Z<|wm Z<|aB Z Z<|wy (aF Z)<|aB Z Z<|wy (yF 0 0 dw VP Z)<|aB Z Z<|wy (yL 0 yf Z Z Z)<|aB Z Z<|wa (aC bEw Z (Ct.pick [1,0,2] 3 cC Z (LJ (k:=0) (R:=([(rc 87 10 g [PG gc,I k,I so,I od,I sz,I ms,I tt,I ls,sl At nt ct,sl none 0 0]),(ru 5 At nt ct s)]++X)++R0) (RdC.right l3 ([(rc 87 10 g [PG gc,I k,I so,I od,I sz,I ms,I tt,I ls,sl At nt ct,sl none 0 0]),(ru 5 At nt ct s)]++X)) Z))) ?_;rintro _ _⟨rfl,rfl⟩;refine aB Z Z<|wy (Yl.f (dN Z Z) cC)<|wy (aP Z Z)<|wm Z<|aB Z Z<|wm Z<|aB Z Z<|wm Z<|aM Z Z Z Z<|aM Z Z Z Z<|aM Z Z Z Z<|aM Z Z Z Z<|aM Z Z Z Z<|aM Z Z Z Z<|aB Z Z ?_;refine wy (aP Z Z)<|wy (aP Z Z)<|aA<|aN Z<|aH<|wq<|wn Z<|aX [1,0,2] 3 cC Z ?_;refine⟨_,Z,?_⟩;rw[htt,hnt,l5];exact⟨_,_,_,_,_,Z,Z⟩
theorem aHt {w_:World} {an:AF} {ar am:Nat} {u:AH} {lim:Int} {w:AH} {k so od sz:Int} (al:Rd w_ an ar am 1 (ints .u8 u)) (ac:aL u) (hN:u.length<=1000000) (hu:u=xW k so od sz w) (Li:aL w) (hS:w.length<=400) (hk:k=0\/k=1\/k=2) (hp:(0<=so/\so<=2)/\(od=0\/od=1)/\(1<=sz/\sz<=16777216)) (Mk: -1000<=lim/\lim<=1000000) (b7:(w.length:Int)<=lim\/w.length=0):
  CF 19 #[sl an ar am,I lim] w_ (λv R'=> ∃A c,v= .tuple #[.agg #[sl A w.length c,sl none 0 0], .agg #[I k,I so,I od,I sz],I 0]/\R'=[(ru 5 A w.length c w)]):=by
 obtain rfl:=al.lenI;refine aTg Kj Z Z Z ed Z kK bz Z eF ?_;have mv:=al.max;refine wq<|wa (eH (sz:=2) aAl Z) ?_;rintro _ _⟨ao,rfl,rfl⟩;refine wa (eH (sz:=4) aAk Z) ?_;rintro _ _⟨db,rfl,rfl⟩;refine wn Z<|wq<|wm Z<|wa (aC bEz Z (Ct.fresh (λw hw=>uL ((al.c _) w hw) hN))) ?_;rintro _ _⟨_,rfl,ew,me,mz,rfl,rfl⟩;refine wm Z<|wy (uP Z Z)<|wy (gV (v:= .agg #[PG ew,I 0,I 0,I 0,I 0,I (min lim 100000),I 0,I 0,sl none 0 0,sl none 0 0]) Z (λw=>cA))<|wa (dC (sz:=10) rfl rfl) ?_;rintro _ _⟨fd,rfl,rfl⟩;refine bR (R1:=[(ru 5 none 0 0 ([])),(rc 87 10 fd [PG ew,I 0,I 0,I 0,I 0,I (min lim 100000),I 0,I 0,sl none 0 0,sl none 0 0]),(rc 146 1 ew [sl me ((u).length) mz]),(ru 5 me ((u).length) mz u),(rc 27 4 db [I 0,I 0,I 0,I 0]),(rc 25 2 ao [sl none 0 0,sl none 0 0])]) (Sub.refl _) (λ_ h=>h.nil 5 1)<|wn Z<|aD<|wq<|wm Z<|wa (aC bEy Z (Ct.pick [1,2,0,3,4,5] 99 cC Z (aQh (X:=[]) (R0:=[(ru 5 me ((u).length) mz u),(rc 27 4 db [I 0,I 0,I 0,I 0]),(rc 25 2 ao [sl none 0 0,sl none 0 0])]) (rdr 0 Z) Z hN ac hu Li hS hk hp G G))) ?_;rintro _ _⟨ft,ee,L_9,br,bw,rfl,rfl⟩;refine wn Z<|wq<|wm Z<|wy (Yl.f (iI Z Z) cC)<|aA<|aN Z<|aH<|aD<|GJ (Rc:=[(rc 87 10 fd [PG ew,I k,I so,I od,I sz,I (min lim 100000),I (w.length:Int),I L_9,sl ft w.length ee,sl none 0 0])]) mixed (λ_ h=>h.sel [0] cC Z) ?_;refine jM 0 Z cA Z (aK Z) ?_;refine jM 1 Z cA Z (aF Z) ?_;refine jM 2 Z cA Z (yF 8 8 dw kK Z) ?_;refine jM 3 Z cA Z (bM (vs:=[sl ft w.length ee,sl none 0 0]) (rdr 0 Z) ed Z kK Z Z (ak Z) Z) ?_;refine jM 4 Z cA Z (aK Z) ?_;refine jM 5 Z cA Z (aF Z) ?_;refine jM 6 Z cA Z (yF 1 1 dw eF Z) ?_;refine jM 7 Z cA Z (bM (vs:=[I k,I so,I od,I sz]) (rdr 0 Z) bz Z eF Z Z (ak Z) Z) ?_;refine oD 8 cA ?_;refine aNc 8 Z (dO (vs:=[sl ft w.length ee,sl none 0 0]) 5 Z kK Z Z Z (by intro v hv;simp at hv;rcases hv with rfl|rfl<;>rfl) Z) ?_;rintro _ _ rfl;refine⟨λ_ h=>h.sel [0] cC Z,?_⟩;refine oD 9 cA ?_;refine aNc 9 Z (dO (vs:=[I k,I so,I od,I sz]) 4 Z eF Z Z Z (by intro v hv;simp at hv;rcases hv with rfl|rfl|rfl|rfl<;>rfl) Z) ?_;rintro _ _ rfl;refine⟨λ_ h=>h.sel [0] cC Z,?_⟩;refine jM 10 Z cA Z (bB Z) ?_;refine EK cA ?_;refine bT ?_;refine⟨_,_,_,⟨_,5,_,Z,Z,Z,Z,Z,Z,Z,Z⟩,⟨_,4,_,Z,Z,Z,Z,Z,Z,Z,Z⟩,Z,[(ru 5 ft w.length ee w)],λ_ h=>h.sel [2] cC Z,?_⟩;exact⟨_,_,Z,Z⟩
variable {w w0:World} {dg Aq an:AF} {de B cq ar am:Nat} {f:Value} {R:List Row} {u:AH} {so od sz:Int}
theorem aLo:
  CF 114 #[sl dg 0 de,f] w (λv R'=>v=I (-1)):=by
 refine fn1 Jl Z Z Z ?_;refine wq<|wn Z<|aD<|wq<|wm Z<|wy (aO ay Z)<|wm Z<|aA<|aI<|oJ 1<|dZ<|aD ?_;refine aJ<|wy (Yl.f (fO Z Z) cC)<|aA<|aD<|aN Z<|aS<|wq<|wn Z<|bT ?_;refine⟨_,Z,?_⟩;rfl
theorem qW:
  CF 68 #[sl dg 0 de,f] w (λv R'=>v=bf):=by
 refine fn1 Kl Z Z Z ?_;refine wq<|wn Z<|wq<|wm Z<|wm Z<|wa (aC aUi Z (Ct.quiet (λw hw=>aLo))) ?_;rintro _ _⟨rfl,rfl⟩;refine wy (Yl.f (jN Z Z))<|wn Z<|bT ?_;refine⟨_,Z,?_⟩;rfl
theorem ZN:CT 39 #[sl Aq 0 cq] B w0 R (λv R'=> ∃(A:AF) (c:Nat),v=sl A 0 c/\R'=R):=by
 intro w hw;refine(Ct.fresh (λw hw=>RB (ws:=[]) (qN w (Hp.refl w)) (eB _ _) ⟨(λ_ h=>by cases h),cC⟩) w hw).mono ?_;rintro e w' ⟨v,R',he,hh,Rn,rfl,A,c,vals,Rs,hv,hs,rfl⟩;have h1:vals.length=(canon []).length:=hs.1;have h0:vals.length=0:=by rw[h1,RA];rfl
 rw[h0] at hv;exact⟨v,R,he,hh.right,A,c,hv,Z⟩
theorem aYv (al:RdC B w0 R an ar am 1 (ints .u8 u)) (bx:ar=u.length) (ac:aL u) (hN:u.length<=100000) (hp:(0<=so/\so<=2)/\(od=0\/od=1)/\(1<=sz/\sz<=16777216)):
  CT 36 #[.agg #[sl an ar am,sl Aq 0 cq], .agg #[I 0,I so,I od,I sz]] B w0 (R) (λv R'=>v=I 0/\R'=R):=by
 subst bx;refine fn1 Fz Z Z Z ?_;refine wq<|wa (dC (sz:=2) Z Z) ?_;rintro _ _⟨ao,rfl,rfl⟩;refine wa (dC (sz:=4) Z Z) ?_;rintro _ _⟨ew,rfl,rfl⟩;refine wn Z<|wq<|wn Z<|wq<|wy (yF 0 0 bz sz3 Z)<|wy (yL 0 au Z Z Z)<|wQ Z Z<|wn Z<|aD<|aD ?_;refine aJ<|wy (bM (vs:=[I 0,I so,I od,I sz]) (rdr 0 Z) bz Z eF Z Z (ak Z) Z)<|wa (aC aMm Z (wJ G hp)) ?_;rintro _ _⟨rfl,rfl⟩;refine wy (dH Z)<|wm Z<|aB Z Z<|wm Z<|aB Z Z<|wy (dH Z)<|aB Z Z<|wm Z<|aB Z Z<|wy (yF 1 1 ed kL Z)<|aB Z Z<|wy (yL 1 ay Z Z Z)<|aB Z Z<|wy (aO ay Z)<|aB Z Z ?_;refine wy (Yl.f (dN Z Z))<|aB Z Z<|wy (aQ Z Z)<|wy (aP Z Z)<|wm Z<|aB Z Z<|wm Z<|aB Z Z<|wm Z<|aM Z Z Z Z<|aM Z Z Z Z<|aM Z Z Z Z<|aM Z Z Z Z<|aB Z Z<|wy (aP Z Z) ?_;refine wy (aP Z Z)<|wm Z<|aB Z Z<|wy (yF 1 1 ed kL Z)<|aB Z Z<|wy (yL 1 ay Z Z Z)<|aB Z Z<|wm Z<|aB Z Z<|wa (aC aMk Z (Ct.quiet (λw hw=>qW))) ?_;rintro _ _⟨rfl,rfl⟩;refine wy (aP Z Z)<|aA<|aN Z<|aH<|aD<|aD<|bL mixed<|wD 0 Z (yF 0 0 ed dP Z)<|wD 1 Z (yL 1 ah Z Z Z)<|wD 2 Z (aO ah Z)<|wD 3 Z (yF 1 1 ed kL Z)<|wD 4 Z (yL 1 ay Z Z Z)<|wC 5 Z (aC xX Z (Ct.fresh (λw hw=>gQ (qN w hw) (eB _ _) cE))) ?_;rintro _ _⟨_,rfl,fz,mj,rfl,rfl⟩;refine⟨.inr hrZ,?_⟩;refine wD 6 Z (aO ah Z)<|wD 7 Z (dK Z Z (by have e:([]:AD).flatten.length=0:=rfl;omega)) ?_;refine wD 8 Z (Yl.f (dN Z Z) (by have e:([]:AD).flatten.length=0:=rfl;omega)) ?_;refine wD 9 Z (aK Z)<|wG 10 Z Z Z (yF 1 1 ed kL Z)<|wG 11 Z Z Z (yL 2 ay Z Z Z)<|wG 12 Z Z Z (aO ay Z)<|wG 13 Z Z Z (Yl.f (dN Z Z))<|wD 14 Z (aP Z Z)<|wN<|aN Z<|aH<|wq<|wn Z<|aX [] 3 cC Z ?_;exact⟨_,Z,Z,Z⟩
theorem aYu (al:RdC B w0 R an ar am 1 (ints .u8 u)) (bx:ar=u.length) (ac:aL u) (hN:u.length<=100000) (hp:(0<=so/\so<=2)/\(od=0\/od=1)/\(1<=sz/\sz<=16777216)):
  CT 36 #[.agg #[sl an ar am,sl Aq 0 cq], .agg #[I 1,I so,I od,I sz]] B w0 (R) (λv R'=>v=I 0/\R'=R):=by
 subst bx;refine fn1 Fz Z Z Z ?_;refine wq<|wa (dC (sz:=2) Z Z) ?_;rintro _ _⟨ao,rfl,rfl⟩;refine wa (dC (sz:=4) Z Z) ?_;rintro _ _⟨ew,rfl,rfl⟩;refine wn Z<|wq<|wn Z<|wq<|wy (yF 0 0 bz sz3 Z)<|wy (yL 0 au Z Z Z)<|wQ Z Z<|wn Z<|aD<|aD ?_;refine aJ<|wy (bM (vs:=[I 1,I so,I od,I sz]) (rdr 0 Z) bz Z eF Z Z (ak Z) Z)<|wa (aC aMm Z (wJ G hp)) ?_;rintro _ _⟨rfl,rfl⟩;refine wy (dH Z)<|wm Z<|aB Z Z<|wm Z<|aB Z Z<|wy (dH Z)<|aB Z Z<|wm Z<|aB Z Z<|wy (yF 1 1 ed kL Z)<|aB Z Z<|wy (yL 1 ay Z Z Z)<|aB Z Z<|wy (aO ay Z)<|aB Z Z ?_;refine wy (Yl.f (dN Z Z))<|aB Z Z<|wy (aQ Z Z)<|wy (aP Z Z)<|wm Z<|aB Z Z<|wm Z<|aB Z Z<|wm Z<|aM Z Z Z Z<|aM Z Z Z Z<|aM Z Z Z Z<|aM Z Z Z Z<|aB Z Z<|wy (aP Z Z) ?_;refine wy (aP Z Z)<|wm Z<|aB Z Z<|wy (yF 1 1 ed kL Z)<|aB Z Z<|wy (yL 1 ay Z Z Z)<|aB Z Z<|wm Z<|aB Z Z<|wa (aC aMk Z (Ct.quiet (λw hw=>qW))) ?_;rintro _ _⟨rfl,rfl⟩;refine wy (aP Z Z)<|aA<|aN Z<|aH<|aD<|aD<|bL mixed<|wD 0 Z (yF 0 0 ed dP Z)<|wD 1 Z (yL 1 ah Z Z Z)<|wD 2 Z (aO ah Z)<|wD 3 Z (yF 1 1 ed kL Z)<|wD 4 Z (yL 1 ay Z Z Z)<|wC 5 Z (aC xX Z (Ct.fresh (λw hw=>gQ (qN w hw) (eB _ _) cE))) ?_;rintro _ _⟨_,rfl,fz,mj,rfl,rfl⟩;refine⟨.inr hrZ,?_⟩;refine wD 6 Z (aO ah Z)<|wD 7 Z (dK Z Z (by have e:([]:AD).flatten.length=0:=rfl;omega)) ?_;refine wD 8 Z (Yl.f (dN Z Z) (by have e:([]:AD).flatten.length=0:=rfl;omega)) ?_;refine wD 9 Z (aK Z)<|wG 10 Z Z Z (yF 1 1 ed kL Z)<|wG 11 Z Z Z (yL 2 ay Z Z Z)<|wG 12 Z Z Z (aO ay Z)<|wG 13 Z Z Z (Yl.f (dN Z Z))<|wD 14 Z (aP Z Z)<|wN<|aN Z<|aH<|wq<|wn Z<|aX [] 3 cC Z ?_;exact⟨_,Z,Z,Z⟩
theorem aYt (al:RdC B w0 R an ar am 1 (ints .u8 u)) (bx:ar=u.length) (ac:aL u) (hN:u.length<=100000) (hp:(0<=so/\so<=2)/\(od=0\/od=1)/\(1<=sz/\sz<=16777216)):
  CT 36 #[.agg #[sl an ar am,sl Aq 0 cq], .agg #[I 2,I so,I od,I sz]] B w0 (R) (λv R'=>v=I 0/\R'=R):=by
 subst bx;refine fn1 Fz Z Z Z ?_;refine wq<|wa (dC (sz:=2) Z Z) ?_;rintro _ _⟨ao,rfl,rfl⟩;refine wa (dC (sz:=4) Z Z) ?_;rintro _ _⟨ew,rfl,rfl⟩;refine wn Z<|wq<|wn Z<|wq<|wy (yF 0 0 bz sz3 Z)<|wy (yL 0 au Z Z Z)<|wQ Z Z<|wn Z<|aD<|aD ?_;refine aJ<|wy (bM (vs:=[I 2,I so,I od,I sz]) (rdr 0 Z) bz Z eF Z Z (ak Z) Z)<|wa (aC aMm Z (wJ G hp)) ?_;rintro _ _⟨rfl,rfl⟩;refine wy (dH Z)<|wm Z<|aB Z Z<|wm Z<|aB Z Z<|wy (dH Z)<|aB Z Z<|wm Z<|aB Z Z<|wy (yF 1 1 ed kL Z)<|aB Z Z<|wy (yL 1 ay Z Z Z)<|aB Z Z<|wy (aO ay Z)<|aB Z Z ?_;refine wy (Yl.f (dN Z Z))<|aB Z Z<|wy (aQ Z Z)<|wy (aP Z Z)<|wm Z<|aB Z Z<|wm Z<|aB Z Z<|wm Z<|aM Z Z Z Z<|aM Z Z Z Z<|aM Z Z Z Z<|aM Z Z Z Z<|aB Z Z<|wy (aP Z Z) ?_;refine wy (aP Z Z)<|wm Z<|aB Z Z<|wy (yF 1 1 ed kL Z)<|aB Z Z<|wy (yL 1 ay Z Z Z)<|aB Z Z<|wm Z<|aB Z Z<|wa (aC aMk Z (Ct.quiet (λw hw=>qW))) ?_;rintro _ _⟨rfl,rfl⟩;refine wy (aP Z Z)<|aA<|aN Z<|aH<|aD<|aD<|bL mixed<|wD 0 Z (yF 0 0 ed dP Z)<|wD 1 Z (yL 1 ah Z Z Z)<|wD 2 Z (aO ah Z)<|wD 3 Z (yF 1 1 ed kL Z)<|wD 4 Z (yL 1 ay Z Z Z)<|wC 5 Z (aC xX Z (Ct.fresh (λw hw=>gQ (qN w hw) (eB _ _) cE))) ?_;rintro _ _⟨_,rfl,fz,mj,rfl,rfl⟩;refine⟨.inr hrZ,?_⟩;refine wD 6 Z (aO ah Z)<|wD 7 Z (dK Z Z (by have e:([]:AD).flatten.length=0:=rfl;omega)) ?_;refine wD 8 Z (Yl.f (dN Z Z) (by have e:([]:AD).flatten.length=0:=rfl;omega)) ?_;refine wD 9 Z (aK Z)<|wG 10 Z Z Z (yF 1 1 ed kL Z)<|wG 11 Z Z Z (yL 2 ay Z Z Z)<|wG 12 Z Z Z (aO ay Z)<|wG 13 Z Z Z (Yl.f (dN Z Z))<|wD 14 Z (aP Z Z)<|wN<|aN Z<|aH<|wq<|wn Z<|aX [] 3 cC Z ?_;exact⟨_,Z,Z,Z⟩
end Go.Proofs.YtdbebmmhdefgdaaGreat
namespace Go.Proofs.YtdbebmmhdefgdaaGreat
open Go Go.Eng Go.RowKit Go.Shelf Go.Proofs
variable {n c m k g1 g2:Nat} {xs:AG} {A:AF} {zs:AH}
attribute [local go_sem] Oper.semAt_some
theorem lS {W:World} {a:Addr} (h:Rd W (some a) n c 1 xs) {j:Nat} (hj:j<xs.length):W.cell? (a.add j)=some (xs[j]'hj):=by
 obtain⟨b,h1,h2⟩:=h.at_ j _ (av hj);obtain rfl:=jd h1;exact h2
def chN (m n:Nat):Nat:=(m+n-1)/n
theorem TZ (hn:1<=n):k<chN m n↔k*n<m:=by
 unfold chN;rw[Nat.lt_iff_add_one_le,Nat.le_div_iff_mul_le G,yg];omega
theorem aDt (h:n<=m-k*n):((k:Int)*(n:Int)+(n:Int)).toNat-k*n=min n (m-k*n):=by
 have xd:(k:Int)*(n:Int)=((k*n:Nat):Int):=cD
 omega
theorem aDr:((k:Int)*(n:Int)+min (n:Int) ((m-k*n:Nat):Int)).toNat-k*n=min n (m-k*n):=by
 have xd:(k:Int)*(n:Int)=((k*n:Nat):Int):=cD
 omega
theorem aDs (h:m-k*n<=n):((k:Int)*(n:Int)+((m-k*n:Nat):Int)).toNat-k*n=min n (m-k*n):=by
 have xd:(k:Int)*(n:Int)=((k*n:Nat):Int):=cD
 omega
theorem aDu {N:Nat} (hn:1<=n) (h:k<N):N-(intOf (.int .i64 ((k:Int)*n+n))).toNat/n<N-(intOf (.int .i64 ((k:Int)*n))).toNat/n:=by
 have e0:(intOf (.int .i64 ((k:Int)*n))).toNat=k*n:=by
  have xd:(k:Int)*(n:Int)=((k*n:Nat):Int):=cD
  simp only[intOf,xd];omega
 have e1:(intOf (.int .i64 ((k:Int)*n+n))).toNat=(k+1)*n:=by
  have xd:(k:Int)*(n:Int)=((k*n:Nat):Int):=cD
  simp only[intOf,xd,yg];omega
 rw[e0,e1,Cy _ G,Cy _ G];omega
theorem aDw {P:Program} {t e:TypeId} {p:Nat} {tm:Array Value} {s:Nat} {w:World} {o:Oper} (ht:P.underlying t=some (.slice e)) (hi:(P.info? e).map (·.size)=some 1)
  (ho:o.op= .slice t (.tmp 14) (some (.tmp 15)) none none) (hs:tm.size=s) (h14:tm[14]? =some (.slice A m c)) (h15:tm[15]? =some (.int .i64 (p:Int))) (hp:p<=m):
  (execOp ({tmps:=tm,defers:=[]}:Act).eval o).run P w= .ok (.value (.slice (jD A p c 1) (m-p) (c-p))) w:=by
 have h:=fJ (P:=P) (n:=⟨s,[],none⟩) (B:=w.heap.size) (w0:=w) (L:=[(14, .slice A m c),(15, .int .i64 (p:Int))]) (R:=[]) (ty:=o.type) (x:= .tmp 14) (y:= .tmp 15) ht hi rfl rfl (l:=(p:Int)) G G
 have h2:=h {tmps:=tm,defers:=[]} w o ho rfl ⟨hs,rfl,λt v hv=>by
  rcases xO hv with⟨rfl,rfl⟩|⟨_,hv⟩
  ·exact h14
  ·rcases xO hv with⟨rfl,rfl⟩|⟨_,hv⟩
   ·exact h15
   ·simp[lk] at hv⟩ (Hp.refl w)
 rw[bq] at h2;exact h2
set_option maxRecDepth 100000 in
theorem aVb (hn:1<=n) (nw:n<=16777216) (sk:xs.length<=1000000):Iter Tryz.prog 73 #[.pointer (some ⟨g1,0,none⟩), .pointer (some ⟨g2,0,none⟩)] (λw=>Rd w (some ⟨g1,0,none⟩) 1 1 1 [.slice A xs.length c]/\Rd w (some ⟨g2,0,none⟩) 1 1 1 [.int .i64 (n:Int)]/\Rd w A xs.length c 1 xs) (chN xs.length n)
  (λk=>[.slice (jD A (k*n) c 1) (min n (xs.length-k*n)) (min n (xs.length-k*n))]):=by
 intro l J W hR hD hY h0;have hc:W.cell? ⟨g1,0,none⟩=some (.slice A xs.length c):=lS (hR _ _ h0).1 (j:=0) cD;have hd:W.cell? ⟨g2,0,none⟩=some (.int .i64 (n:Int)):=lS (hR _ _ h0).2.1 (j:=0) cD;have mw:=(hR _ _ h0).2.2.le;refine Bc Tryz.func73 rfl trivial ?_ rfl;simp only[Tryz.ntmps73,qb,dm,jg,Nat.reduceAdd,Nat.reduceSub,vo,vv,yt,uh,ig,ja]
 gi_wp2
 gi_loopw [4] (λi wr=> ∃k:Nat,k<=chN xs.length n/\i= .int .i64 ((k*n:Nat):Int)/\J k wr) (λi _=>chN xs.length n-(intOf i).toNat/n)
 case atStart=>exact⟨0,qh _,cD,h0⟩
 case round=>
  obtain⟨k,hk,rfl,re⟩:=hrel;have bc:wr.cell? ⟨g1,0,none⟩=some (.slice A xs.length c):=lS (hR _ _ re).1 (j:=0) cD;have Fk:wr.cell? ⟨g2,0,none⟩=some (.int .i64 (n:Int)):=lS (hR _ _ re).2.1 (j:=0) cD;by_cases bo:k<chN xs.length n
  ·have Qy:k*n<xs.length:=(TZ hn).1 bo
   have Yx:jD A (k*n) c 1=Option.map (λx=>x.add (k*n)) A:=by
    unfold jD;rw[df G,qg]
   gi_wp2
   refine wpIn_region_quiet_lit rfl cA cA ?_
   iterate 3 quiet_step_in (skip)
   refine wpQuietIn_step (by quiet_asked_in) (λK hK=> ?_);rw[di (by simp[Region.wanted])];refine⟨.slice (jD A (k*n) c 1) (xs.length-k*n) (c-k*n),λw' Oi=> ?_,hK _ ?_⟩
   ·unfold Oper.quietAtIn;rw[aDw (p:=k*n) (A:=A) (m:=xs.length) (c:=c) Tryz.underlying22 sz5 rfl rfl rfl cD G];exact⟨rfl,rfl⟩
   clear hK K
   iterate 3 quiet_step_in (skip)
   refine wpQuietIn_nil ?_;intro _ Oi;obtain⟨nq,hw''⟩:=Oi;subst hw'';have Xu:J k (wr.drewN nq):=hD k wr (wr.drawn+nq) re G;have da:(wr.drewN nq).cell? ⟨g1,0,none⟩=some (.slice A xs.length c):=lS (hR _ _ Xu).1 (j:=0) cD;have Pe:(wr.drewN nq).cell? ⟨g2,0,none⟩=some (.int .i64 (n:Int)):=lS (hR _ _ Xu).2.1 (j:=0) cD;obtain⟨fn,tmps,assign,body,hy,Ow⟩:=hY k _ bo Xu;have sv:(k*n)/n=k:=Cy _ G;have nd:(k*n+n)/n=k+1:=by rw[<-Br];exact Cy _ G
   gi_wp2
   all_goals
    rw[Yx] at hy
    first
     |rw[aDt (k:=k) (n:=n) (m:=xs.length) G,hy]
     |rw[aDs (k:=k) (n:=n) (m:=xs.length) G,hy]
     |rw[aDr (k:=k) (n:=n) (m:=xs.length),hy]
    gi_wp2
    refine⟨rfl,Ow.mono ?_⟩;rintro e W3 ⟨rfl,Ko⟩;have hd3:W3.cell? ⟨g2,0,none⟩=some (.int .i64 (n:Int)):=lS (hR _ _ Ko).2.1 (j:=0) cD
    gi_wp2
    go_roundw
    case rel=>exact⟨k+1,G,by simp[yg],Ko⟩
    case measure=>
     exact aDu hn bo
  ·obtain rfl:k=chN xs.length n:=G
   have Qy: ¬chN xs.length n*n<xs.length:=λh=>bo ((TZ hn).2 h)
   gi_wp2
   go_end0
   exact⟨⟨_,rfl⟩,re⟩
theorem aDv (hn:1<=n) (nw:n<=16777216) (sk:zs.length<=1000000):Iter Tryz.prog 73 #[.pointer (some ⟨g1,0,none⟩), .pointer (some ⟨g2,0,none⟩)] (λw=>Rd w (some ⟨g1,0,none⟩) 1 1 1 [.slice A zs.length c]/\Rd w (some ⟨g2,0,none⟩) 1 1 1 [.int .i64 (n:Int)]/\Rd w A zs.length c 1 (ints .u8 zs)) (chN zs.length n)
  (λk=>[.slice (jD A (k*n) c 1) (min n (zs.length-k*n)) (min n (zs.length-k*n))]):=by
 have h:=aVb (g1:=g1) (g2:=g2) (A:=A) (c:=c) (xs:=ints .u8 zs) hn nw (by rw[bO];exact sk);rw[bO] at h;exact h
theorem FP {sz:Int} (hn:1<=sz) (nw:sz<=16777216) (sk:zs.length<=1000000):Iter Tryz.prog 73 #[.pointer (some ⟨g1,0,none⟩), .pointer (some ⟨g2,0,none⟩)] (λw=>Rd w (some ⟨g1,0,none⟩) 1 1 1 [.slice A zs.length c]/\Rd w (some ⟨g2,0,none⟩) 1 1 1 [.int .i64 sz]/\Rd w A zs.length c 1 (ints .u8 zs)) (chN zs.length sz.toNat)
  (λk=>[.slice (jD A (k*sz.toNat) c 1) (min sz.toNat (zs.length-k*sz.toNat)) (min sz.toNat (zs.length-k*sz.toNat))]):=by
 have h:=aDv (g1:=g1) (g2:=g2) (A:=A) (c:=c) (n:=sz.toNat) (zs:=zs) G G sk;rw[lc G] at h;exact h
theorem PP {B:Nat} {w0:World} {R:List Row} {l:Nat} {k:IntKind} {xs:AH} (hr:RdC B w0 R A m c 1 (ints k xs)) (h1:l<=m):RdC B w0 R (jD A l c 1) (min n (m-l)) (min n (m-l)) 1 (ints k ((xs.drop l).take n)):=by
 intro w hw;have hl:=(hr w hw).lenI;have h:=hr.cutI (l:=l) (h:=l+min n (m-l)) G G w hw;rw[show l+min n (m-l)-l=min n (m-l) by omega] at h
 have e:(xs.drop l).take (min n (m-l))=(xs.drop l).take n:=by
  rcases Nat.le_total n (m-l) with a|a
  ·rw[zl a]
  ·rw[Nat.min_eq_right a,bi (by rw[bn];omega),bi (by rw[bn];omega)]
 rw[e] at h;exact⟨h.len,h.max,dn _,h.at_⟩
end Go.Proofs.YtdbebmmhdefgdaaGreat
namespace Go.Proofs.YtdbebmmhdefgdaaGreat
open Go Go.Eng Go.Pure
open Tryz
set_option maxRecDepth 100000
variable {w w0:World} {an Aq:AF} {ar am B cq:Nat} {u acc:AH} {R:List Row} {k so od sz:Int}
theorem MQ {n:Int} (al:Rd w an ar am 1 (ints .u8 u)) (hn:1<=n):
  CF 40 #[sl an ar am,I n] w (λv R'=> ∃g1 g2,v= .func (.func 73) #[] #[PG g1,PG g2]/\R'=[(rc 22 1 g1 [sl an u.length am]),(rc 3 1 g2 [I n])]):=by
 obtain rfl:=al.lenI;refine fn1 Tryz.func40 Z Z Z ?_;have mv:=al.max;refine wq<|wa (dC (sz:=1) Z Z) ?_;rintro _ _⟨ao,rfl,rfl⟩;refine wa (dC (sz:=1) Z Z) ?_;rintro _ _⟨db,rfl,rfl⟩;refine wn Z<|aD<|wq<|wy (yL 0 au Z Z Z)<|wy (Yl.f (fO Z Z))<|aA<|aN Z<|aH<|wq<|wy (lM Z Z)<|wn Z ?_;refine aX [1,0] 99 cC Z ?_;exact⟨_,Z,_,_,Z,Z⟩
theorem qX {bl:AF} {cm bm:Nat} {ap:AG} {ws:AD} (ba:Rd w bl cm bm 1 ap) (bp:SlW .u8 w ap ws) (hN:ws.flatten.length<=1000000/\ws.length<=1000000) (e:ws.flatten=u):
  CF 38 #[sl bl cm bm] w (λv R'=> ∃A c,v=sl A u.length c/\R'=[(ru 5 A u.length c u)]):=by
 subst e;exact gQ ba bp hN
theorem aXw {A:AF} {c:Nat}:RdC B w0 R A 0 c 1 []:=λ_ _=>⟨rfl,G,G,λj v hv=>by simp at hv⟩
theorem aTr (h:acc=(([87,72,82,76]++[1,k%256,so%256,od%256])++aU sz)++lK k od sz.toNat u (chN u.length sz.toNat)) (hs:0<=so/\so<=2) (ho:od=0\/od=1) (hk:0<=k/\k<256):
  ([]++[acc]++[aU 0]++[aU (u.length:Int)]:AD).flatten=xW k so od sz u:=by
 rw[h,qj hk.1 hk.2,qj (a:=so) G G,qj (a:=od) G G];unfold xW;simp[chN,chK]
theorem aMg (h:acc=(([87,72,82,76]++[1,k%256,so%256,od%256])++aU sz)++lK k od sz.toNat u (chN u.length sz.toNat)) (hs:0<=so/\so<=2) (ho:od=0\/od=1) (hk:0<=k/\k<256) (hu:aL u) (hN:u.length<=100000) (hz:0<=sz):aL acc:=by
 rw[h];intro x hx;rcases fo.1 hx with hx|hx
 ·rcases fo.1 hx with hx|hx
  ·simp only[ja,ig,iw,uq,Hq] at hx;omega
  ·exact bZ hz x hx
 ·exact(oW hu hN _).2 x hx
theorem aHi (h:acc=(([87,72,82,76]++[1,k%256,so%256,od%256])++aU sz)++lK k od sz.toNat u (chN u.length sz.toNat)) (hu:aL u) (hS:u.length<=400) (h1:1<=sz) (h2:sz<=16777216):acc.length<=400000:=by
 have e1:=(oW (t:=k) (o:=od) (n:=sz.toNat) hu G (chN u.length sz.toNat)).1;have e2:chN u.length sz.toNat<=u.length:=aVd G;have e3:(2*u.length+22)*chN u.length sz.toNat<=822*400:=Dx G G;have e4:=dA 4 sz G;have e5:=bg List.length h;rw[ai,ai] at e5;have e6:([87,72,82,76]++[1,k%256,so%256,od%256]:AH).length=8:=rfl;omega
theorem aNi (al:RdC B w0 R an ar am 1 (ints .u8 u)) (bx:ar=u.length) (ac:aL u) (hN:u.length<=100000) (hp:(0<=so/\so<=2)/\(od=0\/od=1)/\(1<=sz/\sz<=16777216)) (hk:k=0\/k=1\/k=2):
  CT 41 #[sl an ar am,sl Aq 0 cq, .agg #[I k,I so,I od,I sz]] B w0 R (λv R'=> ∃(A1:AF) (c1:Nat),v=sl A1 (dW k od u).length c1/\R'=(ru 5 A1 ((dW k od u).length) c1 (dW k od u))::R):=by
 rcases hk with rfl|rfl|rfl
 ·exact aNm al bx ac hN hp
 ·exact aNl al bx ac hN hp
 ·exact aNk al bx ac hN hp
theorem aYr (al:RdC B w0 R an ar am 1 (ints .u8 u)) (bx:ar=u.length) (ac:aL u) (hN:u.length<=100000) (hp:(0<=so/\so<=2)/\(od=0\/od=1)/\(1<=sz/\sz<=16777216)) (hk:k=0\/k=1\/k=2):
  CT 36 #[.agg #[sl an ar am,sl Aq 0 cq], .agg #[I k,I so,I od,I sz]] B w0 R (λv R'=>v=I 0/\R'=R):=by
 subst bx;rcases hk with rfl|rfl|rfl
 ·exact aYv al rfl ac hN hp
 ·exact aYu al rfl ac hN hp
 ·exact aYt al rfl ac hN hp
theorem aHj (al:Rd w an ar am 1 (ints .u8 u)) (ac:aL u) (hS:u.length<=400) (hp:(0<=so/\so<=2)/\(od=0\/od=1)/\(1<=sz/\sz<=16777216)) (hk:k=0\/k=1\/k=2):
  CF 16 #[.agg #[sl an u.length am,sl Aq 0 cq], .agg #[I k,I so,I od,I sz]] w (λv R'=> ∃A c,v= .tuple #[sl A (xW k so od sz u).length c,I 0]/\R'=[(ru 5 A ((xW k so od sz u).length) c (xW k so od sz u))]):=by
 obtain rfl:=al.lenI;refine fnV Ki Z Z ?_;have mv:=al.max;have hN:u.length<=100000:=G
 have hpz:=dA 4 sz G;have hpu:=dA 2 (u.length:Int) G;refine dL ?_;refine aJ<|wa (dC (sz:=2) Z Z) ?_;rintro _ _⟨ao,rfl,rfl⟩;refine fA (R1:=[(rc 25 2 ao [sl an u.length am,sl Aq 0 cq])]) Z<|wa (dC (sz:=4) Z Z) ?_;rintro _ _⟨db,rfl,rfl⟩;refine fA (R1:=[(rc 27 4 db [I k,I so,I od,I sz]),(rc 25 2 ao [sl an u.length am,sl Aq 0 cq])]) Z<|wg Z<|wn Z ?_;refine dL ?_;refine wq<|wy (bM (vs:=[sl an u.length am,sl Aq 0 cq]) (rdr 1 Z) ed Z kK Z Z (ak Z) Z)<|wy (bM (vs:=[I k,I so,I od,I sz]) (rdr 0 Z) bz Z eF Z Z (ak Z) Z)<|wa (aC bFa Z (aYr (al.c _) (by first|rfl|(simp;done)|omega) ac hN hp hk)) ?_;rintro _ _⟨rfl,rfl⟩;refine wn Z<|wq<|wm Z<|wy (Yl.f (iI Z Z) cC)<|aA<|aN Z<|aH ?_;refine dL ?_;refine aJ<|wa (bQ .u8 [87,72,82,76] ah zs5 Z Z Z) ?_;rintro _ _⟨ef,rfl,rfl⟩;refine wa (aWb 0 Z Z ah dh Z Z) ?_;rintro _ _⟨rfl,rfl⟩;refine fA (R1:=[⟨5,1,(GG ef),4,4,ints .u8 ([87,72,82,76]),true⟩,(rc 27 4 db [I k,I so,I od,I sz]),(rc 25 2 ao [sl an u.length am,sl Aq 0 cq])]) Z<|wy (yF 0 0 bz sz3 Z)<|wy (yL 1 au Z Z Z)<|wy (gU au dh Z)<|wy (yF 1 1 bz sz3 Z)<|wy (yL 1 au Z Z Z)<|wy (gU au dh Z)<|wy (yF 2 2 bz sz3 Z)<|wy (yL 1 au Z Z Z)<|wy (gU au dh Z)<|wa (bQ .u8 [1,k%256,so%256,od%256] ah zs5 Z Z Z) ?_;rintro _ _⟨fd,rfl,rfl⟩;refine wa (FT ah zb5 Z (rdr 1 Z) Z (rdr 0 Z) (by first|decide|(dsimp only;decide)) (by first|decide|(dsimp only;decide)) (by first|decide|(dsimp only;decide)) (by first|decide|(dsimp only;decide)) (by first|decide|(dsimp only;decide)) Z) ?_;rintro _ _⟨gh,ee,rfl,rfl⟩;refine fA (R1:=[(ru 5 (GG gh) 8 ee (([87,72,82,76])++([1,k%256,so%256,od%256]))),(ru 5 (GG fd) 4 4 ([1,k%256,so%256,od%256])),⟨5,1,(GG ef),4,4,ints .u8 ([87,72,82,76]),true⟩,(rc 27 4 db [I k,I so,I od,I sz]),(rc 25 2 ao [sl an u.length am,sl Aq 0 cq])]) Z<|bK (v:=sl (GG gh) 8 ee) Z<|wa (eH (sz:=1) aWi Z) ?_;rintro _ _⟨li,rfl,rfl⟩;refine fA (R1:=[(rc 22 1 li [sl none 0 0]),(ru 5 (GG gh) 8 ee (([87,72,82,76])++([1,k%256,so%256,od%256]))),(ru 5 (GG fd) 4 4 ([1,k%256,so%256,od%256])),⟨5,1,(GG ef),4,4,ints .u8 ([87,72,82,76]),true⟩,(rc 27 4 db [I k,I so,I od,I sz]),(rc 25 2 ao [sl an u.length am,sl Aq 0 cq])]) Z<|bY (aZ 0 Z Z Z dP Z Z Z Z (ak Z)) ?_;rintro _ _ rfl;refine fA (R1:=[(rc 22 1 li [sl (GG gh) 8 ee]),(ru 5 (GG gh) 8 ee (([87,72,82,76])++([1,k%256,so%256,od%256]))),(ru 5 (GG fd) 4 4 ([1,k%256,so%256,od%256])),⟨5,1,(GG ef),4,4,ints .u8 ([87,72,82,76]),true⟩,(rc 27 4 db [I k,I so,I od,I sz]),(rc 25 2 ao [sl an u.length am,sl Aq 0 cq])]) Z<|aA ?_;refine dL ?_;refine bL mixed<|wD 0 Z (yL 0 ah Z Z Z)<|wD 1 Z (yF 3 3 bz sz3 Z)<|wD 2 Z (yL 4 au Z Z Z)<|wC 3 Z (aC wE Z (Ct.fresh (λw hw=>gH G))) ?_;rintro _ _⟨_,rfl,br,bw,rfl,rfl⟩;refine⟨.inr hrZ,?_⟩;refine wC 4 Z (aY 2 Z ah zb5 Z Z Z (rdr 0 Z)) ?_;rintro _ _⟨fa,fb,rfl,rfl⟩;refine⟨.inl cA,?_⟩;refine mK (R1:=[(ru 5 br ((aU sz).length) bw (aU sz)),(rc 22 1 li [sl (GG gh) 8 ee]),(ru 5 fa (8+((aU sz).length)) fb ((([87,72,82,76])++([1,k%256,so%256,od%256]))++(aU sz))),(ru 5 (GG fd) 4 4 ([1,k%256,so%256,od%256])),⟨5,1,(GG ef),4,4,ints .u8 ([87,72,82,76]),true⟩,(rc 27 4 db [I k,I so,I od,I sz]),(rc 25 2 ao [sl an u.length am,sl Aq 0 cq])]) Z<|jS (v:=sl fa (8+((aU sz).length)) fb) Z<|qG 5 Z cA (aZ 1 Z Z Z dP Z Z Z Z (ak Z)) ?_;rintro _ _ rfl;refine⟨.inl cA,?_⟩;refine mK (R1:=[(ru 5 br ((aU sz).length) bw (aU sz)),(rc 22 1 li [sl fa (8+((aU sz).length)) fb]),(ru 5 fa (8+((aU sz).length)) fb ((([87,72,82,76])++([1,k%256,so%256,od%256]))++(aU sz))),(ru 5 (GG fd) 4 4 ([1,k%256,so%256,od%256])),⟨5,1,(GG ef),4,4,ints .u8 ([87,72,82,76]),true⟩,(rc 27 4 db [I k,I so,I od,I sz]),(rc 25 2 ao [sl an u.length am,sl Aq 0 cq])]) Z<|wN ?_;refine dL ?_;refine bL mixed<|wD 0 Z (yF 0 0 ed dP Z)<|wD 1 Z (yL 6 ah Z Z Z)<|wD 2 Z (yF 1 1 ed kL Z)<|wD 3 Z (yL 6 ay Z Z Z)<|wC 4 Z (aC bHf Z (ZN)) ?_;rintro _ _⟨oe,ot,rfl,rfl⟩;refine⟨.inr hiZ,?_⟩;refine wC 5 Z (aC xX Z (Ct.fresh (λw hw=>qX (u:=([]:AH)) (aXw w hw) (eB _ _) ⟨cC,cC⟩ rfl))) ?_;rintro _ _⟨_,rfl,gn,go,rfl,rfl⟩;refine⟨.inr hrZ,?_⟩;refine wC 6 Z (iA [Value.slice an u.length am,Value.slice gn ((([]:AH)).length) go] ay mJ Z Z Z Z) ?_;rintro _ _⟨km,rfl,rfl⟩;refine⟨.inr hrZ,?_⟩;refine wC 7 Z (aC xX Z (Ct.fresh (λw hw=>qX (u:=u) ((rdr 0 Z) w hw) (((eB _ _).snoc ((al.c _) w hw) (λx hx=>dQ (ac x hx)) G).snoc ((rdr 1 Z) w hw) (λx hx=>dQ ((show aL [] from λ_ h=>nomatch h) x hx)) cC) ⟨cG,cD⟩ cD))) ?_;rintro _ _⟨_,rfl,gi,gl,rfl,rfl⟩;refine⟨.inr hrZ,?_⟩;refine wD 8 Z (bB Z)<|wN ?_;refine dL ?_;refine aJ<|wy (yF 3 3 bz sz3 Z)<|wy (yL 8 au Z Z Z)<|wn Z ?_;refine dL ?_;refine wq<|wy (yF 0 0 bz sz3 Z)<|wy (yL 8 au Z Z Z)<|wy (Yl.f (gT Z Z))<|aA<|aN Z<|aH ?_;refine ES ?_;refine dL ?_;refine aJ<|wm Z<|wm Z<|wa (aC bHe Z (Ct.fresh (λw hw=>MQ ((rdr 0 Z) w hw) G))) ?_;rintro _ _⟨_,rfl,Ot,vn,rfl,rfl⟩;refine aA ?_;refine rJ ?_;refine zM Z bHa (FP (A:=gi) (c:=gl) (zs:=u) (sz:=sz) G G G) Z (λ_=>Z) Gd.refl (λ(kr:Nat) (A1:AF) (n1:Nat) (c1:Nat) (acc:AH)=>[(rc 22 1 Ot [sl gi ((u).length) gl]),(rc 3 1 vn [I sz]),(ru 5 gi ((u).length) gl u),⟨22,1,(GG km),2,2,[Value.slice an u.length am,Value.slice gn ((([]:AH)).length) go],false⟩,(ru 5 gn ((([]:AH)).length) go ([]:AH)),(ru 5 br ((aU sz).length) bw (aU sz)),(rc 22 1 li [sl A1 n1 c1]),(ru 5 A1 n1 c1 acc),(ru 5 (GG fd) 4 4 ([1,k%256,so%256,od%256])),⟨5,1,(GG ef),4,4,ints .u8 ([87,72,82,76]),true⟩,(rc 27 4 db [I k,I so,I od,I sz]),(rc 25 2 ao [sl an u.length am,sl Aq 0 cq])]) (λkr A1 n1 c1 acc=>(n1=acc.length)/\(acc=(([87,72,82,76]++[1,k%256,so%256,od%256])++aU sz)++lK k od sz.toNat u kr)) ?_ ?_ ?_ ?_
 ·exact⟨fa,8+((aU sz).length),fb,(([87,72,82,76])++([1,k%256,so%256,od%256]))++(aU sz),⟨(by rw[ai];rfl),(by rw[CP,ji])⟩,λ_ h=>h⟩
 ·intro kr A1 n1 c1 acc w ⟨dp,bh⟩ hw;exact⟨(rdr 0 Z) w hw,(rdr 1 Z) w hw,(rdr 2 Z) w hw⟩
 ·intro lr kr A1 n1 c1 acc Vt Kw ⟨dp,bh⟩ i7;have Nx:kr*sz.toNat<u.length:=(TZ G).1 cF;have Wj:kr<=400:=ry (Nat.le_mul_of_pos_right kr (show 0<sz.toNat by omega)) G;have sp:=bg List.length bh;rw[ai,ai,ai] at sp;have b5:=oW (t:=k) (o:=od) (n:=sz.toNat) ac hN kr;have Ym:(2*u.length+22)*kr<=822*400:=Dx G Wj;have Kt:=MW (t:=k) (o:=od) (b:=(u.drop (kr*sz.toNat)).take sz.toNat) ((ac.drop _).take _) (by rw[ax,bn];omega);have hbk3:((u.drop (kr*sz.toNat)).take sz.toNat).length<=u.length:=by rw[ax,bn];omega
  have h8:([87,72,82,76]:AH).length=4:=rfl;have h9:([1,k%256,so%256,od%256]:AH).length=4:=rfl;refine aJ<|wn Z ?_;intro On tx;refine aI<|bL mixed<|wD 0 Z (yL 6 ah Z Z Z)<|wD 1 Z (aK Z)<|wD 2 Z (yF 1 1 ed kL Z)<|wD 3 Z (yL 11 ay Z Z Z)<|wD 4 Z (bM (vs:=[I k,I so,I od,I sz]) (rdr 10 Z) bz Z eF Z Z (ak Z) Z)<|wC 5 Z (aC bHd Z (aNi (PP (l:=kr*sz.toNat) (n:=sz.toNat) (rdr 2 Z) cH) (by rw[ax,bn]) ((ac.drop _).take _) (by rw[ax,bn];omega) hp hk)) ?_;rintro _ _⟨pn,pr,rfl,rfl⟩;refine⟨.inr hrZ,?_⟩;refine wC 6 Z (aY 8 Z ah zb5 Z Z Z (rdr 0 Z)) ?_;rintro _ _⟨rx,sd,rfl,rfl⟩;refine⟨.inl cA,?_⟩;refine mK (R1:=[(ru 5 pn ((dW k od ((u.drop (kr*sz.toNat)).take sz.toNat)).length) pr (dW k od ((u.drop (kr*sz.toNat)).take sz.toNat))),(rc 22 1 Ot [sl gi ((u).length) gl]),(rc 3 1 vn [I sz]),(ru 5 gi ((u).length) gl u),⟨22,1,(GG km),2,2,[Value.slice an u.length am,Value.slice gn ((([]:AH)).length) go],false⟩,(ru 5 gn ((([]:AH)).length) go ([]:AH)),(ru 5 br ((aU sz).length) bw (aU sz)),(rc 22 1 li [sl A1 n1 c1]),(ru 5 rx (n1+((dW k od ((u.drop (kr*sz.toNat)).take sz.toNat)).length)) sd (acc++(dW k od ((u.drop (kr*sz.toNat)).take sz.toNat)))),(ru 5 (GG fd) 4 4 ([1,k%256,so%256,od%256])),⟨5,1,(GG ef),4,4,ints .u8 ([87,72,82,76]),true⟩,(rc 27 4 db [I k,I so,I od,I sz]),(rc 25 2 ao [sl an u.length am,sl Aq 0 cq])]) Z<|jS (v:=sl rx (n1+((dW k od ((u.drop (kr*sz.toNat)).take sz.toNat)).length)) sd) Z<|qG 7 Z cA (aZ 7 Z Z Z dP Z Z Z Z (ak Z)) ?_;rintro _ _ rfl;refine⟨.inl cA,?_⟩;refine mK (R1:=[(ru 5 pn ((dW k od ((u.drop (kr*sz.toNat)).take sz.toNat)).length) pr (dW k od ((u.drop (kr*sz.toNat)).take sz.toNat))),(rc 22 1 Ot [sl gi ((u).length) gl]),(rc 3 1 vn [I sz]),(ru 5 gi ((u).length) gl u),⟨22,1,(GG km),2,2,[Value.slice an u.length am,Value.slice gn ((([]:AH)).length) go],false⟩,(ru 5 gn ((([]:AH)).length) go ([]:AH)),(ru 5 br ((aU sz).length) bw (aU sz)),(rc 22 1 li [sl rx (n1+((dW k od ((u.drop (kr*sz.toNat)).take sz.toNat)).length)) sd]),(ru 5 rx (n1+((dW k od ((u.drop (kr*sz.toNat)).take sz.toNat)).length)) sd (acc++(dW k od ((u.drop (kr*sz.toNat)).take sz.toNat)))),(ru 5 (GG fd) 4 4 ([1,k%256,so%256,od%256])),⟨5,1,(GG ef),4,4,ints .u8 ([87,72,82,76]),true⟩,(rc 27 4 db [I k,I so,I od,I sz]),(rc 25 2 ao [sl an u.length am,sl Aq 0 cq])]) Z<|wN ?_;exact⟨rx,n1+((dW k od ((u.drop (kr*sz.toNat)).take sz.toNat)).length),sd,acc++(dW k od ((u.drop (kr*sz.toNat)).take sz.toNat)),⟨(by rw[ai,dp]),(by rw[CQ,<-ek,<-bh])⟩,λ_=>λ_ h=>h.sel [1,2,3,4,5,6,7,8,9,10,11,12] cC Z⟩
 intro Oo Xe A1 n1 c1 acc ⟨dp,bh⟩ Eq tk;refine IV ?_;refine VC ?_;refine v_w ?_;refine aD<|bL mixed<|wD 0 Z (yL 6 ah Z Z Z)<|wD 2 Z (aK Z)<|wD 3 Z (aO ah Z)<|wC 1 Z (aC wE Z (Ct.fresh (λw hw=>gH cC))) ?_;rintro _ _⟨_,rfl,tc,th,rfl,rfl⟩;refine⟨.inr hrZ,?_⟩;refine wC 4 Z (aC wE Z (Ct.fresh (λw hw=>gH G))) ?_;rintro _ _⟨_,rfl,Xa,Xh,rfl,rfl⟩;refine⟨.inr hrZ,?_⟩;refine wC 5 Z (iA [Value.slice A1 n1 c1,Value.slice tc ((aU 0).length) th,Value.slice Xa ((aU (((u).length:Nat):Int)).length) Xh] ay mJ Z Z Z Z) ?_;rintro _ _⟨g_37,rfl,rfl⟩;refine⟨.inr hrZ,?_⟩;refine wC 6 Z (aC xX Z (Ct.fresh (λw hw=>qX (u:=(xW k so od sz u)) ((rdr 0 Z) w hw) ((((eB _ _).snoc ((rdr 10 Z) w hw) (λx hx=>dQ ((aMg bh hp.1 hp.2.1 G ac hN G) x hx)) (by have:=aHi bh ac hS G G;omega)).snoc ((rdr 2 Z) w hw) (λx hx=>dQ ((bZ G) x hx)) cC).snoc ((rdr 1 Z) w hw) (λx hx=>dQ ((bZ G) x hx)) G) ⟨by have:=aHi bh ac hS G G;simp only[pq,ig,ja,jq,qo,ug,Gm];have h0:(aU 0).length=1:=rfl;omega,cD⟩ (aTr bh hp.1 hp.2.1 G)))) ?_;rintro _ _⟨_,rfl,A_38,c_39,rfl,rfl⟩;refine⟨.inr hrZ,?_⟩;refine wD 7 Z (bB Z)<|wD 8 Z (bB Z)<|wN<|aX [0] 99 cC Z ?_;refine aLx Z tk ⟨_,_,Z,Z,?_⟩;exact⟨_,_,Z,Z⟩
theorem aZr:xW 0 0 0 1 []=[87,72,82,76,1,0,0,0,1,0,0]:=by
 rw[QM,PM cC];rfl
theorem uG {w:World}:
  CF 25 #[] w (λv R'=>v=bt):=by
 refine fn1 Tryz.func25 Z Z Z ?_;refine wq<|wn Z<|wq<|wy (gV (v:= .agg #[sl none 0 0,sl none 0 0]) Z (λw=>cA))<|wy (gV (v:= .agg #[I 0,I 0,I 0,I 1]) rfl (λw=>cA))<|wa (aC aUe rfl (Ct.fresh (λw hw=>aHj (u:=[]) ((JW _) w hw) aL.nil cC G G))) ?_;rintro _ _⟨_,rfl,cr,co,rfl,rfl⟩;refine wm Z<|wX Z Z<|wX Z Z<|wg Z<|wn Z<|wq<|wm Z<|wa (aC aZx Z (Ct.fresh (λw hw=>aHt (w:=([]:AH)) (k:=0) (so:=0) (od:=0) (sz:=1) ((rdr 0 Z) w hw) (oC aL.nil cC cC cC cC cC).1 (by have:=(oC (t:=0) (so:=0) (o:=0) (sz:=1) aL.nil cC cC cC cC cC).2;omega) Z aL.nil cC G G G (.inr Z)))) ?_;rintro _ _⟨_,rfl,me,mz,rfl,rfl⟩;refine wm Z<|wX Z Z<|wX Z Z<|wX Z Z<|wa (eH (sz:=2) aAl Z) ?_;rintro _ _⟨u3,rfl,rfl⟩;refine wa (eH (sz:=4) aAk Z) ?_;rintro _ _⟨zj,rfl,rfl⟩;refine bY (dO (vs:=[sl me ((([]:AH)).length) mz,sl none 0 0]) 1 Z kK Z Z Z (by intro v hv;simp at hv;rcases hv with rfl|rfl<;>rfl) Z) ?_;rintro _ _ rfl;refine bY (dO (vs:=[I 0,I 0,I 0,I 1]) 0 Z eF Z Z Z (by intro v hv;simp at hv;rcases hv with rfl|rfl|rfl|rfl<;>rfl) Z) ?_;rintro _ _ rfl;refine wn Z<|wq<|wm Z<|wR Z Z<|wm Z<|aB Z Z<|wm Z<|aB Z Z<|wy (jR ah dh wo Z (rdr 3 Z))<|aB Z Z<|wy (Yl.t (OB (q:=[87,72,82,76,1,0,0,0,1,0,0]) Z Z (oC aL.nil cC cC cC cC cC).1 (by unfold aL;decide)) (aZr)) ?_;refine wy (aQ Z Z)<|wm Z<|aB Z Z<|wm Z<|aB Z Z<|wR Z Z<|wy (aQ Z Z)<|wm Z<|aB Z Z<|wy (yF 0 0 ed dP Z)<|aB Z Z<|wy (yL 1 ah Z Z Z)<|aB Z Z<|wy (aO ah Z)<|aB Z Z ?_;refine wy (yF 1 1 ed kL Z)<|aB Z Z<|wy (yL 1 ay Z Z Z)<|aB Z Z<|wy (aO ay Z)<|aB Z Z<|wy (dK Z Z cC)<|aB Z Z<|wR Z Z<|wy (aQ Z Z)<|wm Z<|aB Z Z<|wy (yF 3 3 bz sz3 Z)<|aB Z Z<|wy (yL 0 au Z Z Z) ?_;refine aB Z Z<|wR Z Z<|wy (aQ Z Z)<|wn Z<|aX [] 99 cC Z ?_;refine⟨_,Z,?_⟩;rfl
end Go.Proofs.YtdbebmmhdefgdaaGreat
namespace Go.Pure
open Go Go.Eng
variable {w r a b l:AH} {k:Nat} {ws:AD} {T:AE}
def ER (w:AH):List (Nat->Int):=(List.range w.length).map λj=>rot w j
def EW (ws:AD):List (Nat->Int):=ws.flatMap ER
theorem JA (ws:AD): ∀k:Nat,k<=ws.length->(iD ws k).map (tw ws)=EW (ws.take k)
 |0,_=>rfl
 | k+1,hk=>by
  have ih:=JA ws k G;rw[iD,jc,ih,qc,av G];unfold EW;rw[Cb];congr 1;simp only[Al,zq,List.flatMap_nil,ji]
  have e:rdl ws (k:Int)=ws[k]:=by
   unfold rdl;rw[bq,af,av G];rfl
  unfold turnsOf ER;rw[rq,e];refine xh λj _=> ?_;show tw ws ((k:Int),(j:Int))=rot ws[k] j;rw[bBm,e];rfl
theorem aEt (a b:AD):EW (a++b)=EW a++EW b:=Cb
theorem aIn {a b:AD} (h:a.Perm b):(EW a).Perm (EW b):=h.flatMap_right _
theorem aXm (u:AH) (q:Nat):rot u (q+u.length)=rot u q:=by
 rw[<-zX (q+u.length),Hz,zX]
theorem aPr (u:AH) (q k:Nat):rot u (k*u.length+q)=rot u q:=by
 rw[<-zX (k*u.length+q),ut,Nat.add_mul_mod_self_right,zX]
theorem bBb {r:Nat} (hr:r<=w.length) (hn:0<w.length):(ER (jW w r)).Perm (ER w):=by
 have hl:=nH w r
 have e:ER (jW w r)=(ER w).drop r++(ER w).take r:=by
  refine sw (by unfold ER;simp[hl];omega) λj h1 h2=> ?_;unfold ER at h1 h2 ⊢;rw[az,yo,hl] at h1;rw[xu,zf,SL hr hn];rcases gu j (w.length-r) with g|g
  ·rw[List.getElem_append_left (by simp;exact g),Dq,xu,zf]
  ·rw [List.getElem_append_right cG,ym,xu,zf];simp only[bn,az,yo];rw[<-aXm w (j-(w.length-r))];congr 1;omega
 rw[e];refine rf.trans ?_;rw[ik]
theorem aXl (hr:0<r.length) (hk:0<k) (q:Nat):rot (rep r k) q=rot r q:=by
 funext d;show om (rep r k) (q+d)=om r (q+d);exact aRn hr hk _
theorem bFy (hr:0<r.length) (hk:0<k):ER (rep r k)=EW (List.replicate k r):=by
 have h1: ∀m:Nat,(List.range (m*r.length)).map (λj=>rot r j)=EW (List.replicate m r):=λm=>by
  induction m with
  |zero=>simp[EW]
  |succ m ih=>
   rw[Fw,aEt,Br,List.range_add,jc,ih,rq];congr 1;unfold EW ER;simp only[zq,List.flatMap_nil,ji];exact xh λj _=>aPr r j m
 rw[<-h1 k];unfold ER;rw[nK,bq];exact xh λj _=>aXl hr hk j
def FZ (rs:List RT):AD:=rs.flatMap λr=>List.replicate r.2.toNat r.1
def exs (ws:AD):AD:=FZ (iT ws)
theorem bBc (hw:0<w.length):(ER w).Perm (EW (List.replicate (nJ w).2.toNat (nJ w).1)):=by
 have hb:=TE w;have hl:=jQ w
 have h1:(ER (lw w)).Perm (ER w):=by
  have:=bBb (w:=w) (r:=(nC w).toNat) G hw;rwa[lc hb.1] at this
 have h2:=rM (c:=lw w) G;have ht:=pW (c:=lw w) G;have hr:=zY (c:=lw w) G;have hp:=oL (u:=lw w) G;have h3:=bFy (r:=jO (lw w)) (k:=(gF (lw w)).toNat) G G;rw[lc G,h2] at h3;rw[h3] at h1;exact h1.symm
theorem aAi: ∀ws:AD,(EW ws).Perm (EW (FZ (cZ ws)))
 |[]=> .refl _
 | w::ws=>by
  have ih:=aAi ws;rw[show w::ws=[w]++ws from rfl,aEt,jX];unfold FZ;rw[Cb,aEt];refine List.Perm.append ?_ ih;by_cases h:0<w.length
  ·have e:cZ [w]=[nJ w]:=by unfold cZ;simp[h]
   rw[e];have:=bBc h;unfold EW at this ⊢;simpa using this
  ·have e:cZ [w]=[]:=by unfold cZ;simp[h]
   have e2:w=[]:=dx G;rw[e,e2];unfold EW ER;simp
theorem bFx (ws:AD):(EW ws).Perm (EW (exs ws)):=by
 refine(aAi ws).trans (aIn ?_);unfold exs FZ;exact(iE ws).symm.flatMap_right _
theorem aPs (hw:0<w.length):pV (nJ w).1=true:=by
 have hc:0<(lw w).length:=by rw[jQ];exact hw
 generalize o4:lw w=c at hc;have hz:nC c=0:=by rw[<-o4];exact aZb w
 have mw: ∀q,¬Lt (rot c q) (om c):=λq=>by
  have fl:=xM hc;have:=fl.any q
  have e0:iH c c.length=0:=by
   have:(iH c c.length:Int)=0:=hz;omega
  rw[e0] at this;have e1:rot c 0=om c:=by funext d;show om c (0+d)=_;rw[mg]
  rwa[e1] at this
 obtain⟨p,hp,p1,p2,ho,Pq⟩:=SQ hc
 have Up:(nJ w).1=c.take p:=by
  show jO (lw w)=_;rw[o4];unfold jO;rw[hp];rfl
 rw[Up];have Tz:om c=om (c.take p):=funext ho;generalize hr:c.take p=r at Tz;have Rl:r.length=p:=by rw[<-hr,ax];omega
 have Uq: ∀q,rot c q=rot r q:=λq=>by
  funext d;show om c (q+d)=om r (q+d);rw[Tz]
 have bo: ∀j,0<j->j<p->Lt (om r) (rot r j):=λj j0 hj=>by
  rcases yT (om r) (rot r j) with a|a|a
  ·exact a
  ·exfalso
   have:Per (om c) j:=λi=>by
    have:=a i;rw[Tz,this];show om r (i+j)=om r (j+i);rw[ut]
   have:=Pq j j0 this;omega
  ·have:=mw j;rw[Uq,Tz] at this;exact absurd a this
 rw[nA];refine⟨G,λj j0 hj=> ?_⟩;rw[mX _ _ (by rw[bn];omega)];obtain⟨d,h1,h2⟩:=bo j j0 G
 have Nq: ∀e,lt (r.drop j) e=lt r (j+e):=λe=>by
  unfold lt;rw[af,af,su]
 have mt: ∀e,rot r j e=om r (j+e):=λe=>rfl;rcases gu d (p-j) with g|g
 ·refine ⟨d,by rw[bn];omega,λe he=> ?_,?_⟩
  ·have:=h1 e he;rw[mt,oO G,oO G] at this;rw[Nq];exact this
  ·rw [mt,oO G,oO G] at h2;rw[Nq];exact h2
 ·exfalso;have:=mw (p-j);rw[Uq,Tz] at this;have mm:=rV r;rw[Rl] at mm;refine this ⟨d-(p-j),λi hi=> ?_,?_⟩
  ·have h3:=h1 (p-j+i) G;rw[mt,show j+(p-j+i)=i+p by omega,mm] at h3;exact h3
  ·have h3:=h2;rw[mt,show j+d=(d-(p-j))+p by omega,mm] at h3;show om r (p-j+(d-(p-j)))<om r (d-(p-j));rw[show p-j+(d-(p-j))=d by omega];exact h3
theorem MK: ∀a b:AH,cmpL a b<0->(∃d,d<a.length/\d<b.length/\(∀e,e<d->lt a e=lt b e)/\lt a d<lt b d)\/a.length<b.length/\ ∀e,e<a.length->lt a e=lt b e
 |[],[],h=>by simp[cmpL] at h
 |[],y::b,_=> .inr ⟨cD,λe he=>by simp at he⟩
 |_::_,[],h=>by simp[cmpL] at h
 | x ::a,y::b,h=>by
  rw[cmpL] at h;split at h
  ·rename_i c;exact .inl ⟨0,cD,cD,λe he=>G,c⟩
  ·split at h
   ·omega
   ·have Mz:x=y:=G
    rcases MK a b h with⟨d,h1,h2,h3,h4⟩|⟨h1,h2⟩
    ·refine .inl ⟨d+1,cG,cG,λe he=> ?_,?_⟩
     ·rcases e with _|e
      ·exact Mz
      ·exact h3 e G
     ·exact h4
    ·refine .inr ⟨cG,λe he=> ?_⟩;rcases e with _|e
     ·exact Mz
     ·exact h2 e (by simp at he;omega)
theorem aRy (ha:0<a.length) (hb:pV b=true) (h:cmpL a b<0):Lt (om a) (om b):=by
 rcases MK a b h with⟨d,h1,h2,h3,h4⟩|⟨h1,h2⟩
 ·exact⟨d,λe he=>by rw[oO G,oO G];exact h3 e he,by rw[oO h1,oO h2];exact h4⟩
 ·exact longer ha hb h1 λe he=>(h2 e he).symm
theorem aRz (ha:pV a=true) (hb:pV b=true):cmpL a b<=0↔ ¬Lt (om b) (om a):=by
 have sp:=((nA a).1 ha).1;have b5:=((nA b).1 hb).1;constructor
 ·intro h;rcases Aj h with g|g
  ·exact(aRy sp hb g).asymm
  ·rw[(cmpL_eq a b).1 g];exact λh=>h.asymm h
 ·intro h;rcases bu 0 (cmpL a b) with g|g
  ·exact absurd (aRy b5 ha (by rw[kS a b];omega)) h
  ·exact g
theorem aBo (l:AH):(bU (lfL l)).map (dR l)=(fP l).reverse:=by
 unfold fP;rw[Et,Fx]
theorem bBa (hl:aL l):(EW (fP l)).Perm ((iota l.length).map (U l)):=by
 have hlen:(fP l).length=(bU (lfL l)).length:=by unfold fP;rw[az,lh]
 have h0:=JA (fP l) (fP l).length (dn _);rw[qa] at h0;rw[<-h0,hlen];refine(tY hl _ (dn _)).trans ?_;rw[bi (by rw[lh];exact dn _)];have hc:=tC (kE hl);rw[lJ] at hc;exact(((Du _).flatten).trans hc).map _
theorem VJ (hl:aL l) (hp:T.Perm (iD ws ws.length)) (ho:T.Pairwise (pO ws)) (hE:(EW ws).Perm (EW (fP l))):T.map (lastB ws)=l:=by
 have h1:(T.map (tw ws)).Perm ((iota l.length).map (U l)):=by
  refine(hp.map _).trans ?_;have h0:=JA ws ws.length (dn _);rw[qa] at h0;rw[h0];exact hE.trans (bBa hl)
 have s1:(T.map (tw ws)).Pairwise λa b=> ¬Lt b a:=ib.2 (ho.imp λ{t u} h bo=>by
  rcases h with h|h
  ·exact h.asymm bo
  ·exact bo.not_eq λi=>(h.1 i).symm)
 have s2:((iota l.length).map (U l)).Pairwise λa b=> ¬Lt b a:=ib.2 (ku (λ{i k} hi hk h=>by
  have hi:=aV.1 hi;have hk:=aV.1 hk
  exact aNv hl hi.1 (Dm h) hk.2) (vW l.length))
 have same:T.map (tw ws)=(iota l.length).map (U l):=h1.eq_of_pairwise (λa b _ _ x y=>by
  rcases yT a b with z|z|z
  ·exact absurd z y
  ·exact funext z
  ·exact absurd z x) s1 s2
 have Sv:T.length=l.length:=by
  have:=bg List.length same;rwa[az,az,bC] at this
 refine bE (by rw[az];exact Sv) λq q0 q1=> ?_;rw[az] at q1;rw[aFx q0 q1];have hv:=uF.1 (hp.subset (kP (l:=T) q0 q1))
 have hU:tw ws (rdp T q)=U l q:=by
  have e1:(T.map (tw ws))[q.toNat]? =some (tw ws (rdp T q)):=by
   rw[kv,av G];unfold rdp;rw[af,av G];rfl
  have e2:((iota l.length).map (U l))[q.toNat]? =some (U l q):=by
   rw[kv,av (by rw[bC];omega)];have:=uA (n:=l.length) q0 G;rw[fB q0 (by rw[bC];omega)] at this;rw[this];rfl
  rw[same,e2] at e1;exact(jd e1).symm
 obtain⟨m,m0,hm⟩:=xC hl q0 (by omega:q<l.length);obtain⟨a1,a2,a3,a4⟩:=hv;have Qj:0<(rdl ws (rdp T q).1).length:=G
 generalize j4:(rdl ws (rdp T q).1).length=wl at Qj a4;have pk:U l q (m*wl-1)=rd l q:=UN hm m0 Qj;rw[<-pk,<-hU];have dy:0<m*wl:=Ib m0 Qj;unfold lastB tw rd;rw[j4];congr 1;obtain⟨j,hj⟩: ∃j:Nat,(rdp T q).2=j:=⟨(rdp T q).2.toNat,G⟩;rw[hj,bq,show(j:Int)+(wl:Int)-1=((j+wl-1:Nat):Int) by omega,<-ze,bq]
 have e:j+(m*wl-1)=(j+wl-1)+wl*(m-1):=by
  obtain⟨m',rfl⟩: ∃m',m=m'+1:=⟨m-1,G⟩;rw[Br,Gz,zt wl m'];omega
 rw[e,Nat.add_mul_mod_self_left]
theorem TT {ws:AD}: ∀v∈exs ws,pV v=true:=λv hv=>by
 obtain⟨r,hr,h⟩:=Ae.1 hv;obtain⟨_,rfl⟩:=Cw.1 h;obtain⟨w,_,hw,rfl⟩:=sV hr;exact aPs hw
theorem FM: ∀ {rs:List RT},rs.Pairwise (λa b=>jP a b<=0)->(FZ rs).Pairwise λa b=>cmpL a b<=0
 |[],_=> .nil
 |r::rs,h=>by
  obtain⟨h1,h2⟩:=il.1 h;have ih:=FM h2;show(List.replicate r.2.toNat r.1++FZ rs).Pairwise _;rw[ow];refine⟨List.pairwise_replicate.2 (.inr (by rw[(cmpL_eq r.1 r.1).2 rfl];omega)),ih,λa ha b hb=> ?_⟩;obtain⟨_,rfl⟩:=Cw.1 ha;obtain⟨q,hq,hqb⟩:=Ae.1 hb;obtain⟨_,rfl⟩:=Cw.1 hqb;have:=vV.1 (h1 q hq);rcases this with g|g
  ·omega
  ·rw[(cmpL_eq _ _).2 g.1];omega
theorem aMa {ws:AD} (hb: ∀w∈ws,aL w): ∀v∈exs ws,aL v:=λv hv=>by
 obtain⟨r,hr,h⟩:=Ae.1 hv;obtain⟨_,rfl⟩:=Cw.1 h;obtain⟨w,h1,hw,rfl⟩:=sV hr;have h2:=hb w h1;exact(aL.append (h2.drop _) (h2.take _)).take _
theorem IY {ws:AD} (hb: ∀w∈ws,aL w) (hp:T.Perm (iD ws ws.length)) (ho:T.Pairwise (pO ws)):(bU (lfL (T.map (lastB ws)))).map (dR (T.map (lastB ws)))=exs ws/\ ∀(xs:AD) (T':AE),exs xs=exs ws->T'.Perm (iD xs xs.length)->T'.Pairwise (pO xs)->T'.map (lastB xs)=T.map (lastB ws):=by
 have Zo: ∀v∈(exs ws).reverse,pV v=true:=λv hv=>TT v (xw.1 hv);have Tj:(exs ws).reverse.Pairwise λa b=> ¬Lt (om a) (om b):=Eo.2 (ku (λ{a b} ha hb h=>(aRz (TT a ha) (TT b hb)).1 h) (FM (pK ws)))
 have o3:aL (exs ws).reverse.flatten:=λx hx=>by
  obtain⟨v,hv,hxv⟩:=uf.1 hx;exact aMa hb v (xw.1 hv) x hxv
 have ur:=RD Zo Tj;obtain⟨l,hl,_,a8⟩:=RH o3;have w5:fP l=(exs ws).reverse:=by rw[<-CO hl,a8,ur]
 have hE: ∀xs:AD,exs xs=exs ws->(EW xs).Perm (EW (fP l)):=λxs e=>by
  refine(bFx xs).trans ?_;rw[w5,e];exact aIn (Du _).symm
 have hT:=VJ hl hp ho (hE ws rfl);rw[hT];exact⟨by rw[aBo,w5,Fx],λxs T' e cv Zu=>VJ hl cv Zu (hE xs e)⟩
variable {ws:AD} {L L' TS Vs l:AH} {e e':Int}
def kH:AD->AH->Int->AH->Option (AD)
 |all,_,_,[]=>if 0<all.length then none else some []
 |all,last,kf,n::ts=>if n<1\/(all.length:Int)<n then none else if rdl all (n-1)≠rdl all 0\/last=rdl all 0/\n<kf then none else(kH (all.drop n.toNat) (rdl all 0) n ts).map λp=>rep (rdl all 0) n::p
theorem EZ {n:Nat} {r:AH} {e:AD} {i:Int} (h0:0<=i) (h1:i<n):rdl (List.replicate n r++e) i=r:=by
 unfold rdl;rw[af,jf (by rw[cz];omega),yl,di G];rfl
theorem aMb (r:RT) (rs:List RT):FZ (r::rs)=List.replicate r.2.toNat r.1++FZ rs:=rfl
theorem YF: ∀ {rs:List RT} {last:AH} {kf:Int},rs.Pairwise (λa b=>jP a b<=0)->(∀r∈rs,1<=r.2)->(∀r∈rs,last=r.1->kf<=r.2)->kH (FZ rs) last kf (rs.map Prod.snd)=some (rs.map IW)
 |[],_,_,_,_,_=>rfl
 | r::rs,last,kf,hs,h1,hl=>by
  obtain⟨s1,s2⟩:=il.1 hs;have hr:=h1 r (.head _);rw[aMb,jq,kH];have hlen:(List.replicate r.2.toNat r.1++FZ rs).length=r.2.toNat+(FZ rs).length:=cD
  rw[df G,EZ G G,EZ G G]
  rw[df (by
   rintro(h|⟨h,h2⟩)
   ·exact h rfl
   ·have:=hl r (.head _) h;omega)]
  rw[Gg cD,YF s2 (λq hq=>h1 q (.tail _ hq)) (λq hq e=>by
   have:=vV.1 (s1 q hq);rcases this with g|g
   ·rw[(cmpL_eq r.1 q.1).2 e] at g;omega
   ·exact g.2)]
  rfl
def ExtR (ws:AD) (L TS:AH) (e:Int):Prop:=
 (e=2/\(1000<ws.length\/100000<ws.flatten.length)/\L=[]/\TS=[])\/
 (¬(1000<ws.length\/100000<ws.flatten.length)/\e=1/\(∃w∈ws,w.length=0)/\L=[]/\TS=[])\/
 (¬(1000<ws.length\/100000<ws.flatten.length)/\e=0/\(∀w∈ws,0<w.length)/\(∃T:AE,T.Perm (iD ws ws.length)/\T.Pairwise (pO ws)/\L=T.map (lastB ws))/\TS=(iT ws).map Prod.snd)
theorem ExtR.same {ws xs:AD} (h:ExtR ws L TS e) (h':ExtR xs L' Vs e') (hb: ∀w∈ws,aL w) (hl:xs.length=ws.length) (hf:xs.flatten.length=ws.flatten.length) (hz:(∃w∈xs,w.length=0)↔ ∃w∈ws,w.length=0) (hr:(cZ xs).Perm (cZ ws)):e'=e/\L'=L/\Vs=TS:=by
 have hS:=WM hr;unfold ExtR at h';rw[hl,hf,hz,hS] at h';rcases h with⟨rfl,c,rfl,rfl⟩|⟨c,rfl,d,rfl,rfl⟩|⟨c,rfl,d,⟨T,hp,ho,rfl⟩,rfl⟩
 ·rcases h' with⟨rfl,_,rfl,rfl⟩|⟨c',_⟩|⟨c',_⟩
  ·exact⟨rfl,rfl,rfl⟩
  ·exact absurd c c'
  ·exact absurd c c'
 ·rcases h' with⟨_,c',_⟩|⟨_,rfl,_,rfl,rfl⟩|⟨_,_,d',_⟩
  ·exact absurd c' c
  ·exact⟨rfl,rfl,rfl⟩
  ·have d2:=hz.2 d;obtain⟨w,hw,e⟩:=d2;have:=d' w hw;omega
 ·rcases h' with⟨_,c',_⟩|⟨_,_,d',_⟩|⟨_,rfl,_,⟨T',cv,Zu,rfl⟩,rfl⟩
  ·exact absurd c' c
  ·obtain ⟨w,hw,e⟩:=d';have:=d w hw;omega
  ·refine⟨rfl,(IY hb hp ho).2 xs T' (by unfold exs;rw[hS]) (by rw[hl] at*;exact cv) Zu,rfl⟩
theorem ExtR.one {ws:AD} (h:ExtR ws L TS e) (h':ExtR ws L' Vs e') (hb: ∀w∈ws,aL w):e'=e/\L'=L/\Vs=TS:=h.same h' hb rfl rfl Iff.rfl (.refl _)
theorem aIs {l:AH} (hl:aL l): ∀v∈(bU (lfL l)).map (dR l),pV v=true:=λv hv=>by
 rw[aBo] at hv;exact xG hl v (xw.1 hv)
theorem UV (hl:aL l):((bU (lfL l)).map (dR l)).Pairwise λa b=>cmpL a b<=0:=by
 rw[aBo];refine Eo.2 (ku (λ{a b} ha hb h=> ?_) (JR hl));exact(aRz (xG hl b hb) (xG hl a ha)).2 h
theorem QT (hl:aL l):((bU (lfL l)).map (dR l)).flatten.length=l.length:=by
 have hc:=tC (kE hl);rw[lJ] at hc;have h1:=hc.length_eq;rw[bC] at h1
 have h2: ∀cs:AD,(cs.map (dR l)).flatten.length=cs.flatten.length:=λcs=>by
  induction cs with
  |nil=>rfl
  |cons c cs ih=>rw[jq,mh,mh,ai,ai,ih,kJ]
 rw[h2,h1]
end Go.Pure
namespace Go.Eng
open Go Go.RowKit
section
variable {P:Program} {n:Nd} {B:Nat} {w0 w00:World} {F:Exit->Act->World->Prop} {L:Env} {R:List Row}
def LF {σ:Type} (F:Exit->Act->World->Prop) (m B:Nat) (w00 w0:World) (Lx:σ->Env) (Rx:σ->List Row) (K:σ->Prop):Exit->Act->World->Prop
 | .normal,a,w=> ∃s ds W,K s/\Below B w0 W/\Gd B w00 ⟨m,ds,none⟩ W/\Sat ⟨m,ds,none⟩ (Lx s) a/\Hp B W w (Rx s)
 |e,a,w=>F e a w
theorem bDd {σ:Type} {m:Nat} {ds:List Deferred} {c:Code} (Lx:σ->Env) (Rx:σ->List Row) (J:σ->Prop) (μ:σ->Nat) (h0:Fam B w0 Lx Rx J L R) (hG:Gd B w00 ⟨m,ds,none⟩ w0)
  (round: ∀s ds W,J s->Below B w0 W->Gd B w00 ⟨m,ds,none⟩ W->V P ⟨m,ds,none⟩ B W c (LF F m B w00 w0 Lx Rx λy=>J y/\μ y<μ s) (Lx s) (Rx s)):V P ⟨m,ds,none⟩ B w0 (.loop c) F L R:=by
 intro a w hs hp;obtain⟨x0,n9,Xx,Lq⟩:=h0;refine wpIn_loop_ghost (λk a w=> ∃x ds W,μ x=k/\J x/\Below B w0 W/\Gd B w00 ⟨m,ds,none⟩ W/\Sat ⟨m,ds,none⟩ (Lx x) a/\Hp B W w (Rx x)) (μ x0) ⟨x0,ds,w0,rfl,n9,Er _ _,hG,hs.sub Xx,Lq w hp⟩ ?_;rintro k a w ⟨x,ds,W,rfl,hJ,hb,hg,hs,hp⟩;refine Ah (round x ds W hJ hb hg a w hs hp) ?_;intro e a' w' hq;cases e with
 |normal=>
  obtain⟨y,ds',W',⟨Xv,bo⟩,j7,Zc,eh,cv⟩:=hq;exact⟨μ y,bo,y,ds',W',rfl,Xv,j7,Zc,eh,cv⟩
 |exit id=>exact hq
 |goto l=>exact hq
 |ret=>exact hq
 |panic ch=>exact hq
 |outgrown=>exact hq
theorem aWo {σ:Type} {m:Nat} {ds:List Deferred} {W:World} {Lx:σ->Env} {Rx:σ->List Row} {K:σ->Prop} (hb:Below B w0 W) (hG:Gd B w00 ⟨m,ds,none⟩ W) (h:Fam B W Lx Rx K L R):VN ⟨m,ds,none⟩ B W (LF F m B w00 w0 Lx Rx K) L R:=λa w hs hp=>by
 obtain⟨s,hK,hL,hR⟩:=h;exact⟨s,ds,W,hK,hb,hG,hs.sub hL,hR w hp⟩
def VX (n:Nd) (B:Nat) (w0:World) (F:Exit->Act->World->Prop) (i:Nat) (L:Env) (R:List Row):Prop:= ∀a w,Sat n L a->Hp B w0 w R->F (.exit i) a w
theorem bDe {i:Nat} (h:VX n B w0 F i L R):(FQ F n B w0).ext i L R:=h
theorem bGl {σ:Type} {m i:Nat} {W:World} {Lx:σ->Env} {Rx:σ->List Row} {K:σ->Prop} (h:VX n B W F i L R):VX n B W (LF F m B w00 w0 Lx Rx K) i L R:=h
theorem bGm {i:Nat} (h:VN n B w0 F L R):VX n B w0 (Exit.inBlock i F) i L R:=λa w hs hp=>by
 show(if i=i then F .normal a w else F (.exit i) a w);rw[di rfl];exact h a w hs hp
theorem aWn {σ0 σ1 σ2 σ3 σ4 σ5 σ6:Type} {m:Nat} {ds:List Deferred} {c:Code} (Lx:σ0->σ1->σ2->σ3->σ4->σ5->σ6->Env) (Rx:σ0->σ1->σ2->σ3->σ4->σ5->σ6->List Row) (J:σ0->σ1->σ2->σ3->σ4->σ5->σ6->Prop) (μ:σ0->σ1->σ2->σ3->σ4->σ5->σ6->Nat)
  (h0: ∃x0 x1 x2 x3 x4 x5 x6,J x0 x1 x2 x3 x4 x5 x6/\Sub (Lx x0 x1 x2 x3 x4 x5 x6) L/\ ∀w,Hp B w0 w R->Hp B w0 w (Rx x0 x1 x2 x3 x4 x5 x6)) (hG:Gd B w00 ⟨m,ds,none⟩ w0)
  (round: ∀x0 x1 x2 x3 x4 x5 x6 ds W,J x0 x1 x2 x3 x4 x5 x6->Below B w0 W->Gd B w00 ⟨m,ds,none⟩ W->V P ⟨m,ds,none⟩ B W c (LF F m B w00 w0 (λp:σ0 × σ1 × σ2 × σ3 × σ4 × σ5 × σ6=>Lx p.1 p.2.1 p.2.2.1 p.2.2.2.1 p.2.2.2.2.1 p.2.2.2.2.2.1 p.2.2.2.2.2.2) (λp=>Rx p.1 p.2.1 p.2.2.1 p.2.2.2.1 p.2.2.2.2.1 p.2.2.2.2.2.1 p.2.2.2.2.2.2) (λp=>J p.1 p.2.1 p.2.2.1 p.2.2.2.1 p.2.2.2.2.1 p.2.2.2.2.2.1 p.2.2.2.2.2.2/\μ p.1 p.2.1 p.2.2.1 p.2.2.2.1 p.2.2.2.2.1 p.2.2.2.2.2.1 p.2.2.2.2.2.2<μ x0 x1 x2 x3 x4 x5 x6)) (Lx x0 x1 x2 x3 x4 x5 x6) (Rx x0 x1 x2 x3 x4 x5 x6)):V P ⟨m,ds,none⟩ B w0 (.loop c) F L R:=by
 obtain⟨x0,x1,x2,x3,x4,x5,x6,h1,h2,h3⟩:=h0;exact bDd (σ:=σ0 × σ1 × σ2 × σ3 × σ4 × σ5 × σ6) (λp=>Lx p.1 p.2.1 p.2.2.1 p.2.2.2.1 p.2.2.2.2.1 p.2.2.2.2.2.1 p.2.2.2.2.2.2) (λp=>Rx p.1 p.2.1 p.2.2.1 p.2.2.2.1 p.2.2.2.2.1 p.2.2.2.2.2.1 p.2.2.2.2.2.2) (λp=>J p.1 p.2.1 p.2.2.1 p.2.2.2.1 p.2.2.2.2.1 p.2.2.2.2.2.1 p.2.2.2.2.2.2) (λp=>μ p.1 p.2.1 p.2.2.1 p.2.2.2.1 p.2.2.2.2.1 p.2.2.2.2.2.1 p.2.2.2.2.2.2) ⟨(x0,x1,x2,x3,x4,x5,x6),h1,h2,h3⟩ hG λp ds W hp hb hg=>round p.1 p.2.1 p.2.2.1 p.2.2.2.1 p.2.2.2.2.1 p.2.2.2.2.2.1 p.2.2.2.2.2.2 ds W hp hb hg
theorem aOo {σ0 σ1 σ2 σ3 σ4 σ5 σ6:Type} {m M:Nat} {ds:List Deferred} {W:World} {Lx:σ0->σ1->σ2->σ3->σ4->σ5->σ6->Env} {Rx:σ0->σ1->σ2->σ3->σ4->σ5->σ6->List Row} {J:σ0->σ1->σ2->σ3->σ4->σ5->σ6->Prop} {μ:σ0->σ1->σ2->σ3->σ4->σ5->σ6->Nat} (hb:Below B w0 W) (hG:Gd B w00 ⟨m,ds,none⟩ W)
  (h: ∃y0 y1 y2 y3 y4 y5 y6,J y0 y1 y2 y3 y4 y5 y6/\μ y0 y1 y2 y3 y4 y5 y6<M/\Sub (Lx y0 y1 y2 y3 y4 y5 y6) L/\ ∀w,Hp B W w R->Hp B W w (Rx y0 y1 y2 y3 y4 y5 y6)):VN ⟨m,ds,none⟩ B W (LF F m B w00 w0 (λp:σ0 × σ1 × σ2 × σ3 × σ4 × σ5 × σ6=>Lx p.1 p.2.1 p.2.2.1 p.2.2.2.1 p.2.2.2.2.1 p.2.2.2.2.2.1 p.2.2.2.2.2.2) (λp=>Rx p.1 p.2.1 p.2.2.1 p.2.2.2.1 p.2.2.2.2.1 p.2.2.2.2.2.1 p.2.2.2.2.2.2) (λp=>J p.1 p.2.1 p.2.2.1 p.2.2.2.1 p.2.2.2.2.1 p.2.2.2.2.2.1 p.2.2.2.2.2.2/\μ p.1 p.2.1 p.2.2.1 p.2.2.2.1 p.2.2.2.2.1 p.2.2.2.2.2.1 p.2.2.2.2.2.2<M)) L R:=by
 obtain⟨y0,y1,y2,y3,y4,y5,y6,g1,g2,g3,g4⟩:=h;exact aWo hb hG ⟨(y0,y1,y2,y3,y4,y5,y6),⟨g1,g2⟩,g3,g4⟩
end
end Go.Eng
