/- Own work. -/
import Derived.Lib.AppendZeros
import Derived.Maps.AppendAt
import Derived.Shelf.Abstract
import Derived.WalkKit
import Derived.OwnWalkIn
import Derived.TacticsInMore
import Derived.LoopNIn
import Derived.LoopIn
import Derived.Test.YtdbebmmhdefgdaaGreatProg
import Derived.Sort.QuietTacIn
import Derived.Test.YtdbebmmhdefgdaaGreatM4
set_option linter.unusedVariables false
set_option linter.unusedSimpArgs false
namespace Go.Proofs.YtdbebmmhdefgdaaGreat
open Go Go.Eng Go.Pure
open Tryz
set_option maxRecDepth 100000
variable {w:World} {u:List Int} {ws:List (List Int)} {i:Int} {l lr:List RC}
theorem aUs {B:Nat} {w0:World} {R:List Row} (x y:Nat) (hx:x<=1000000) (hy:y<=1000000) (h:x*y<=1000000):Ct Tryz.prog 122 #[.int .u64 ((x:Nat):Int), .int .u64 ((y:Nat):Int)] B w0 R (λv R'=>v= .tuple #[.int .u64 0, .int .u64 ((x*y:Nat):Int)]/\R'=R):=by
 intro w hw;have hc:=Tryz.bits_Mul x y G G w;rw[Db G,lc G] at hc;refine hc.mono ?_;rintro e w' ⟨rfl,rfl⟩;exact⟨_,R,Z,hw,Z,Z⟩
theorem LF {p:Int} (h:0<=p/\p<=18446744073709551615):IntKind.u64.wrap p=p:=by rw[Gy];omega
set_option maxHeartbeats 800000 in
theorem YX {ao:Option Addr} {ap an:Nat} {cn:Int} (am:Rd w ao ap an 1 (ints .u8 u)) (hu:0<u.length) (hc:1<=cn) (hP:cn.toNat*u.length<=8000):
  Ct Tryz.prog 72 #[sl ao ap an,I cn] w.heap.size w [] (λv R'=> ∃A c,v=sl A (rep u cn).length c/\R'=[⟨5,1,A,(rep u cn).length,c,ints .u8 (rep u cn),true⟩]):=by
 obtain rfl:=am.lenI;refine fn1 Tryz.func72 Z Z Z ?_;have pd:=am.max;obtain⟨N,Ta⟩: ∃N:Nat,u.length*cn.toNat=N:=⟨_,rfl⟩;have Wn:cn.toNat*u.length=N:=by rw[zt];exact Ta
 have Zy:u.length<=N:=by rw[<-Wn];exact Co _ G
 have hN4:cn.toNat<=N:=by rw[<-Ta];exact Co _ hu
 refine wq<|wn Z<|aG<|wq<|wm Z<|wy (Yl.f (bC Z Z))<|aA<|aL Z<|aJ<|aG<|wq ?_;refine wm Z<|wy (Yl.f (eO Z Z))<|aA<|aL Z<|aJ<|wq<|wm Z<|wy (aQ ai Z)<|wy (Yl.is (oM ak Bo Z) (by rw[LF G])) ?_;refine wm Z<|wy (Yl.is (oM ak Bo Z) (show Value.int .u64 (IntKind.u64.wrap cn)=Value.int .u64 ((cn.toNat:Nat):Int) from by rw[LF G,ou G]))<|wa (aF aYk rfl (aUs u.length cn.toNat G G G)) ?_;rw[Ta];rintro _ _ ⟨rfl,rfl⟩;refine wm Z<|wX Z Z<|wX Z Z<|wg Z<|wn Z<|aG<|wq<|wm Z<|wy (Yl.f (dV Z Z))<|wm Z<|aC Z Z<|wm Z<|aC Z Z ?_;refine wy (Yl.f (dV Z Z))<|wy (aR Z Z)<|aA<|aL Z<|aJ<|wq<|wm Z<|wy (iV Bo ak Z)<|wn Z<|aG<|wq<|wm Z ?_;refine wy (aQ ai Z)<|wy (Yl.f (bC Z Z))<|aA<|aL Z<|aJ<|wq<|wm Z<|wn Z<|aG<|wq<|wm Z<|wy (Yl.f (dV Z Z)) ?_;refine aA<|aL Z<|aJ<|wq<|wm Z<|wa (aSe (m:=N) (ps:= #[3]) Tryz.func123 cA cA cA cA ai Z G) ?_;rintro _ _ ⟨al,Yy,hC,rfl,rfl⟩;refine wm Z<|wm Z<|wy (aFo (h:=N) ai sz5 Z Z Z Z Z hC)<|wn Z<|wq<|wm Z<|wm Z<|wa (OG (dl:=N) 0 Z ai sz5 Z Z (Z) G (am.c _)) ?_;rintro _ _ ⟨rfl,rfl⟩;refine wn Z<|aG<|aI ?_;refine fU (λ(p:Int) (n1:Nat) (D:List Int)=>[(7,I ((N:Nat):Int)),(8,I ((N:Nat):Int)),(9,sl (GG al) N N),(10,I p)]) (λp n1 D=>[(ru 5 (GG al) n1 Yy D)]) (λp n1 D=>(n1=D.length)/\(QU u D N p)) (λp n1 D=>(N-p).toNat) ?_ ?_
 ·exact⟨((min u.length N:Nat):Int),(0+min u.length N),([])++List.take (min u.length N) u,⟨(by rw[jb,ax];omega),(QU.init Zy)⟩,SA,λ_ h=>h⟩
 intro p n1 D ⟨dd,hI⟩;have hI1:=hI.p0;have hI2:=hI.pN;have hI3:=hI.len;have hI4:=hI.up;refine aG<|wq<|wm Z<|wm Z<|wL Z Z<|aA<|bJ Z (λaq=> ?_) (λaq=> ?_)
 ·refine aJ<|aI<|wq<|wm Z<|wm Z<|wy (vV Z Z)<|wn Z<|bT mixed<|wD 0 Z (aN Z)<|wD 1 Z (aN Z)<|wD 2 Z (aN Z)<|wD 3 Z (iP ai sz5 Z Z)<|wD 4 Z (aN Z) ?_;refine wD 5 Z (aN Z)<|wD 6 Z (aKo ai sz5 Z Z G G)<|wC 7 Z (OG (dl:=(N-(p).toNat)) 0 Z ai sz5 Z Z (by rw[WC G,show p.toNat=n1 by omega]) G (RdC.capI (RdC.toI (rdr 0 Z) G) G)) ?_;rintro _ _ ⟨rfl,rfl⟩;refine⟨.inl cA,?_⟩;refine wD 8 Z (dG Z Z)<|wD 9 Z (bP Z)<|wN ?_;exact⟨p+((min ((min p ((N:Nat):Int)).toNat) (N-(p).toNat):Nat):Int),(n1+min ((min p ((N:Nat):Int)).toNat) (N-(p).toNat)),D++List.take (min ((min p ((N:Nat):Int)).toNat) (N-(p).toNat)) ((D).take (min p ((N:Nat):Int)).toNat),⟨(by rw[ah,ax,ax];omega),(hI.step hu G)⟩,G,SA,λ_ h=>h⟩
 ·refine aZ<|wq<|wm Z<|wn Z ?_;obtain rfl:=dd;obtain rfl:=hI.done G Wn.symm;have Rv:(rep u cn).length=N:=by rw[oW];omega
  refine bR (R1:=[⟨5,1,GG al,(rep u cn).length,(rep u cn).length,ints .u8 (rep u cn),true⟩]) (λ_ h=>h.toRo cD (dh _)) ?_;rw[<-Rv];exact⟨_,Z,_,_,Z,Z⟩
theorem TG (h0:0<=i) (h1:i<ws.length):rdl ws i∈ws:=by
 unfold rdl;rw[af,av G];exact kz _
theorem tL (h0:0<=i) (h1:i<ws.length):ws.take (i+1).toNat=ws.take i.toNat++[rdl ws i]:=by
 rw[show(i+1).toNat=i.toNat+1 by omega,qp,av G];unfold rdl;rw[af,av G];rfl
theorem aNu (x y:List Int) (a b:Int):orL [cmpL x y,kD a b]=kT (x,a) (y,b):=by
 unfold kT orL orL orL;simp only;split
 ·rfl
 ·split
  ·rfl
  ·omega
theorem aGr {A:Option Addr} {c:Nat} (h0:0<=i) (h1:i<ws.length) (hl:l.map RC.rt=dZ (ws.take i.toNat)) (ht:0<iA (lw (rdl ws i))):(l++[(⟨A,c,kH (lw (rdl ws i)),iA (lw (rdl ws i))⟩:RC)]).map RC.rt=dZ (ws.take (i+1).toNat):=by
 have hp:0<(rdl ws i).length:=by
  rcases dx (rdl ws i).length with z|z
  ·rw [ed z] at ht;simp[bAh,iA] at ht
  ·exact z
 rw[jh,hl,tL h0 h1,lL];congr 1;unfold dZ;simp[hp,RC.rt,AZ]
theorem aMn (h0:0<=i) (h1:i<ws.length) (hl:l.map RC.rt=dZ (ws.take i.toNat)) (ht: ¬0<iA (lw (rdl ws i))):l.map RC.rt=dZ (ws.take (i+1).toNat):=by
 have hp:(rdl ws i).length=0:=by
  rcases dx (rdl ws i).length with z|z
  ·exact z
  ·exact absurd (AQ (c:=lw (rdl ws i)) (by rw[IM];exact z)) ht
 rw[hl,tL h0 h1,lL];unfold dZ;simp[hp]
theorem CR (ws:List (List Int)):(dZ ws).length<=ws.length:=by
 unfold dZ;rw[bi];exact yj _ _
theorem aOj (h:aO u):aO (lw u):=aO.append (h.drop _) (h.take _)
theorem aOz:Go.Sort.SWO (Go.Proofs.ltOf λx y:RC=>kT x.rt y.rt):=by
 have e: ∀x y:RC,Go.Proofs.ltOf (λx y:RC=>kT x.rt y.rt) x y=true↔kT x.rt y.rt<0:=λx y=>by simp[Go.Proofs.ltOf]
 have e': ∀x y:RC,Go.Proofs.ltOf (λx y:RC=>kT x.rt y.rt) x y=false↔kT y.rt x.rt<=0:=λx y=>by
  rw[<-Bool.not_eq_true,e,oH x.rt y.rt];omega
 refine⟨λx=> ?_,λx y z h1 h2=> ?_,λx y z h1 h2=> ?_⟩
 ·rw[e',(PU x.rt x.rt).2 rfl];omega
 ·rw [e] at h1 h2 ⊢;have h3:=EP x.rt y.rt z.rt G G;rcases Et h3 with g|g
  ·exact g
  ·have g2:=(PU _ _).1 g;rw[g2,oH y.rt z.rt] at h1;omega
 ·rw [e'] at h1 h2 ⊢;exact EP _ _ _ h2 h1
theorem aTt {ws:List (List Int)} {M:Nat} (hl:lr.map RC.rt=vY ws) (hM: ∀w∈ws,w.length<=M) {r:RC} (hr:r∈lr):0<r.root.length/\1<=r.times/\r.times.toNat*r.root.length<=M:=by
 have h1:r.rt∈vY ws:=by rw[<-hl];exact List.mem_map_of_mem hr
 obtain⟨w,hw,hp,e⟩:=aHj h1;have bw:0<(lw w).length:=by rw[IM];exact hp
 have e1:r.root=kH (lw w):=bz Prod.fst e;have e2:r.times=iA (lw w):=bz Prod.snd e;have h2:=TE bw;have h3:=yD bw;have h4:=AQ bw;have h5:=bz List.length (CO bw);rw[oW,IM] at h5;rw[e1,e2];exact⟨G,G,by rw[h5];exact hM w hw⟩
theorem aBi (h0:0<=i) (h1:i<lr.length):(lr.take (i+1).toNat).map (λr=>rep r.root r.times)=(lr.take i.toNat).map (λr=>rep r.root r.times)++[rep (rdG lr i).root (rdG lr i).times]:=by
 rw[show(i+1).toNat=i.toNat+1 by omega,qp,av G,jh];unfold rdG;rw[af,av G];rfl
theorem aBj (hl:lr.map RC.rt=vY ws) (hi:(lr.length:Int)<=i):(lr.take i.toNat).map (λr=>rep r.root r.times)=canon ws:=by
 rw[bn G];unfold canon;rw[<-hl,xz];rfl
theorem YT {zc:Option Addr} {zp:Nat} {x:List Int} {Sh:Int} {Wb:Option Addr} {We:Nat} {y:List Int} {Si:Int} (js:Rd w zc x.length zp 1 (ints .u8 x)) (h_y:Rd w Wb y.length We 1 (ints .u8 y)) (zd:aO x) (Sl:aO y):
  Ct Tryz.prog 118 #[.agg #[sl zc x.length zp,I Sh], .agg #[sl Wb y.length We,I Si]] w.heap.size w [] (λv R'=>v=I (kT (x,Sh) (y,Si))):=by
 refine fn1 Tryz.func118 Z Z Z ?_;refine wq<|wa (bY (sz:=2) Z Z) ?_;rintro _ _ ⟨al,rfl,rfl⟩;refine wa (bY (sz:=2) Z Z) ?_;rintro _ _ ⟨dq,rfl,rfl⟩;refine wn Z<|aG<|bT mixed<|wD 0 Z (aB (off:=0) (m:=0) Af Z dO Z Z Z)<|wD 1 Z (aK (rdr 1 Z) ai Z Z Z)<|wD 2 Z (aB (off:=0) (m:=0) Af Z dO Z Z Z)<|wD 3 Z (aK (rdr 0 Z) ai Z Z Z)<|wD 5 Z (aB (off:=1) (m:=1) Af Z sz3 Z Z Z)<|wD 6 Z (aK (rdr 1 Z) ak Z Z Z)<|wD 7 Z (aB (off:=1) (m:=1) Af Z sz3 Z Z Z)<|wD 8 Z (aK (rdr 0 Z) ak Z Z Z)<|wC 4 Z (aF bFg Z (Ct.quiet (λw hw=>QE ((js.c _) w hw) ((h_y.c _) w hw) zd Sl))) ?_;rintro _ _ ⟨rfl,rfl⟩;refine⟨.inr λ_ h=>h,?_⟩;refine wC 9 Z (aF VQ Z (Ct.quiet (λw hw=>nJ))) ?_;rintro _ _ ⟨rfl,rfl⟩;refine⟨.inr λ_ h=>h,?_⟩;refine wC 10 Z (bS .i64 [cmpL x y,kD Sh Si] aa zs3 Z Z Z) ?_;rintro _ _ ⟨fm,rfl,rfl⟩;refine⟨.inr λ_ h=>h.right (R':=[_]),?_⟩;refine wC 11 Z (aF aYl Z (Ct.quiet (λw hw=>aNv ((rdr 0 Z) w hw)))) ?_;rintro _ _ ⟨rfl,rfl⟩;refine⟨.inr λ_ h=>h,?_⟩;refine wD 12 Z (bP Z)<|wN<|aT [] 99 cC Z ?_;refine⟨_,Z,?_⟩;exact bz (Value.int .i64) (aNu x y Sh Si)
theorem YK (cb:Array Value):aSi Tryz.prog 117 118 cb 2:=λα _ enc hk h1 cf hO dr off cap d w te hH hblk hsz=>
 AnyQ.slices_SortFunc Tryz.laysRing 2 (λw=>cA) (λw=>cA) enc hk h1 cf hO 118 cb dr off cap d w bFh te hH hblk hsz
theorem SL:OH Tryz.prog 117:=λp cap fv w=>AnyF.slices_SortFunc_none Tryz.laysRing p cap fv w
set_option maxHeartbeats 1000000 in
theorem aMo {w:World} {gl:Option Addr} {mc gn:Nat} {ef:List Value} {ws:List (List Int)} (jp:Rd w gl mc gn 1 ef) (nh:SlW .u8 w ef ws) (hN:(∀w∈ws,w.length<=8000)/\ws.length<=100000):
  Ct Tryz.prog 71 #[sl gl mc gn] w.heap.size w [] (λv R'=> ∃(A:Option Addr) (c:Nat) (l:List RC) (Rs:List Row),v=sl A l.length c/\RgR Rs l/\l.map RC.rt=vY ws/\R'=⟨117,2,A,l.length,c,rgs l,false⟩::Rs):=by
 obtain rfl:mc=ws.length:=by have:=jp.len;have:=nh.1;omega
 refine fn1 Tryz.func71 Z Z Z ?_;have Lz:=jp.max;have hob:=nh.okB;refine wq<|wn Z<|wq<|dH (R1:=(⟨117,2,none,0,0,rgs ([]),false⟩::[])) (Sub.refl _) (λ_ h=>h.nil 117 2)<|wn Z<|aG<|wq<|wm Z<|wy (aQ gp Z)<|wm Z ?_;refine aA<|aI ?_;refine nU (λ(i:Int) (A1:Option Addr) (n1:Nat) (c1:Nat) (l:List RC) (Rs:List Row)=>[(3,sl A1 n1 c1),(8,sl gl ws.length gn),(9,I ((ws.length:Nat):Int)),(10,I i)]) (λi A1 n1 c1 l Rs=>(⟨117,2,A1,n1,c1,rgs l,false⟩::Rs)) (λi A1 n1 c1 l Rs=>(0<=i)/\(i<=ws.length)/\(n1=l.length)/\(RgR Rs l)/\(l.map RC.rt=dZ (ws.take i.toNat))) (λi A1 n1 c1 l Rs=>(ws.length-i).toNat) ?_ ?_
 ·exact⟨0,none,0,0,[],[],⟨G,G,(Z),(RgR.nil _),(Z)⟩,SA,λ_ h=>h⟩
 intro i A1 n1 c1 l Rs ⟨ar,ia,dd,u5,hl⟩;have qn:=bz List.length hl;rw[bi] at qn;have Ro:=CR (ws.take i.toNat);rw[ax] at Ro;have Jq:0<=i->i<ws.length->(rdl ws i).length<=8000:=λh h'=>hN.1 _ (TG h h');refine wq<|wL Z Z<|aA<|aG<|bJ Z (λaq=> ?_) (λaq=> ?_)
 ·have hwl2:=Jq ar G;refine aJ<|aG<|aI<|wq<|wy (aH gp dO Z Z (jp.c _)) ?_;refine nh.elim (i:=i) G G (λbx br Ly Py Ok Qn=> ?_);refine wy (AB ai Z Z Z (jp.c _) Ly)<|wn Z<|wq<|wm Z<|wa (aF bFj Z (Ct.fresh (λw hw=>bAc ((Py.c _) w hw) (byteL_wf Ok) G))) ?_;rintro _ _ ⟨_,rfl,fk,nv,rfl,rfl⟩;refine wa (aF bFk Z (Ct.fresh (λw hw=>aMg ((rdr 0 Z) w hw) (by rw[IM];omega)))) ?_;rintro _ _ ⟨_,rfl,fc,ci,rfl,rfl⟩;refine wm Z<|wX Z Z<|wX Z Z<|wg Z<|wn Z<|wq<|wm Z<|wy (dV Z Z)<|aA<|bJ Z (λcr=> ?_) (λcr=> ?_)
  ·refine aM<|wm Z<|wm Z<|wm Z<|wy (dU (v:= .agg #[sl fc ((kH (lw (rdl ws i))).length) ci,I (iA (lw (rdl ws i)))]) Z (λw=>cA))<|wa (bBn ⟨fc,ci,kH (lw (rdl ws i)),iA (lw (rdl ws i))⟩ Gv bBy rfl) ?_;rintro _ _ ⟨j6,rfl,rfl⟩;refine wa (aKk 3 Z Gv bCb Z Z Z Z (rdr 0 Z) G) ?_;rintro _ _ ⟨fz,ge,rfl,rfl⟩;refine bN (v:=sl fz (n1+1) ge) Z<|wn Z<|aM<|wA Z Z<|wm Z<|aA ?_;exact⟨i+1,fz,n1+1,ge,l++([⟨fc,ci,kH (lw (rdl ws i)),iA (lw (rdl ws i))⟩]),((ru 5 fc ((kH (lw (rdl ws i))).length) ci (kH (lw (rdl ws i))))::Rs),⟨G,G,(by rw[ah,dd];rfl),(u5.snoc Z (aO.take (aOj (hob _ (TG ar G)).1) _)),(aGr ar G hl cF)⟩,G,SA,λ_ h=>h.selR (F:=[_,_,_,_]) (F':=[_,_]) [3,1] cC Z⟩
  ·refine aJ<|aM<|wA Z Z<|wm Z<|aA ?_;exact⟨i+1,A1,n1,c1,l,Rs,⟨G,G,(dd),(u5),(aMn ar G hl cF)⟩,G,SA,λ_ h=>h.selR (F:=[_,_,_]) (F':=[_]) [2] cC Z⟩
 ·obtain rfl:=dd;obtain rfl:i=ws.length:=G
  rw[az,ul] at hl;refine aZ<|wq<|wm Z<|wa (aF bFi Z (YM (enc:=encR) (YK _) SL (λ_=>Z) aPy (l:=l) 0 Z G (λx y=>kT x.rt y.rt) aOz (λW hW x hx y hy=>YT ((u5 x hx).2 _ _ _ hW) ((u5 y hy).2 _ _ _ hW) (u5 x hx).1 (u5 y hy).1))) ?_;rintro _ _ ⟨rfl,l1,py,un,rfl⟩;rw[<-py.length_eq];refine aA<|wq<|wm Z<|wn Z<|bR (R1:=(⟨117,2,A1,l1.length,c1,rgs l1,false⟩::Rs)) (λ_ h=>h) ?_;refine⟨_,Z,?_⟩;exact⟨_,_,l1,Rs,Z,u5.perm py,MO ((py.map RC.rt).trans (by rw[hl])) (ik.2 (un.imp λ{a b} h=>by rw[oH a.rt b.rt] at h;omega)),rfl⟩
variable {w:World}
set_option maxHeartbeats 1000000 in
theorem aJu {w:World} {gl:Option Addr} {mc gn:Nat} {ef:List Value} {ws:List (List Int)} (jp:Rd w gl mc gn 1 ef) (nh:SlW .u8 w ef ws) (hN:(∀w∈ws,w.length<=8000)/\ws.length<=100000):
  Ct Tryz.prog 39 #[sl gl mc gn] w.heap.size w [] (λv R'=> ∃(A:Option Addr) (c:Nat) (vals:List Value) (Rs:List Row),v=sl A vals.length c/\SlR .u8 Rs vals (canon ws)/\R'=⟨22,1,A,vals.length,c,vals,false⟩::Rs):=by
 obtain rfl:mc=ws.length:=by have:=jp.len;have:=nh.1;omega
 refine fn1 Tryz.func39 Z Z Z ?_;have Lz:=jp.max;refine wq<|wn Z<|wq<|dH (R1:=(⟨22,1,none,0,0,[],false⟩::[])) (Sub.refl _) (λ_ h=>h.nil 22 1)<|wn Z<|aG<|wq<|wm Z<|wa (aF bGo Z (Ct.fresh (λw hw=>aMo ((jp.c _) w hw) (nh.c hw) cE))) ?_;rintro _ _ ⟨_,rfl,bx,br,oc,Nl,rfl,Qb,m8,rfl⟩;refine dH (R1:=(⟨117,2,bx,oc.length,br,rgs oc,false⟩::⟨22,1,none,0,0,[],false⟩::Nl)) (Sub.refl _) (λ_ h=>Hp.toTail0 (X:=[_]) (Y:=[_]) h)<|wy (aQ Gv Z)<|wm Z<|aA<|aI ?_;refine EA (λ(i:Int) (A1:Option Addr) (n1:Nat) (c1:Nat) (vals:List Value) (ls:List (List Int)) (Rs:List Row)=>[(3,sl A1 n1 c1),(7,sl bx oc.length br),(8,I ((oc.length:Nat):Int)),(9,I i)]) (λi A1 n1 c1 vals ls Rs=>(⟨117,2,bx,oc.length,br,rgs oc,false⟩::⟨22,1,A1,n1,c1,vals,false⟩::Rs)) (λi A1 n1 c1 vals ls Rs=>(0<=i)/\(i<=oc.length)/\(n1=vals.length)/\(SlR .u8 Rs vals ls)/\(RgR Rs oc)/\(ls=(oc.take i.toNat).map (λr=>rep r.root r.times))) (λi A1 n1 c1 vals ls Rs=>(oc.length-i).toNat) ?_ ?_
 ·exact⟨0,none,0,0,[],[],Nl,⟨G,G,(Z),(SlR.nilR _ _),(Qb),(Z)⟩,SA,λ_ h=>h⟩
 intro i A1 n1 c1 vals ls Rs ⟨ar,ia,dd,tx,u5,Ji⟩;have qn:=bz List.length Ji;rw[bi,ax] at qn;have Rz:=tx.1;have li:0<=i->i<oc.length->0<(rdG oc i).root.length/\1<=(rdG oc i).times/\(rdG oc i).times.toNat*(rdG oc i).root.length<=8000:=λh h'=>aTt m8 hN.1 (aDl h h');have Tw:oc.length<=ws.length:=by have h1:=bz List.length m8;rw[bi,(rV ws).length_eq] at h1;have h2:=CR ws;omega
 refine wq<|wL Z Z<|aA<|aG<|bJ Z (λaq=> ?_) (λaq=> ?_)
 ·have Lq:=li ar G;refine aJ<|aG<|aI<|wq<|wy (gV Gv aLu Z Z (rdr 0 Z) Z) ?_;have Va:=(u5 _ (aDl (l:=oc) (i:=i) G G)).2;refine wy (bCh Af Z aLu Z (rdr 0 Z) G G)<|wa (iH (sz:=2) bBw Z) ?_;rintro _ _ ⟨Ka,rfl,rfl⟩;refine bX (fQ (vs:=[sl ((rdG oc i).A) ((rdG oc i).root.length) ((rdG oc i).c),I ((rdG oc i).times)]) 0 Z aLu Z Z Z (by intro v hv;simp at hv;rcases hv with rfl|rfl<;>rfl) Z) ?_;rintro _ _ rfl;refine aA<|aM<|wm Z<|wy (aB (off:=0) (m:=0) Af Z dO Z Z Z)<|wy (aK (rdr 0 Z) ai Z Z Z)<|wy (aB (off:=1) (m:=1) Af Z sz3 Z Z Z)<|wy (aK (rdr 0 Z) ak Z Z Z)<|wa (aF bGn Z (Ct.fresh (λw hw=>YX ((λ_ h=>Va _ _ _ (h.right (R':=[_,_,_]))) w hw) Lq.1 Lq.2.1 Lq.2.2))) ?_;rintro _ _ ⟨_,rfl,oe,cg,rfl,rfl⟩;refine wa (nN [Value.slice oe ((rep ((rdG oc i).root) ((rdG oc i).times)).length) cg] gp xK Z Z Z Z) ?_;rintro _ _ ⟨j7,rfl,rfl⟩;refine wa (rJ 4 Z Z gp bCa Z Z Z Z Z (rdr 0 Z) (by simp[Value.oneCell']) (by dsimp only;omega)) ?_;rintro _ _ ⟨pt,pv,rfl,rfl⟩;refine bN (v:=sl pt (n1+1) pv) Z<|wn Z<|aM<|wA Z Z<|wm Z<|aA ?_;exact⟨i+1,pt,n1+1,pv,vals++([Value.slice oe ((rep ((rdG oc i).root) ((rdG oc i).times)).length) cg]),(ls++[rep (rdG oc i).root (rdG oc i).times]),(⟨5,1,oe,(rep ((rdG oc i).root) ((rdG oc i).times)).length,cg,ints .u8 (rep ((rdG oc i).root) ((rdG oc i).times)),true⟩::Rs),⟨G,G,(by rw[ah,dd];rfl),(tx.snoc Z),(u5.right [_]),(by rw[aBi ar G,<-Ji])⟩,G,SA,λ_ h=>h.selR (F:=[_,_,_,_,_]) (F':=[_,_,_]) [3,4,1] cC Z⟩
 ·refine aZ<|wq<|wm Z<|wn Z ?_;obtain rfl:ls=canon ws:=by rw[Ji];exact aBj m8 G
  refine aT [1] 2 cC Z ?_;refine⟨_,Z,?_⟩;subst dd;exact⟨_,_,vals,Rs,Z,tx,Z⟩
theorem aIp {ao:Option Addr} {ap an:Nat} {u:List Int} {rg:Option Addr} {rn rh:Nat} {t:List Int} (am:Rd w ao ap an 1 (ints .u8 u)) (Kj:Rd w rg rn rh 1 (ints .u8 t)) (ac:aO u) (Jx:aO t):
  Ct Tryz.prog 274 #[sl ao ap an,sl rg rn rh] w.heap.size w [] (λv R'=>v= .bool (decide (u=t))):=by
 obtain rfl:=am.lenI;obtain rfl:=Kj.lenI;refine fn1 Tryz.func274 Z Z Z ?_;have pd:=am.max;have m_t:=Kj.max;refine wq<|wn Z<|wq<|wm Z<|wy (xL ai cz Gn Z (am.c _))<|wm Z<|wy (xL ai cz Gn Z (Kj.c _))<|wy (aXd Z Z ac Jx)<|wn Z<|dF ?_;refine⟨_,Z,?_⟩;rfl
variable {ws ls:List (List Int)} {w:List Int}
def kw (c:List Int):RT:=(kH c,iA c)
structure CI (ws:List (List Int)) (ls:List (List Int)):Prop where
 perm:(ls.map kw).Perm (dZ ws)
 sorted:ls.Pairwise λa b=>kT (kw a) (kw b)<=0
theorem CI.nil:CI [] []:=⟨.refl _, .nil⟩
theorem CI.skip (h:CI ws ls) (hw:w.length=0):CI (ws++[w]) ls:=⟨by
 have e:dZ [w]=[]:=by unfold dZ;simp[hw]
 rw[lL,e,jo]
 exact h.perm,h.sorted⟩
theorem CI.put {j:Int} (h:CI ws ls) (hw:0<w.length) (h0:0<=j) (h1:j<=ls.length) (Jn: ∀q:Int,j<=q->q<ls.length->kT (kw (lw w)) (kw (rdl ls q))<0) (f8: ¬(0<j/\kT (kw (lw w)) (kw (rdl ls (j-1)))<0)):CI (ws++[w]) (ls.take j.toNat++[lw w]++ls.drop j.toNat):=by
 refine⟨?_,?_⟩
 ·rw [lL];have e:dZ [w]=[AZ w]:=by unfold dZ;simp[hw]
  rw[e,jh,jh];refine List.Perm.trans ?_ (List.Perm.append_right [AZ w] h.perm);rw[ig];refine(Cx _ yl).trans ?_;rw[<-ig,<-jh,gq];exact .refl _
 ·have hs:=h.sorted;have Ft:=hs;rw[<-gq j.toNat ls,pq] at Ft;obtain⟨s1,s2,s3⟩:=Ft
  have hdn: ∀b∈ls.drop j.toNat,kT (kw (lw w)) (kw b)<0:=λb hb=>by
   obtain⟨k,hk,e⟩:=gz.1 hb;rw[bg] at hk;have:=Jn (j+k) G G
   have e2:rdl ls (j+k)=b:=by
    rw[<-e,Fv];unfold rdl;rw[show(j+(k:Int)).toNat=j.toNat+k by omega,af,av G];rfl
   rwa[e2] at this
  have Eq: ∀a∈ls.take j.toNat,kT (kw a) (kw (lw w))<=0:=λa ha=>by
   obtain⟨k,hk,e⟩:=gz.1 ha;rw[ax] at hk;have hj:0<j:=G
   have hl:kT (kw (rdl ls (j-1))) (kw (lw w))<=0:=by
    rw[oH (kw (lw w))];have:=λc=>f8 ⟨hj,c⟩;omega
   have e2:rdl ls (j-1)=ls[(j-1).toNat]' G:=by
    unfold rdl;rw[af,av G];rfl
   rw[Ai] at e;rcases fe k (j-1).toNat with g|g
   ·have:=di.1 hs k (j-1).toNat G G g;rw[e,<-e2] at this;exact EP _ _ _ this hl
   ·obtain rfl:k=(j-1).toNat:=G
    rw[<-e,<-e2];exact hl
  rw[ig,pq];refine⟨s1,?_,?_⟩
  ·rw [nz,iv];exact⟨λb hb=>by have:=hdn b hb;omega,s2⟩
  ·intro a ha b hb;rw[nz,jf] at hb;rcases hb with rfl|hb
   ·exact Eq a ha
   ·exact s3 a ha b hb
theorem CI.done {ls:List (List Int)} (h:CI ws ls) (hp: ∀c∈ls,0<c.length):ls=canon ws:=by
 have:ls.map kw=vY ws:=MO h.perm (ik.2 h.sorted);unfold canon;rw[<-this,xz]
 conv=>lhs;rw[<-List.map_id ls]
 refine Bi λc hc=> ?_;exact(CO (hp c hc)).symm
end Go.Proofs.YtdbebmmhdefgdaaGreat
namespace Go.Pure
open Go Go.Eng
variable {t:Int} {u b:List Int}
def zZ (t:Int) (u:List Int) (p:List Int × List Int):Prop:=
 (t=1/\ ∃b:List Int,b.Perm (iota u.length)/\b.Pairwise (bU u)/\p=(bQ (zat b),ofL u b))\/
 (t=2/\ ∃T:List (Int × Int),T.Perm (iI (bws u) (bws u).length)/\T.Pairwise (pR (bws u))/\p=([],T.map (lastB (bws u))))\/
 (t≠1/\t≠2/\p=([],u))
theorem zZ.uniq {p q:List Int × List Int} (h1:zZ t u p) (h2:zZ t u q):p=q:=by
 rcases h1 with⟨e1,b,hb,sb,rfl⟩|⟨e1,T,hT,sT,rfl⟩|⟨e1,e2,rfl⟩<;>rcases h2 with⟨f1,c,hc,sc,rfl⟩|⟨f1,U,hU,sU,rfl⟩|⟨f1,f2,rfl⟩
 ·rw[ZK hb hc sb sc]
 ·omega
 ·omega
 ·omega
 ·rw[BH ZJ (hT.trans hU.symm) sT sU]
 ·omega
 ·omega
 ·omega
 ·rfl
open Classical in
noncomputable def kW (t:Int) (u:List Int):List Int × List Int:=if h: ∃p,zZ t u p then Classical.choose h else([],[])
theorem xS {p:List Int × List Int} (h:zZ t u p):kW t u=p:=by
 have he: ∃p,zZ t u p:=⟨p,h⟩;unfold kW;rw[dif_pos he];exact(Classical.choose_spec he).uniq h
theorem RQ (h1:t≠1) (h2:t≠2):kW t u=([],u):=xS (.inr (.inr ⟨h1,h2,rfl⟩))
theorem RS (hp:b.Perm (iota u.length)) (hs:b.Pairwise (bU u)):kW 1 u=(bQ (zat b),ofL u b):=xS (.inl ⟨rfl,b,hp,hs,rfl⟩)
theorem RU {T:List (Int × Int)} (hp:T.Perm (iI (bws u) (bws u).length)) (hs:T.Pairwise (pR (bws u))):kW 2 u=([],T.map (lastB (bws u))):=xS (.inr (.inl ⟨rfl,T,hp,hs,rfl⟩))
noncomputable def dM (t o:Int) (b:List Int):List Int:=
 bQ b.length++((kW t b).1++(bQ (dJ (kW t b).2 o).length++(iE (bv (jS b))++dJ (kW t b).2 o)))
theorem zZ.facts {p:List Int × List Int} (h:zZ t u p) (hu:aO u) (hN:u.length<=100000):(p.1.length<=3/\aO p.1)/\aO p.2/\p.2.length=u.length:=by
 rcases h with⟨_,b,hb,sb,rfl⟩|⟨_,T,hT,sT,rfl⟩|⟨_,_,rfl⟩
 ·have e1:=nT hb sb;have e2:=FX (s:=u) (k:=0) G;exact⟨⟨eF 2 _ G,eY G⟩,vN hu hb,(yO hb sb).length_eq⟩
 ·exact⟨⟨cD,λ_ h=>nomatch h⟩,lC hT (by rw[nK];exact hu),by rw[bi,zS hT]⟩
 ·exact⟨⟨cD,λ_ h=>nomatch h⟩,hu,rfl⟩
theorem RV (hu:aO u) (hN:u.length<=100000):((kW t u).1.length<=3/\aO (kW t u).1)/\aO (kW t u).2/\(kW t u).2.length<=u.length:=by
 by_cases h: ∃p,zZ t u p
 ·obtain ⟨p,hp⟩:=h;rw[xS hp];have:=hp.facts hu hN;exact⟨this.1,this.2.1,G⟩
 ·unfold kW;rw[dif_neg h];exact⟨⟨cD,λ_ h=>nomatch h⟩,(λ_ h=>nomatch h),cD⟩
theorem JQ {o:Int} (hb:aO b) (hN:b.length<=100000):(dM t o b).length<=2*b.length+22/\aO (dM t o b):=by
 obtain⟨⟨h1,h0⟩,h2,h3⟩:=RV (t:=t) hb hN;have h4:=oF (o:=o) h2;have h5:=eF 2 (b.length:Int) G;have h6:=eF 2 ((dJ (kW t b).2 o).length:Int) G;have h7:(iE (bv (jS b))).length=4:=rfl;unfold dM;refine⟨by simp only[ah];omega,?_⟩;intro x hx;simp only[fw] at hx;rcases hx with hx|hx|hx|hx|hx
 ·exact eY G x hx
 ·exact h0 x hx
 ·exact eY G x hx
 ·exact iR _ x hx
 ·exact gB _ _ x hx
def chK (m n:Nat):Nat:=(m+n-1)/n
noncomputable def kN (t o:Int) (n:Nat) (u:List Int) (k:Nat):List Int:=((List.range k).map λj=>dM t o ((u.drop (j*n)).take n)).flatten
theorem zU (t o:Int) (n:Nat) (u:List Int):kN t o n u 0=[]:=rfl
theorem zV (t o:Int) (n:Nat) (u:List Int) (k:Nat):kN t o n u (k+1)=kN t o n u k++dM t o ((u.drop (k*n)).take n):=by
 unfold kN;rw[yo,jh,ow];simp
theorem lH {t o:Int} {n:Nat} {u:List Int} (hu:aO u) (hN:u.length<=100000): ∀k:Nat,(kN t o n u k).length<=(2*u.length+22)*k/\aO (kN t o n u k)
 |0=>by rw[zU];exact⟨cD,λ_ h=>nomatch h⟩
 |k+1=>by
  have h1:=lH (t:=t) (o:=o) (n:=n) hu hN k;have h2:=JQ (t:=t) (o:=o) (b:=(u.drop (k*n)).take n) ((hu.drop _).take _) (by rw[ax,bg];omega);have h3:((u.drop (k*n)).take n).length<=u.length:=by rw[ax,bg];omega
  rw[zV,ah,Nat.mul_add];refine⟨G,λx hx=> ?_⟩;rcases fw.1 hx with hx|hx
  ·exact h1.2 x hx
  ·exact h2.2 x hx
theorem aBg {m n:Nat} (hn:1<=n):chK m n<=m:=by
 unfold chK;rcases dx m with h|h
 ·subst h;rw[Db G];exact dh _
 ·refine Nat.le_of_lt_succ ((Nat.div_lt_iff_lt_mul G).2 ?_);have:(m+1)*1<=(m+1)*n:=Nat.mul_le_mul_left _ hn;have e:(m+1)*n=m*n+n:=by rw[xm,Ce]
  have e2:m*1<=m*n:=Nat.mul_le_mul_left _ hn;show m+n-1<(m+1)*n;omega
noncomputable def nR (t so o size:Int) (u:List Int):List Int:=
 (([87,72,82,76]++[1,t,so,o])++bQ size++kN t o size.toNat u (chK u.length size.toNat))++(bQ 0++bQ u.length)
end Go.Pure
namespace Go.Proofs.YtdbebmmhdefgdaaGreat
open Go Go.Eng Go.Pure
open Tryz
set_option maxRecDepth 100000
variable {B ap an:Nat} {w0:World} {R:List Row} {so od sz:Int} {ao:Option Addr} {u:List Int}
theorem zT {tu:Int} (ht:0<=tu/\tu<=3) (hp:(0<=so/\so<=2)/\(od=0\/od=1)/\(1<=sz/\sz<=16777216)):
  Ct Tryz.prog 23 #[.agg #[I tu,I so,I od,I sz]] B w0 (R) (λv R'=>v=bt/\R'=R):=by
 refine fn1 Tryz.func23 Z Z Z ?_;refine wq<|wa (bY (sz:=4) Z Z) ?_;rintro _ _ ⟨al,rfl,rfl⟩;refine wn Z<|wq<|wy (aB (off:=0) (m:=0) df Z sz3 Z Z Z)<|wy (aK (rdr 0 Z) ak Z Z Z)<|wy (Yl.t (jF Z Z) G)<|wm Z<|aC Z Z<|wy (aB (off:=0) (m:=0) df Z sz3 Z Z Z)<|aC Z Z<|wy (aK (rdr 0 Z) ak Z Z Z)<|aC Z Z<|wy (Yl.t (vT Z Z) G)<|wy (aY Z Z) ?_;refine wm Z<|aC Z Z<|wy (aB (off:=1) (m:=1) df Z sz3 Z Z Z)<|aC Z Z<|wy (aK (rdr 0 Z) ak Z Z Z)<|aC Z Z<|wy (Yl.t (jF Z Z) G)<|wy (aY Z Z)<|wm Z<|aC Z Z<|wy (aB (off:=1) (m:=1) df Z sz3 Z Z Z)<|aC Z Z<|wy (aK (rdr 0 Z) ak Z Z Z)<|aC Z Z<|wy (Yl.t (eO Z Z) G) ?_;refine wy (aY Z Z)<|wm Z<|aC Z Z<|wy (aB (off:=2) (m:=2) df Z sz3 Z Z Z)<|aC Z Z<|wy (aK (rdr 0 Z) ak Z Z Z)<|aC Z Z<|wy (bC Z Z)<|aC Z Z<|wm Z<|dQ 4 [(1,PG al),(21,bt),(29, .bool (decide ((od=0)\/(od=1))))] ((rc 27 4 al [I tu,I so,I od,I sz])::R) ?_ ?_
 ·refine cK 25 Z (λaq=> ?_) (λaq=> ?_)
  ·refine aP Z Z Z Z<|aP Z Z Z Z<|aP Z Z Z Z<|aC Z Z<|wy (aY Z Z)<|aA ?_;exact⟨SA,λ_ h=>h⟩
  ·refine aC Z Z<|wy (aB (off:=2) (m:=2) df Z sz3 Z Z Z)<|aC Z Z<|wy (aK (rdr 0 Z) ak Z Z Z)<|aC Z Z<|wy (bC Z Z)<|aC Z Z<|wy (aR Z Z)<|aA ?_;exact⟨SA,λ_ h=>h⟩
 refine kK 29 Z (hp.2.1)<|wy (aY Z Z)<|wm Z<|aC Z Z<|wy (aB (off:=3) (m:=3) df Z sz3 Z Z Z)<|aC Z Z<|wy (aK (rdr 0 Z) ak Z Z Z)<|aC Z Z<|wy (Yl.t (jF Z Z) G)<|wy (aY Z Z)<|wm Z<|aC Z Z<|wy (aB (off:=3) (m:=3) df Z sz3 Z Z Z)<|aC Z Z<|wy (aK (rdr 0 Z) ak Z Z Z) ?_;refine aC Z Z<|wy (Yl.t (vT Z Z) G)<|wy (aY Z Z)<|wn Z<|aT [] 1 cC Z ?_;refine⟨_,Z,?_⟩;exact⟨Z,Z⟩
theorem YA (am:RdC B w0 R ao ap an 1 (ints .u8 u)) (bl:ap=u.length) (ac:aO u) (hN:u.length<=100000) (hp:(0<=so/\so<=2)/\(od=0\/od=1)/\(1<=sz/\sz<=16777216)):
  Ct Tryz.prog 74 #[sl ao ap an,sl none 0 0, .agg #[I 0,I so,I od,I sz]] B w0 (R) (λv R'=>v= .tuple #[sl none 0 0,sl ao ap an]/\R'=R):=by
 subst bl;refine fn2 Jb Z Z Z ?_;refine wq<|wa (bY (sz:=4) Z Z) ?_;rintro _ _ ⟨al,rfl,rfl⟩;refine wg Z<|wn Z<|aG<|wq<|wy (aB (off:=0) (m:=0) df Z sz3 Z Z Z)<|wy (aK (rdr 0 Z) ak Z Z Z)<|aA<|aI<|wq<|wy (Yl.f (bC Z Z) cC)<|wn Z ?_;refine aL Z<|wq<|wy (Yl.f (bC Z Z) cC)<|wn Z<|aL Z<|wq<|wy (Yl.f (bC Z Z) cC)<|wn Z<|aL Z<|aJ<|aG ?_;refine aM<|wm Z<|wg Z<|wn Z<|aT [] 1 cC Z ?_;refine⟨_,_,Z,Z,?_⟩;exact⟨Z,Z⟩
theorem XZ (am:RdC B w0 R ao ap an 1 (ints .u8 u)) (bl:ap=u.length) (ac:aO u) (hN:u.length<=100000) (hp:(0<=so/\so<=2)/\(od=0\/od=1)/\(1<=sz/\sz<=16777216)):
  Ct Tryz.prog 74 #[sl ao ap an,sl none 0 0, .agg #[I 1,I so,I od,I sz]] B w0 (R) (λv R'=> ∃(b1:List Int) (A1:Option Addr) (c1:Nat) (A2:Option Addr) (c2:Nat),v= .tuple #[sl A1 (bQ (zat b1)).length c1,sl A2 (ofL u b1).length c2]/\b1.Perm (iota u.length)/\b1.Pairwise (bU u)/\R'=(ru 5 A1 ((bQ (zat b1)).length) c1 (bQ (zat b1)))::(ru 5 A2 ((ofL u b1).length) c2 (ofL u b1))::R):=by
 subst bl;refine fn2 Jb Z Z Z ?_;refine wq<|wa (bY (sz:=4) Z Z) ?_;rintro _ _ ⟨al,rfl,rfl⟩;refine wg Z<|wn Z<|aG<|wq<|wy (aB (off:=0) (m:=0) df Z sz3 Z Z Z)<|wy (aK (rdr 0 Z) ak Z Z Z)<|aA<|aI<|wq<|wy (Yl.t (bC Z Z) cC)<|wn Z ?_;refine bO Z<|aG<|bT mixed<|wD 1 Z (aB (off:=1) (m:=1) df Z sz3 Z Z Z)<|wD 2 Z (aK (rdr 0 Z) ak Z Z Z)<|wD 3 Z (aN Z)<|wC 0 Z (aF bGt Z (Ct.fresh (λw hw=>WG))) ?_;rintro _ _ ⟨_,rfl,dq,rfl,rfl⟩;refine⟨.inr λ_ h=>h.right (R':=[_]),?_⟩;refine wC 4 Z (aF bGl Z ((DV (RdC.right am [_]) (by first|rfl|(simp;done)|omega) ac hN cC))) ?_;rintro _ _ ⟨b1,kd,km,e1,d0,d1,d2,rfl,hso,rfl⟩;obtain⟨_,o4⟩:=hso.resolve_left (λh=>absurd h.1 G);refine⟨.inl cA,?_⟩;refine wD 5 Z (aN Z)<|wD 6 Z (jM Z Z)<|wD 7 Z (jM Z Z)<|wD 8 Z (bP Z)<|wD 9 Z (bP Z)<|wN<|wq<|wm Z<|wm Z<|wa (aF aYj Z (Ct.fresh (λw hw=>aRq ((RdC.right am [_,_,_]) w hw) ((rdr 0 Z) w hw) o4.2.1 G))) ?_;rintro _ _ ⟨_,rfl,es,dt,rfl,rfl⟩;refine wm Z<|wX Z Z<|wX Z Z<|wX Z Z<|wg Z<|wg Z<|wn Z<|wq<|wm Z<|wa (aF KW Z (Ct.fresh (λw hw=>kJ (by have e1:=nT o4.2.1 o4.2.2.1;have e2:=FX (s:=u) (k:=0) G;omega)))) ?_;rintro _ _ ⟨_,rfl,bc,bh,rfl,rfl⟩;refine wm Z<|wg Z<|wn Z<|aT [0,1] 5 cC Z ?_;refine⟨_,_,Z,Z,?_⟩;exact⟨b1,_,_,_,_,Z,o4.2.1,o4.2.2.1,Z⟩
theorem XY (am:RdC B w0 R ao ap an 1 (ints .u8 u)) (bl:ap=u.length) (ac:aO u) (hN:u.length<=100000) (hp:(0<=so/\so<=2)/\(od=0\/od=1)/\(1<=sz/\sz<=16777216)):
  Ct Tryz.prog 74 #[sl ao ap an,sl none 0 0, .agg #[I 2,I so,I od,I sz]] B w0 (R) (λv R'=> ∃(l1:List (Int × Int)) (A1:Option Addr) (c1:Nat),v= .tuple #[sl none 0 0,sl A1 l1.length c1]/\l1.Perm (iI (bws u) (bws u).length)/\l1.Pairwise (pR (bws u))/\R'=(ru 5 A1 l1.length c1 (l1.map (lastB (bws u))))::R):=by
 subst bl;refine fn2 Jb Z Z Z ?_;refine wq<|wa (bY (sz:=4) Z Z) ?_;rintro _ _ ⟨al,rfl,rfl⟩;refine wg Z<|wn Z<|aG<|wq<|wy (aB (off:=0) (m:=0) df Z sz3 Z Z Z)<|wy (aK (rdr 0 Z) ak Z Z Z)<|aA<|aI<|wq<|wy (Yl.f (bC Z Z) cC)<|wn Z ?_;refine aL Z<|wq<|wy (Yl.t (bC Z Z) cC)<|wn Z<|bO Z<|wq<|wm Z<|wa (aF aYr Z (Ct.fresh (λw hw=>JR ((RdC.right am [_]) w hw) ac hN))) ?_;rintro _ _ ⟨_,rfl,l1,ij,io,rfl,mt,re,rfl⟩;refine wm Z<|wX Z Z<|wX Z Z<|wg Z<|wn Z<|wq<|wm Z<|wg Z<|wn Z<|aT [0] 2 cC Z ?_;refine⟨_,_,Z,Z,?_⟩;exact⟨l1,_,_,Z,mt,re,Z⟩
theorem aKd (am:RdC B w0 R ao ap an 1 (ints .u8 u)) (bl:ap=u.length) (ac:aO u) (hN:u.length<=100000) (hp:(0<=so/\so<=2)/\(od=0\/od=1)/\(1<=sz/\sz<=16777216)):
  Ct Tryz.prog 41 #[sl ao ap an,sl none 0 0, .agg #[I 0,I so,I od,I sz]] B w0 (R) (λv R'=> ∃(A1:Option Addr) (c1:Nat),v=sl A1 (dM 0 od u).length c1/\R'=(ru 5 A1 ((dM 0 od u).length) c1 (dM 0 od u))::R):=by
 subst bl;refine fn1 Iy Z Z Z ?_;refine wq<|wa (bY (sz:=4) Z Z) ?_;rintro _ _ ⟨al,rfl,rfl⟩;refine wn Z<|wq<|wm Z<|wm Z<|wy (dN (vs:=[I 0,I so,I od,I sz]) (rdr 0 Z) df Z gG Z Z (au Z) Z)<|wa (aF bAs Z (YA (RdC.right am [_]) (by first|rfl|(simp;done)|omega) ac hN hp)) ?_;rintro _ _ ⟨rfl,rfl⟩;have mj:(u).length=u.length:=rfl;have Jj:=oF (b:=u) (o:=od) ac;have vj:=eF 2 (u.length:Int) G;have wi:=eF 2 ((dJ u od).length:Int) G;refine wm Z<|wX Z Z<|wX Z Z<|wg Z<|wn Z<|wq<|wm Z<|wy (aB (off:=2) (m:=2) df Z sz3 Z Z Z)<|wy (aK (rdr 0 Z) ak Z Z Z)<|wa (aF aVw Z (Ct.fresh (λw hw=>vM ((RdC.right am [_]) w hw) ac hp.2.1 G))) ?_;rintro _ _ ⟨_,rfl,ij,io,rfl,rfl⟩;refine wm Z<|wX Z Z<|wX Z Z<|wg Z<|wn Z<|wq<|wm Z<|wy (aQ ai Z)<|wa (aF KW Z (Ct.fresh (λw hw=>kJ G))) ?_;rintro _ _ ⟨_,rfl,fk,nv,rfl,rfl⟩;refine wm Z<|wm Z<|wy (aQ ai Z)<|wa (aF KW Z (Ct.fresh (λw hw=>kJ G))) ?_;rintro _ _ ⟨_,rfl,fc,ci,rfl,rfl⟩;refine wa (aF aIy Z (Ct.fresh (λw hw=>oK))) ?_;rintro _ _ ⟨_,rfl,j6,rfl,rfl⟩;refine wm Z<|wa (nN [Value.slice ao u.length an] gp xK Z Z Z Z) ?_;rintro _ _ ⟨j7,rfl,rfl⟩;refine wa (aF aIx Z (Ct.at 1 Z (oJ (ls:=[u]) (.inl ⟨Z,Z,bq ..,G⟩) (rdr 0 rfl) rfl (xI.one (l:=u) (RdC.right am [_,_,_,_,_]) ac (by first|rfl|simp|(simp[upd];done))) (Big.one (by first|omega|decide|simp))))) ?_;rintro _ _ ⟨rfl,rfl⟩;refine wa (aF bAr Z (Ct.fresh (λw hw=>IY ⟨by unfold bv;omega,by unfold bv;have:=(jS ([u]).flatten).isLt;omega⟩))) ?_;rintro _ _ ⟨_,rfl,pt,pv,rfl,rfl⟩;refine wm Z<|wa (nN [Value.slice fk ((bQ ((u.length:Nat):Int)).length) nv,Value.slice none 0 0,Value.slice fc ((bQ (((dJ u od).length:Nat):Int)).length) ci,Value.slice pt 4 pv,Value.slice ij ((dJ u od).length) io] gp xK Z Z Z Z) ?_;rintro _ _ ⟨sv,rfl,rfl⟩;refine wa (aF KV Z (Ct.fresh (λw hw=>jL ((rdr 0 Z) w hw) ((((((jA _ _).snoc ((rdr 5 Z) w hw) (λx hx=>fH ((eY G) x hx)) G).snoc ((aNa _) w hw) (λx hx=>by cases hx) cC).snoc ((rdr 4 rfl) w hw) (λx hx=>fH ((eY G) x hx)) G).snoc ((rdr 1 rfl) w hw) (λx hx=>fH ((iR _) x hx)) (by show(4:Nat)<=_;decide)).snoc ((rdr 6 rfl) w hw) (λx hx=>fH ((gB _ _) x hx)) G) ⟨by simp only[si,jb,jd,nz,kv,qi,xg,Hq,jy];have h4:(iE (bv (jS ([u]).flatten))).length=4:=rfl;omega,cD⟩))) ?_;rintro _ _ ⟨_,rfl,rp,rx,rfl,rfl⟩;refine wn Z<|aT [0] 9 cC Z ?_;refine⟨_,Z,?_⟩
 have e:([bQ ((u.length:Nat):Int),[],bQ (((dJ (u) od).length:Nat):Int),iE (bv (jS ([u]).flatten)),dJ (u) od]).flatten=dM 0 od u:=by
  unfold dM;rw[RQ (t:=0) (u:=u) cC cC];simp
 rw[<-e];exact⟨_,_,Z,Z⟩
theorem aKc (am:RdC B w0 R ao ap an 1 (ints .u8 u)) (bl:ap=u.length) (ac:aO u) (hN:u.length<=100000) (hp:(0<=so/\so<=2)/\(od=0\/od=1)/\(1<=sz/\sz<=16777216)):
  Ct Tryz.prog 41 #[sl ao ap an,sl none 0 0, .agg #[I 1,I so,I od,I sz]] B w0 (R) (λv R'=> ∃(A1:Option Addr) (c1:Nat),v=sl A1 (dM 1 od u).length c1/\R'=(ru 5 A1 ((dM 1 od u).length) c1 (dM 1 od u))::R):=by
 subst bl;refine fn1 Iy Z Z Z ?_;refine wq<|wa (bY (sz:=4) Z Z) ?_;rintro _ _ ⟨al,rfl,rfl⟩;refine wn Z<|wq<|wm Z<|wm Z<|wy (dN (vs:=[I 1,I so,I od,I sz]) (rdr 0 Z) df Z gG Z Z (au Z) Z)<|wa (aF bAs Z (XZ (RdC.right am [_]) (by first|rfl|(simp;done)|omega) ac hN hp)) ?_;rintro _ _ ⟨b1,ij,io,fk,nv,rfl,de,fi,rfl⟩;have mj:(ofL u b1).length=u.length:=(by rw[(yO de fi).length_eq]);have Jj:=oF (b:=ofL u b1) (o:=od) (vN ac de);have vj:=eF 2 (u.length:Int) G;have wi:=eF 2 ((dJ (ofL u b1) od).length:Int) G;have hz:0<=zat b1/\zat b1<=100000:=by have e1:=nT de fi;have e2:=FX (s:=u) (k:=0) G;omega
 have po:=eF 2 (zat b1) G;refine wm Z<|wX Z Z<|wX Z Z<|wg Z<|wn Z<|wq<|wm Z<|wy (aB (off:=2) (m:=2) df Z sz3 Z Z Z)<|wy (aK (rdr 2 Z) ak Z Z Z)<|wa (aF aVw Z (Ct.fresh (λw hw=>vM ((rdr 1 Z) w hw) (vN ac de) hp.2.1 G))) ?_;rintro _ _ ⟨_,rfl,fc,ci,rfl,rfl⟩;refine wm Z<|wX Z Z<|wX Z Z<|wg Z<|wn Z<|wq<|wm Z<|wy (aQ ai Z)<|wa (aF KW Z (Ct.fresh (λw hw=>kJ G))) ?_;rintro _ _ ⟨_,rfl,pr,cj,rfl,rfl⟩;refine wm Z<|wm Z<|wy (aQ ai Z)<|wa (aF KW Z (Ct.fresh (λw hw=>kJ G))) ?_;rintro _ _ ⟨_,rfl,pt,pv,rfl,rfl⟩;refine wa (aF aIy Z (Ct.fresh (λw hw=>oK))) ?_;rintro _ _ ⟨_,rfl,Zj,rfl,rfl⟩;refine wm Z<|wa (nN [Value.slice ao u.length an] gp xK Z Z Z Z) ?_;rintro _ _ ⟨Zk,rfl,rfl⟩;refine wa (aF aIx Z (Ct.at 1 Z (oJ (ls:=[u]) (.inl ⟨Z,Z,bq ..,G⟩) (rdr 0 rfl) rfl (xI.one (l:=u) (RdC.right am [_,_,_,_,_,_,_]) ac (by first|rfl|simp|(simp[upd];done))) (Big.one (by first|omega|decide|simp))))) ?_;rintro _ _ ⟨rfl,rfl⟩;refine wa (aF bAr Z (Ct.fresh (λw hw=>IY ⟨by unfold bv;omega,by unfold bv;have:=(jS ([u]).flatten).isLt;omega⟩))) ?_;rintro _ _ ⟨_,rfl,wv,xb,rfl,rfl⟩;refine wm Z<|wa (nN [Value.slice pr ((bQ ((u.length:Nat):Int)).length) cj,Value.slice ij ((bQ (zat b1)).length) io,Value.slice pt ((bQ (((dJ (ofL u b1) od).length:Nat):Int)).length) pv,Value.slice wv 4 xb,Value.slice fc ((dJ (ofL u b1) od).length) ci] gp xK Z Z Z Z) ?_;rintro _ _ ⟨tc,rfl,rfl⟩;refine wa (aF KV Z (Ct.fresh (λw hw=>jL ((rdr 0 Z) w hw) ((((((jA _ _).snoc ((rdr 5 Z) w hw) (λx hx=>fH ((eY G) x hx)) G).snoc ((rdr 7 Z) w hw) (λx hx=>fH ((eY hz.1) x hx)) G).snoc ((rdr 4 Z) w hw) (λx hx=>fH ((eY G) x hx)) G).snoc ((rdr 1 Z) w hw) (λx hx=>fH ((iR _) x hx)) (by show(4:Nat)<=_;decide)).snoc ((rdr 6 Z) w hw) (λx hx=>fH ((gB _ _) x hx)) G) ⟨by simp only[si,jb,jd,nz,kv,qi,xg,Hq,jy];have h4:(iE (bv (jS ([u]).flatten))).length=4:=rfl;omega,cD⟩))) ?_;rintro _ _ ⟨_,rfl,ot,ov,rfl,rfl⟩;refine wn Z<|aT [0] 11 cC Z ?_;refine⟨_,Z,?_⟩
 have e:([bQ ((u.length:Nat):Int),bQ (zat b1),bQ (((dJ (ofL u b1) od).length:Nat):Int),iE (bv (jS ([u]).flatten)),dJ (ofL u b1) od]).flatten=dM 1 od u:=by
  unfold dM;rw[RS de fi];simp
 rw[<-e];exact⟨_,_,Z,Z⟩
theorem aKb (am:RdC B w0 R ao ap an 1 (ints .u8 u)) (bl:ap=u.length) (ac:aO u) (hN:u.length<=100000) (hp:(0<=so/\so<=2)/\(od=0\/od=1)/\(1<=sz/\sz<=16777216)):
  Ct Tryz.prog 41 #[sl ao ap an,sl none 0 0, .agg #[I 2,I so,I od,I sz]] B w0 (R) (λv R'=> ∃(A1:Option Addr) (c1:Nat),v=sl A1 (dM 2 od u).length c1/\R'=(ru 5 A1 ((dM 2 od u).length) c1 (dM 2 od u))::R):=by
 subst bl;refine fn1 Iy Z Z Z ?_;refine wq<|wa (bY (sz:=4) Z Z) ?_;rintro _ _ ⟨al,rfl,rfl⟩;refine wn Z<|wq<|wm Z<|wm Z<|wy (dN (vs:=[I 2,I so,I od,I sz]) (rdr 0 Z) df Z gG Z Z (au Z) Z)<|wa (aF bAs Z (XY (RdC.right am [_]) (by first|rfl|(simp;done)|omega) ac hN hp)) ?_;rintro _ _ ⟨l1,ij,io,rfl,mt,re,rfl⟩;have mj:(l1.map (lastB (bws u))).length=u.length:=(by rw[bi,zS mt]);have Jj:=oF (b:=l1.map (lastB (bws u))) (o:=od) (lC mt (by rw[nK];exact ac));have vj:=eF 2 (u.length:Int) G;have wi:=eF 2 ((dJ (l1.map (lastB (bws u))) od).length:Int) G;refine wm Z<|wX Z Z<|wX Z Z<|wg Z<|wn Z<|wq<|wm Z<|wy (aB (off:=2) (m:=2) df Z sz3 Z Z Z)<|wy (aK (rdr 1 Z) ak Z Z Z)<|wa (aF aVw Z (Ct.fresh (λw hw=>vM ((rdr 0 Z) w hw) (lC mt (by rw[nK];exact ac)) hp.2.1 G))) ?_;rintro _ _ ⟨_,rfl,fk,nv,rfl,rfl⟩;refine wm Z<|wX Z Z<|wX Z Z<|wg Z<|wn Z<|wq<|wm Z<|wy (aQ ai Z)<|wa (aF KW Z (Ct.fresh (λw hw=>kJ G))) ?_;rintro _ _ ⟨_,rfl,fc,ci,rfl,rfl⟩;refine wm Z<|wm Z<|wy (aQ ai Z)<|wa (aF KW Z (Ct.fresh (λw hw=>kJ G))) ?_;rintro _ _ ⟨_,rfl,pr,cj,rfl,rfl⟩;refine wa (aF aIy Z (Ct.fresh (λw hw=>oK))) ?_;rintro _ _ ⟨_,rfl,zr,rfl,rfl⟩;refine wm Z<|wa (nN [Value.slice ao u.length an] gp xK Z Z Z Z) ?_;rintro _ _ ⟨j9,rfl,rfl⟩;refine wa (aF aIx Z (Ct.at 1 Z (oJ (ls:=[u]) (.inl ⟨Z,Z,bq ..,G⟩) (rdr 0 rfl) rfl (xI.one (l:=u) (RdC.right am [_,_,_,_,_,_]) ac (by first|rfl|simp|(simp[upd];done))) (Big.one (by first|omega|decide|simp))))) ?_;rintro _ _ ⟨rfl,rfl⟩;refine wa (aF bAr Z (Ct.fresh (λw hw=>IY ⟨by unfold bv;omega,by unfold bv;have:=(jS ([u]).flatten).isLt;omega⟩))) ?_;rintro _ _ ⟨_,rfl,wk,wx,rfl,rfl⟩;refine wm Z<|wa (nN [Value.slice fc ((bQ ((u.length:Nat):Int)).length) ci,Value.slice none 0 0,Value.slice pr ((bQ (((dJ (l1.map (lastB (bws u))) od).length:Nat):Int)).length) cj,Value.slice wk 4 wx,Value.slice fk ((dJ (l1.map (lastB (bws u))) od).length) nv] gp xK Z Z Z Z) ?_;rintro _ _ ⟨Kb,rfl,rfl⟩;refine wa (aF KV Z (Ct.fresh (λw hw=>jL ((rdr 0 Z) w hw) ((((((jA _ _).snoc ((rdr 5 Z) w hw) (λx hx=>fH ((eY G) x hx)) G).snoc ((aNa _) w hw) (λx hx=>by cases hx) cC).snoc ((rdr 4 rfl) w hw) (λx hx=>fH ((eY G) x hx)) G).snoc ((rdr 1 rfl) w hw) (λx hx=>fH ((iR _) x hx)) (by show(4:Nat)<=_;decide)).snoc ((rdr 6 rfl) w hw) (λx hx=>fH ((gB _ _) x hx)) G) ⟨by simp only[si,jb,jd,nz,kv,qi,xg,Hq,jy];have h4:(iE (bv (jS ([u]).flatten))).length=4:=rfl;omega,cD⟩))) ?_;rintro _ _ ⟨_,rfl,w5,w9,rfl,rfl⟩;refine wn Z<|aT [0] 10 cC Z ?_;refine⟨_,Z,?_⟩
 have e:([bQ ((u.length:Nat):Int),[],bQ (((dJ (l1.map (lastB (bws u))) od).length:Nat):Int),iE (bv (jS ([u]).flatten)),dJ (l1.map (lastB (bws u))) od]).flatten=dM 2 od u:=by
  unfold dM;rw[RU mt re];simp
 rw[<-e];exact⟨_,_,Z,Z⟩
variable {B g ap an:Nat} {w0:World} {R:List Row} {ao:Option Addr} {u:List Int}
theorem aOq {k:Int} (am:RdC B w0 R ao ap an 1 (ints .u8 u)) (bl:ap=u.length):
  Ct Tryz.prog 92 #[PG g] B w0 ((rc 146 1 g [sl ao ap an])::R) (λv R'=>v=I ((u.length:Nat):Int)/\R'=(rc 146 1 g [sl ao ap an])::R):=by
 subst bl;refine fn1 Tryz.func92 Z Z Z ?_;refine wq<|wn Z<|aG<|wq<|wm Z<|wy (dA ze Z Z)<|aA<|aL Z<|aJ<|wq<|wm Z ?_;refine wy (aD Z)<|wy (aB (off:=0) (m:=0) zf Z dO Z Z Z)<|wy (aK (rdr 0 Z) ai Z Z Z)<|wy (aQ ai Z)<|wn Z<|bR (R1:=((rc 146 1 g [sl ao u.length an])::R)) (λ_ h=>h) ?_;refine⟨_,Z,?_⟩;exact⟨Z,Z⟩
theorem yQ {gc:Nat} {At:Option Addr} {nt ct:Nat} {p0 p1 p2 p3 ms tt ls V:Int} {m:Nat} (am:RdC B w0 R ao ap an 1 (ints .u8 u)) (bl:ap=u.length) (hN:u.length<=1000000) (ac:aO u) (hG:sS u V m) (hm:V<=9223372036854775807):
  Ct Tryz.prog 90 #[PG g] B w0 ((rc 87 10 g [PG gc,I p0,I p1,I p2,I p3,I ms,I tt,I ls,sl At nt ct,sl none 0 0])::(rc 146 1 gc [sl ao ap an])::R) (λv R'=>v= .tuple #[I V,bt]/\R'=(rc 87 10 g [PG gc,I p0,I p1,I p2,I p3,I ms,I tt,I ls,sl At nt ct,sl none 0 0])::(rc 146 1 gc [sl (iY ao m an 1) (ap-m) (an-m)])::R):=by
 subst bl;refine fn2 Tryz.func90 Z Z Z ?_;refine wq<|wg Z<|wn Z<|wq<|wm Z<|wy (aD Z)<|wy (aB (off:=0) (m:=0) gm Z aFz Z Z Z)<|wy (aK (rdr 0 Z) ze Z Z Z)<|wa (aF bEz Z (Ct.pick [1,0] 2 cC Z (OS (RdC.right am [_]) Z hN ac hG hm cC))) ?_;rintro _ _ ⟨rfl,rfl⟩;refine wX Z Z<|wX Z Z<|wg Z<|wn Z<|aT [1,0] 2 cC Z ?_;refine⟨_,_,Z,Z,?_⟩;exact⟨Z,Z⟩
set_option maxHeartbeats 1000000 in
theorem aAc {B:Nat} {w0:World} {R:List Row} {g gc:Nat} {ao At:Option Addr} {ap an nt ct:Nat} {u:List Int} {p0 p1 p2 p3 ms tt ls sz:Int} {b0 b1 b2:Int} {m:Nat} (am:RdC B w0 R ao ap an 1 (ints .u8 u)) (bl:ap=u.length) (hN:u.length<=1000000) (ac:aO u) (h5:u.take (5:Int).toNat=[87,72,82,76,1]) (h3:(u.drop (5:Int).toNat).take (3:Int).toNat=[b0,b1,b2]) (hl8:8<=u.length) (hG:sS ((u.drop (5:Int).toNat).drop (3:Int).toNat) sz m) (ue:0<=b0/\b0<=3) (Pr:(0<=b1/\b1<=2)/\(b2=0\/b2=1)/\(1<=sz/\sz<=16777216)):
  Ct Tryz.prog 89 #[PG g] B w0 ((rc 87 10 g [PG gc,I p0,I p1,I p2,I p3,I ms,I tt,I ls,sl At nt ct,sl none 0 0])::(rc 146 1 gc [sl ao ap an])::R) (λv R'=>v=bt/\R'=(rc 87 10 g [PG gc,I b0,I b1,I b2,I sz,I ms,I tt,I ls,sl At nt ct,sl none 0 0])::(rc 146 1 gc [.slice (iY (iY (iY ao (5:Int).toNat an 1) (3:Int).toNat (an-(5:Int).toNat) 1) m (an-(5:Int).toNat-(3:Int).toNat) 1) (ap-(5:Int).toNat-(3:Int).toNat-m) (an-(5:Int).toNat-(3:Int).toNat-m)])::R):=by
 subst bl;have Ru:rd ((u.drop (5:Int).toNat).take (3:Int).toNat) 0=b0:=by rw[h3];rfl
 have Lo:rd ((u.drop (5:Int).toNat).take (3:Int).toNat) 1=b1:=by rw[h3];rfl
 have wj:rd ((u.drop (5:Int).toNat).take (3:Int).toNat) 2=b2:=by rw[h3];rfl
 refine fn1 Tryz.func89 Z Z Z ?_;refine wq<|wn Z<|wq<|wm Z<|wy (aD Z)<|wy (aB (off:=0) (m:=0) gm Z aFz Z Z Z)<|wy (aK (rdr 0 Z) ze Z Z Z)<|wa (aF aEu Z (Ct.pick [1,0] 2 cC Z (wM (RdC.right am [_]) Z hN G))) ?_;rintro _ _ ⟨bx,br,rfl,rfl⟩;refine wm Z<|wX Z Z<|wX Z Z<|wg Z<|wn Z<|aG<|wq<|wm Z<|wy (dI Z)<|wm Z<|aC Z Z<|wm Z<|aC Z Z ?_;refine wy (xL ai cz Gn Z (rdr 0 Z))<|aC Z Z<|wy (Yl.f (bCg (q:=[87,72,82,76,1]) Z Z (ac.take _) (by unfold aO;decide)) (by rw[h5];decide)) ?_;refine wy (aR Z Z)<|aA<|aL Z<|aJ<|wq<|wm Z<|wy (aD Z)<|wy (aB (off:=0) (m:=0) gm Z aFz Z Z Z)<|wy (aK (rdr 2 Z) ze Z Z Z)<|wa (aF aEu Z (Ct.pick [1,0,2] 3 cC Z (wM (RdC.fromI (RdC.right am [_,_]) G) (by rw[bg]) (by rw[bg];omega) (by rw[bg];omega)))) ?_;rintro _ _ ⟨ij,io,rfl,rfl⟩;refine wm Z<|wX Z Z<|wX Z Z<|wg Z<|wn Z<|wq<|wm Z<|wa (aF aIw Z (Ct.pick [3,1,0,2] 4 cC Z (yQ (RdC.fromI (RdC.fromI (RdC.right am [_,_]) G) G) (by rw[bg,bg]) (by rw[bg,bg];omega) ((ac.drop _).drop _) hG G))) ?_;rintro _ _ ⟨rfl,rfl⟩;refine wm Z<|wX Z Z<|wX Z Z<|wg Z<|wn Z<|aG<|wq<|wm Z<|wy (dI Z)<|wm Z<|aC Z Z<|wm Z<|aC Z Z ?_;refine wy (dI Z)<|wy (aR Z Z)<|aA<|aL Z<|aJ<|aG<|bT mixed<|wD 0 Z (aN Z)<|wD 1 Z (aN Z)<|wD 2 Z (aH ai sz5 Z Z (rdr 2 Z))<|wD 3 Z (aX cz Z Z (rdr 2 Z))<|wD 4 Z (iV cz ak Z)<|wD 5 Z (aN Z)<|wD 6 Z (aH ai sz5 Z Z (rdr 2 Z))<|wD 7 Z (aX cz Z Z (rdr 2 Z)) ?_;refine wD 8 Z (iV cz ak Z)<|wD 9 Z (aN Z)<|wD 10 Z (aH ai sz5 Z Z (rdr 2 Z))<|wD 11 Z (aX cz Z Z (rdr 2 Z))<|wD 12 Z (iV cz ak Z)<|wD 13 Z (aN Z)<|wD 14 Z (dU (v:= .agg #[I (rd (((u).drop (5:Int).toNat).take (3:Int).toNat) 0),I (rd (((u).drop (5:Int).toNat).take (3:Int).toNat) 1),I (rd (((u).drop (5:Int).toNat).take (3:Int).toNat) 2),I sz]) Z (λw=>cA))<|wD 15 rfl (aD rfl)<|wD 16 rfl (aB (off:=1) (m:=1) gm rfl gG rfl rfl rfl)<|pQ 17 rfl cA (JY (j:=1) (r:=(rc 87 10 g [PG gc,I p0,I p1,I p2,I p3,I ms,I tt,I ls,sl At nt ct,sl none 0 0])) (vs:=[I (rd (((u).drop (5:Int).toNat).take (3:Int).toNat) 0),I (rd (((u).drop (5:Int).toNat).take (3:Int).toNat) 1),I (rd (((u).drop (5:Int).toNat).take (3:Int).toNat) 2),I sz]) 0 rfl rfl rfl gG rfl (by simp[pat,Addr.add]) rfl rfl (by intro v hv;simp at hv;rcases hv with rfl|rfl|rfl|rfl<;>rfl) (au rfl)) ?_;rintro _ _ rfl;refine⟨.inl cA,?_⟩;refine wN<|wq<|wm Z<|wy (aD Z)<|wy (aB (off:=1) (m:=1) gm Z gG Z Z Z)<|wy (dN (vs:=[I (rd (((u).drop (5:Int).toNat).take (3:Int).toNat) 0),I (rd (((u).drop (5:Int).toNat).take (3:Int).toNat) 1),I (rd (((u).drop (5:Int).toNat).take (3:Int).toNat) 2),I sz]) (rdr 0 Z) df Z gG Z Z (au Z) Z)<|wa (aF aQd Z (zT (by rw[Ru];exact ue) (by rw[Lo,wj];exact Pr))) ?_;rintro _ _ ⟨rfl,rfl⟩;refine wn Z<|aT [0,1] 4 cC Z ?_;refine⟨_,Z,?_⟩;rw[Ru,Lo,wj];exact⟨Z,Z⟩
end Go.Proofs.YtdbebmmhdefgdaaGreat
namespace Go.Pure
open Go Go.Eng
variable {x b l C:List Int} {m:Nat} {low size total o y i:Int}
def rA (l:List Int):Int:=l.foldl (λa d=>a*256+d) 0
theorem BI (l:List Int) (d:Int):rA (l++[d])=rA l*256+d:=by unfold rA;rw[Fu];rfl
theorem aHg (h:m<x.length):rA (x.take (m+1))=rA (x.take m)*256+rd x (m:Int):=by
 have e:=dD (j:=(m:Int)) (show(0:Int)<=m by omega) (show(m:Int)<x.length by omega);rw[show((m:Int)+1).toNat=m+1 by omega,az] at e;rw[e,BI]
theorem UD: ∀(k:Nat) (N:Int),0<=N->N<256^k->rA (beL k N)=N
 |0,N,h0,h1=>by rw[vv] at h1;show(0:Int)=N;omega
 |k+1,N,h0,h1=>by
  rw[xe] at h1;rw[beL,BI,UD k (N/256) G (yh G h1)];omega
theorem aQo (N:Int) (m:Nat):N/256/256^m=N/256^(m+1):=by
 rw[xe,Cj,Int.ediv_ediv_of_nonneg G]
theorem XA (a:Nat): ∀(m:Nat) (N:Int),(beL (a+m) N).take a=beL a (N/256^m)
 |0,N=>by rw[vv,Int.ediv_one,qa];exact bn (by rw[kP];exact dh _)
 |m+1,N=>by
  rw[show a+(m+1)=(a+m)+1 by omega,beL,Dv (by rw[kP];omega),XA a m (N/256),aQo]
theorem yS: ∀(k:Nat) (l:List Int),l.length=k->aO l->0<=rA l/\rA l<256^k
 |0,l,h,_=>by rw[ed h,vv];show(0:Int)<=0/\(0:Int)<1;omega
 | k+1,l,h,hb=>by
  have hl:(k:Int)<l.length:=G
  have e:l=l.take k++[rd l (k:Int)]:=by
   have e:=dD (j:=(k:Int)) (show(0:Int)<=k by omega) hl;rw[show((k:Int)+1).toNat=k+1 by omega,az,bn G] at e;exact e
  have ih:=yS k (l.take k) (by rw[ax];omega) (hb.take _);have hd:=hb.rd (k:Int);rw[e,BI,xe];omega
structure InC (s f:CdS):Prop where
 k:s.k<=f.k
 lo:s.N*256^(f.k-s.k)<=f.N
 hi:f.N+f.R<=(s.N+s.R)*256^(f.k-s.k)
theorem InC.refl (s:CdS):InC s s:=⟨dh _,by rw[Bc,vv,Ao];exact ky _,by rw[Bc,vv,Ao];exact ky _⟩
theorem InC.trans {a b c:CdS} (h:InC a b) (g:InC b c):InC a c:=by
 have hk:=h.k;have gk:=g.k;have e:c.k-a.k=(b.k-a.k)+(c.k-b.k):=G
 have hp:(0:Int)<=256^(c.k-b.k):=uq G;refine⟨G,?_,?_⟩
 ·rw [e,yw,<-ui];exact Hg (mg h.lo hp) g.lo
 ·rw [e,yw,<-ui];exact Hg g.hi (mg h.hi hp)
theorem aDo {s:CdS} (h:XP s) (hs:uV low size total):InC s (gN s low size total):=by
 obtain⟨r0,r1,n0,nr⟩:=h;obtain⟨f1,f2,f3,f4,f5⟩:=oU hs ⟨r0,r1⟩;unfold gN;generalize hq:s.R/total*size=R1 at*;generalize hl:s.R/total*low=x at*;generalize shN R1=j at*;have hp:(0:Int)<=256^j:=uq G;refine⟨by dsimp only;omega,?_,?_⟩
 ·show s.N*256^(s.k+j-s.k)<=(s.N+x)*256^j;rw[show s.k+j-s.k=j by omega];exact mg G hp
 ·show (s.N+x)*256^j+R1*256^j<=(s.N+s.R)*256^(s.k+j-s.k);rw[show s.k+j-s.k=j by omega,<-Iq];exact mg G hp
theorem SI (o:Int) (s:PpS) (x:Int):(jX o s x).cd=sO s.cd (tT o s) x:=by unfold jX aGk;split<;>(try split)<;>rfl
theorem aEj {o:Int}: ∀(l:List Int) (s:PpS),aCb l->LC s->InC s.cd (l.foldl (jX o) s).cd
 |[],s,_,_=>InC.refl _
 |x::l,s,hl,h=>by
  have hx:=hl x cD;have h1:=FM (o:=o) h hx.1 hx.2;have h2:=aEj (o:=o) l (jX o s x) (λy hy=>hl y (dw _ hy)) h1.1;rw[List.foldl_cons];refine InC.trans ?_ h2;rw[SI];exact aDo h.2.2 (lT (EI (o:=o) h) hx.1 hx.2)
theorem aTb {s f:CdS} (h:XP s) (hs:uV low size total) (hf:InC (gN s low size total) f) (hr:0<f.R):
  s.R/total*low<=f.N/256^(f.k-s.k)-s.N/\f.N/256^(f.k-s.k)-s.N<s.R/total*(low+size):=by
 obtain⟨hk,f8,Ow⟩:=hf;unfold gN at hk f8 Ow;dsimp only at hk f8 Ow;rw[Ir];generalize s.R/total*size=R1 at*;generalize s.R/total*low=x at*;generalize shN R1=j at*;have e:f.k-s.k=j+(f.k-(s.k+j)):=G
 have hp:(0:Int)<256^(f.k-s.k):=Dp G;rw[ui,<-yw,<-e] at f8;rw[<-Iq,ui,<-yw,<-e] at Ow;have h1:=(zo (a:=s.N+x) (b:=f.N) hp).2 f8;have h2:=yh (a:=f.N) (b:=s.N+x+R1) hp G;omega
theorem aPz (o:Int) (l m:List Int):encP o (l++m)=m.foldl (jX o) (encP o l):=by unfold encP;rw[Fu]
theorem aNn (h:aO b) {k:Nat} (hk:k<=(encP o (bL b)).cd.k):rA ((dJ b o).take (k+4))=(encP o (bL b)).cd.N/256^((encP o (bL b)).cd.k-k):=by
 have hc:=(zK (o:=o) (qM h)).1.2.2;unfold dJ;generalize (encP o (bL b)).cd=f at*;obtain⟨r0,r1,n0,nr⟩:=hc;rw[show f.k+4=(k+4)+(f.k-k) by omega,XA];refine UD _ _ (Dx n0 (uq G)) ?_;refine yh (Dp G) ?_;rw[<-yw,show k+4+(f.k-k)=f.k+4 by omega];omega
def cuC (x:List Int) (s:CdS):Int:=rA (x.take (s.k+4))-s.N
theorem aQv {C q:Int} (hq:0<q) (h1:q*low<=C) (h2:C<q*(low+size)):low<=C/q/\C/q<low+size:=
 ⟨(zo hq).2 (by rw[Cj];exact h1),yh hq (by rw[Cj];exact h2)⟩
structure rP (x:List Int) (cd:CdS) (C:List Int) (y:Int):Prop where
 lo:cd.R/aU C*aU (C.take y.toNat)<=cuC x cd
 hi:cuC x cd<cd.R/aU C*(aU (C.take y.toNat)+rd C y)
 c0:0<=cuC x cd
 c1:cuC x cd<4294967296
 v0:aU (C.take y.toNat)<=cuC x cd/(cd.R/aU C)
 v1:cuC x cd/(cd.R/aU C)<aU (C.take y.toNat)+rd C y
 len:(sO cd C y).k+4<=x.length
theorem aQw {r:List Int} (hb:aO b) (hl:bL b=l++y::r):rP (dJ b o) (encP o l).cd (tT o (encP o l)) y:=by
 have o7:=qM hb;have hy:=o7 y (by rw[hl];simp);have tx:aCb l:=λz hz=>o7 z (by rw[hl];exact Dt _ hz);have hsr:aCb r:=λz hz=>o7 z (by rw[hl];exact List.mem_append_right _ (dw _ hz));have cx:=(zK (o:=o) tx).1;have d4:=lT (EI (o:=o) cx) hy.1 hy.2;have h1:=FM (o:=o) cx hy.1 hy.2;have cm:=aEj (o:=o) r _ hsr h1.1;have hf:(encP o (bL b)).cd=(r.foldl (jX o) (jX o (encP o l) y)).cd:=by rw[hl,aPz];rfl
 have Mj:=(zK (o:=o) o7).1.2.2;rw[<-hf,SI] at cm;have hc:=cx.2.2;have hs:=aTb hc d4 cm (by have:=Mj.1;omega);have hk:(encP o l).cd.k<=(encP o (bL b)).cd.k:=((aDo hc d4).trans cm).k;have Uq:=aNn (o:=o) hb hk;have hcu:cuC (dJ b o) (encP o l).cd=(encP o (bL b)).cd.N/256^((encP o (bL b)).cd.k-(encP o l).cd.k)-(encP o l).cd.N:=by unfold cuC;rw[Uq]
 rw[<-hcu] at hs;have hfa:=oU d4 ⟨hc.1,hc.2.1⟩;have hc0:0<=cuC (dJ b o) (encP o l).cd:=G
 have hq:0<(encP o l).cd.R/aU (tT o (encP o l)):=G
 have hd:=aQv hq hs.1 hs.2;have Ft:=hs.2;rw[Ir] at Ft;exact⟨hs.1,hs.2,hc0,by have:=hc.2.1;omega,hd.1,hd.2,by unfold dJ;rw[kP];have:=cm.k;omega⟩
theorem LX {C:List Int} (h: ∀c∈C,1<=c) {i:Int} (i0:0<=i): ∀k:Nat,i+k<=C.length->aU (C.take i.toNat)<=aU (C.take (i+k).toNat)
 |0,_=>by rw[show i+((0:Nat):Int)=i by omega];exact ky _
 |k+1,hk=>by
  have ih:=LX h i0 k G;have e:=qN (l:=C) (i:=i+k) G G;have:=h _ (bH (L:=C) (k:=i+k) G G);rw[show i+((k+1:Nat):Int)=i+k+1 by omega];omega
theorem aTa {C:List Int} (h: ∀c∈C,1<=c) {v:Int} (i0:0<=i) (hi:i<=y) (hy:y<C.length) (g1:aU (C.take y.toNat)<=v) (hv:v<aU (C.take i.toNat)+rd C i):i=y:=by
 have e1:=qN (l:=C) i0 G;rcases Et hi with c|c
 ·have:=LX h (i:=i+1) G (y-i-1).toNat G;rw[show i+1+((y-i-1).toNat:Int)=y by omega] at this;omega
 ·exact c
theorem aSw (hb:aO b) (i0:0<=i) (hi:i<(bL b).length):rd (bL b) i=257↔i=(bL b).length-1:=by
 have hlen:((bL b).length:Int)=(bD 0 (bB aS b)).length+1:=by unfold bL;rw[ah,ic];omega
 constructor
 ·intro h;rcases ay i (bD 0 (bB aS b)).length with c|c
  ·exfalso;unfold bL at h;rw[jH i0 c] at h;have:=ED (bB aS b) 0 (mW hb) _ (bH i0 c);omega
  ·omega
 ·intro h;unfold bL;rw[fZ G,show i-(bD 0 (bB aS b)).length=0 by omega];rfl
theorem AX (b:List Int):(bL b).take ((bL b).length-1)=bD 0 (bB aS b):=by
 unfold bL;rw[ah,ic,Nat.add_sub_cancel,Aq]
theorem YG (i0:0<=i) (hi:i<(bL b).length):bL b=(bL b).take i.toNat++rd (bL b) i::(bL b).drop (i+1).toNat:=by
 conv=>lhs;rw[<-gq i.toNat (bL b),fM i0 hi]
theorem aUr {s:PpS} (hb:aO b) (hx:x=dJ b o) (hS:s=encP o ((bL b).take i.toNat)) (i0:0<=i) (hi:i<(bL b).length):rP x s.cd (tT o s) (rd (bL b) i):=by
 subst hx;subst hS;exact aQw hb (YG i0 hi)
theorem rP.w0 {s:PpS} (h:rP x s.cd (tT o s) y) (hk:s.cls*o=0):rP x s.cd s.c0 y:=by
 unfold tT at h;rwa[cu hk] at h
theorem rP.w1 {s:PpS} (h:rP x s.cd (tT o s) y) (hk:s.cls*o=1):rP x s.cd s.c1 y:=by
 unfold tT at h;rwa[bu G,cu hk] at h
theorem rP.w2 {s:PpS} (h:rP x s.cd (tT o s) y) (hk:s.cls*o=2):rP x s.cd s.c2 y:=by
 unfold tT at h;rwa[bu G,bu G] at h
theorem rP.tot {cd:CdS} (h:rP x cd C y) (cx:lJ C) (h0:0<=y) (hy:y<258):cuC x cd/(cd.R/aU C)<aU C/\1<=aU C/\aU C<=65536:=by
 have h1:=h.v1;have h2:=qO (i:=y) cx.2.1 h0 (by rw[cx.1];omega);have h3:=cx.2.2;omega
theorem bBi {cy p:Int} {acc q:List Int} (h:bkL cy (l.drop i.toNat) acc p=some q) (i0:0<=i) (hi:i<l.length):(0<=rd l i/\rd l i<257)/\
    ((2<=rd l i/\(acc.length:Int)+1<=cy/\bkL cy (l.drop (i+1).toNat) (acc++[rd l i-1]) 1=some q)\/
     (rd l i<2/\p<=cy/\(rd l i+1)*p<=cy-acc.length/\bkL cy (l.drop (i+1).toNat) (acc++List.replicate ((rd l i+1)*p).toNat 0) (p*2)=some q)):=by
  rw[fM i0 hi,bkL] at h;split at h
  · cases h
  · split at h
    · split at h
      · cases h
      · exact⟨G, .inl ⟨G,G,h⟩⟩
    · split at h
      · cases h
      · exact⟨G, .inr ⟨G,G,G,h⟩⟩
theorem WF {c M:Int} (hm:m<x.length) (h:c=rA (x.take m)-M):c*256+rd x (m:Int)=rA (x.take (m+1))-M*256:=by
 rw[aHg hm,h];omega
end Go.Pure
namespace Go.Eng
open Go Go.RowKit Go.Pure
section
variable {P:Program} {n:Nd} {B:Nat} {w0:World} {L:Env} {R:List Row} {ty:TypeId}
theorem wrap32 {x:Int} (h:0<=x/\x<4294967296):IntKind.u32.wrap x=x:=by
 simp[IntKind.wrap,IntKind.bits,IntKind.signed];omega
theorem wB {p:Int} (h:0<=p/\p<4294967296):(BitVec.ofInt 32 p).toNat=p.toNat:=by
 rw[Bu];have e:((2^32:Nat):Int)=4294967296:=rfl;rw[e,sj h.1 h.2]
theorem xM {x:Operand} {s d:TypeId} {j:IntKind} {p:Int} {td:TypeDesc} (dg:P.underlying s=some td) (hd:P.underlying d=some (.int .u32)) (hx:ev L x=some (.int j p)) (h:0<=p/\p<4294967296):Yl P n B w0 (.convert s d x) ty L R (.int .u32 p):=by
 have:=oM (P:=P) (n:=n) (B:=B) (w0:=w0) (R:=R) (ty:=ty) dg hd hx;rwa[wrap32 h] at this
theorem aGn (x m:Int) (h:0<=x*m/\x*m<4294967296) (j:IntKind) (k:Nat) (hk:k<=32) (hm:(2:Int)^k=m) (w:World):(Op.shift .shl .u32 x j (k:Int)).run P w= .ok (.int .u32 (x*m)) w:=by
 have hn: ¬((k:Int)<0):=G
 have hb:min (k:Int).toNat (IntKind.bits .u32)=k:=by
  have:IntKind.bits .u32=32:=rfl;omega
 unfold Op.shift;simp only[hn,hb,wu,hm,wrap32 h];rfl
theorem DX {x y:Operand} {t u:TypeId} {a m:Int} {j:IntKind} {k:Nat} (hx:ev L x=some (.int .u32 a)) (hy:ev L y=some (.int j (k:Int))) (hm:(2:Int)^k=m) (h:0<=a*m/\a*m<4294967296) (hk:Nat.ble k 32=true):Yl P n B w0 (.binOp .shl t x y u) ty L R (.int .u32 (a*m)):=by
 intro a' w o ho _ hs _;simp[execOp,ho,hs.ev hx,hs.ev hy,binOp,eqGuard,aGn a m h j k (au hk) hm]
theorem aMa (p q:Int) (k:Nat) (m:Int) (hm:(2:Int)^k=m) (h:0<=p/\p*m+q<4294967296) (hq:0<=q/\q<m) (w:World):(Op.intBits .or .u32 q (p*m)).run P w= .ok (.int .u32 (q+p*m)) w:=by
 show Result.ok (Value.int .u32 (IntKind.u32.wrap ((BitVec.ofInt 32 q|||BitVec.ofInt 32 (p*m)).toNat:Int))) w=_;have Ux:0<=p*m:=zh h.1 G;rw[BitVec.or_comm,Il,wB G,wB G]
 have e1:(p*m).toNat=2^k*p.toNat:=by
  have:p*m=((2^k*p.toNat:Nat):Int):=by
   rw[zy,ou h.1,Dy,<-hm,Cj];rfl
  rw[this,az]
 have e2:q.toNat<2^k:=by
  have:((2^k:Nat):Int)=m:=by rw[<-hm,Dy];rfl
  omega
 rw[e1,<-En e2,<-e1];rw[show(((p*m).toNat+q.toNat:Nat):Int)=q+p*m by omega,wrap32 G]
theorem OO {x y:Operand} {t u:TypeId} {p q m:Int} (k:Nat) (hx:ev L x=some (.int .u32 q)) (hy:ev L y=some (.int .u32 (p*m))) (hm:(2:Int)^k=m) (h:0<=p/\p*m+q<4294967296) (hq:0<=q/\q<m):Yl P n B w0 (.binOp .or t x y u) ty L R (.int .u32 (q+p*m)):=by
 intro a w o ho _ hs _;simp[execOp,ho,binOp,eqGuard,hs.ev hx,hs.ev hy,aMa p q k m hm h hq]
theorem tX {w:World} (base:Nat) (t tn ty e:TypeId) (kn:IntKind) (i:TypeInfo) (z:Value) (bytes:Nat) (ht:P.underlying t=some (.slice e)) (Lw:P.underlying tn=some (.int kn)) (hi:P.info? e=some i) (hz:i.zero=some z)
  (Jl:i.size=1) (Kn:i.bytes=bytes) (Nb:z.cells= #[z]) (tz:z.oneCell'=true) (v:Value) (n:Nat) (xs:List Value) (du:w.ownsRow base e 1 v n xs) (m:Nat) (h0:0<m) (Sr:n+m<=maxLen) (gs:(n+m)*bytes<=140737488355328) (Om:base<=w.heap.size):
  ∃v' w',(Builtin.append_ #[t,tn] ty #[v, .int .i64 (m:Int)]).run P w= .ok v' w'/\w'.ownsRow base e 1 v' (n+m) (xs++List.replicate m z)/\w.grownBy w' v.ownBlock/\(v'.ownBlock=v.ownBlock\/v'.ownBlock=some w.heap.size):=by
 subst Kn;have oa:n+m<=9223372036854775807:=by simp only[maxLen] at Sr;omega
 have hl:(List.replicate m z).length=m:=bq;have hlen:(xs++List.replicate m z).length=(n+m)*1:=by rw[ah,du.1,hl];omega
 have Sd: ∀q,(Builtin.zeroCells z.cells q).toList=List.replicate q z:=λq=>by
  rw[Nb];refine ve (by simp[Builtin.zeroCells]) λi h1 h2=> ?_;simp[Builtin.zeroCells,Nat.mod_one]
 have ua:Builtin.zeroCells z.cells m=(List.replicate m z).toArray:=by rw[<-Sd m]
 have qq:m≠0:=G
 have hw:IntKind.i64.wrap (m:Int)=m:=by rw[Av];omega
 have Fc: ¬((m:Int)<0):=G
 have Ms:m*i.bytes<=(n+m)*i.bytes:=ug _ G
 have Nv: ¬(281474976710656<(m:Int)*(i.bytes:Int)):=by
  rw[<-zy];omega
 have grown: ∀(old:Nat),old<n+m-> ∀(row:Option Nat),
   (w.drew.alloc (.cells (xs.toArray++Builtin.zeroCells z.cells m++Builtin.zeroCells z.cells (grownCap w (n+m) old e-(n+m))) e)).ownsRow base e 1 (.slice (some ⟨w.heap.size,0,none⟩) (n+m) (grownCap w (n+m) old e)) (n+m) (xs++List.replicate m z)/\
   w.grownBy (w.drew.alloc (.cells (xs.toArray++Builtin.zeroCells z.cells m++Builtin.zeroCells z.cells (grownCap w (n+m) old e-(n+m))) e)) row:=by
  intro old ho row;have l8:=grownCap_ge w (n+m) old e;have pj:grownCap w (n+m) old e<=maxLen:=Fj w (n+m) old e Sr;have hx1:=du.1;refine⟨⟨hlen, .inr ⟨w.heap.size,_,_,rfl,Om,heap_alloc_new w.drew _,l8,pj,?_,?_⟩⟩,⟨rfl,rfl,rfl,cD,λk hk _=>by first|exact heap_alloc_old w.drew _ k hk|exact heap_alloc_old w.drew _ hk⟩⟩
  ·rw [<-jl,um,um,ah,ah,Sd,Sd,bq,bq];show xs.length+m+_=_;omega
  ·rw [um,um,Sd,<-hlen];exact Aq
 rcases du.2 with⟨rfl,rfl⟩|⟨g,cap,cur,rfl,hbg,hg,hnc,pj,hcs,htake⟩
 ·have hx:xs=[]:=ed (by simpa using du.1);subst hx;have hr:=Lib.run_append_nil_zeros (P:=P) w t tn ty e i z .i64 kn ht Lw hi hz m h0 G G G;have Mk:=grown 0 G (Value.ownBlock (.slice none 0 0));simp only[ni,jb,Array.empty_append] at Mk ⊢;exact⟨_,_,hr,Mk.1,Mk.2,Or.inr rfl⟩
 ·by_cases mv:n+m<=cap
  ·have vi:n*1+(List.replicate m z).length<=cur.size:=by rw[hl,hcs];omega
   have ee:=run_storeCells_at P g (n*1) e (List.replicate m z) 0 cur w hg (by simpa using vi) (λu hu=>by rw[List.eq_of_mem_replicate hu];exact tz);simp only[qa] at ee
   have hr:(Builtin.append_ #[t,tn] ty #[.slice (some ⟨g,0,none⟩) n cap, .int .i64 (m:Int)]).run P w= .ok (.slice (some ⟨g,0,none⟩) (n+m) cap) (w.setRow g (cur.toList.take (n*1)++List.replicate m z++cur.toList.drop (n*1+(List.replicate m z).length)).toArray):=by
    simp only[qy] at ee;simp[Builtin.append_,lq ht,lq Lw,sizeOf,typeInfo,zeroValue,hi,hz,asInt,asIntOf,hw,qq,Fc,Nv,Jl,mv,ua,Addr.add_lit,ee]
   refine⟨_,_,hr,⟨hlen, .inr ⟨g,cap,_,rfl,hbg,Jh w g cur _ e _ hg,mv,pj,?_,?_⟩⟩,⟨rfl,rfl,rfl,cD,λk _ hk=>Ij w g k _ (λe=>hk (by simp[Value.ownBlock,e]))⟩,Or.inl rfl⟩
   ·simp only[pz,ah,ax,bg,jl];omega
   ·rw [htake,<-hlen];exact Aq
  ·have holds: ∀j u,xs[j]? =some u->w.cell? ((⟨g,0,none⟩:Addr).add j)=some u:=du.cells (g:=g) rfl;have Mj:=run_firstCells_some (P:=P) w.drew 1 n ⟨g,0,none⟩ n cap xs du.1 (by simpa using holds);have hn: ¬(n+m<=cap):=mv;have Ss: ¬(9223372036854775807<((n:Int)+(m:Int))):=G
   have Xc:=growslice_fits (old:=cap) G gs;have Sq: ¬(281474976710656<Builtin.nextslicecap (n+m) cap*i.bytes):=G
   have hr:(Builtin.append_ #[t,tn] ty #[.slice (some ⟨g,0,none⟩) n cap, .int .i64 (m:Int)]).run P w= .ok (.slice (some ⟨w.heap.size,0,none⟩) (n+m) (grownCap w (n+m) cap e)) (w.drew.alloc (.cells (xs.toArray++Builtin.zeroCells z.cells m++Builtin.zeroCells z.cells (grownCap w (n+m) cap e-(n+m))) e)):=by
    simp[Builtin.append_,lq ht,lq Lw,sizeOf,typeInfo,zeroValue,hi,hz,asInt,asIntOf,hw,qq,Fc,Nv,Jl,hn,Ss,Sq,Question.forced,Mj,newRow,grownCap]
   have Mk:=grown cap G (Value.ownBlock (.slice (some ⟨g,0,none⟩) n cap));exact⟨_,_,hr,Mk.1,Mk.2,Or.inr rfl⟩
theorem aSd {s x:Operand} {t tn e:TypeId} {bytes m:Nat} {kn k:IntKind} {A:Option Addr} {c q:Nat} {l:List Int} (i:Nat) (hi:R[i]? =some ⟨e,1,A,q,c,ints k l,false⟩) (ht:P.underlying t=some (.slice e)) (Lw:P.underlying tn=some (.int kn)) (co:(P.info? e).map (λi=>(i.zero,i.size,i.bytes))=some (some (.int k 0),1,bytes))
  (hs:ev L s=some (.slice A q c)) (hx:ev L x=some (.int .i64 (m:Int))) (h0:0<m) (Sr:q+m<=1000000) (gs:(q+m)*bytes<=140737488355328):
  Ac P n B w0 (.call {callee:= .builtin .append,args:= #[s,x],argTypes:= #[t,tn]}) ty L R (λv R'=> ∃A' c',v= .slice A' (q+m) c'/\R'=R.set i ⟨e,1,A',q+m,c',ints k (l++List.replicate m 0),false⟩):=by
 intro a w o K Q ho _ dg hp hk;obtain⟨i0,ar,ua⟩:=ib.1 co;simp only[xh] at ua;obtain⟨sf,tz,g7⟩:=ua;have hr:=hp.own _ (ek hi);have du:=Row.lies_w hr rfl;obtain⟨v',w',h2,h3,h4,h5⟩:=tX (P:=P) B t tn o.type e kn i0 (.int k 0) bytes ht Lw ar sf tz g7 rfl rfl _ q (ints k l) du m h0 (by unfold maxLen;omega) gs hp.base
 have l7: ∃A' c',v'= .slice A' (q+m) c':=by
  rcases h3.2 with⟨rfl,hn⟩|⟨g,cap,cur,rfl,_⟩
  ·exact⟨none,0,by rw[hn]⟩
  ·exact⟨_,cap,rfl⟩
 obtain⟨A',c',rfl⟩:=l7;have Vb:ints k l++List.replicate m (.int k 0)=ints k (l++List.replicate m 0):=by simp[ints]
 rw[Vb] at h3;unfold Oper.wp execOp;simp only[ho,resolve,invoke,builtin,jm,lv,jk,rf,kv,qi,dg.ev hs,dg.ev hx,h2,Oper.upon];refine hk _ w' _ ?_ ⟨A',c',rfl,rfl⟩;refine hp.upd hi h4 (FW _ _ _ _ h2) (λk hk=> ?_) ?_ (λa' ki=> ?_)
 ·cases hA:A with
  |none=>rw[hA] at hk;simp[Value.ownBlock] at hk
  |some a1=>rw[hA] at hk;simp only[Value.ownBlock,lm] at hk;exact⟨a1,rfl,hk⟩
 ·exact h3
 ·have By:A'=some a':=ki;subst By;rcases h5 with h5|h5
  ·cases hA:A with
   |none=>rw[hA] at h5;simp[Value.ownBlock] at h5
   |some a1=>rw[hA] at h5;simp only[Value.ownBlock,lm] at h5;exact .inl ⟨a1,rfl,h5.symm⟩
  ·simp only[Value.ownBlock,lm] at h5;exact .inr G
end
theorem aVq {x:Int} (h:0<=x/\x<4294967296):0+x/1%256*1+x/256%256*256+x/65536%256*65536+x/16777216%256*16777216=x:=G
end Go.Eng
namespace Go.Proofs.YtdbebmmhdefgdaaGreat
open Go Go.Eng Go.Pure
open Tryz
set_option maxRecDepth 100000
variable {B g n c:Nat} {w0:World} {R:List Row} {A:Option Addr} {x:List Int} {us cc r total:Int}
theorem sD {C:List Int} {y v0:Int} (hn:n=C.length) (cx:lJ C) (hy:0<=y/\y<258) (hv:aU (C.take y.toNat)<=v0/\v0<aU (C.take y.toNat)+rd C y):
  Ct Tryz.prog 301 #[PG g,I v0] B w0 ((rc 256 2 g [sl A n c,I (aU C)])::(ri 3 A n c C)::R) (λv R'=>v= .tuple #[I y,bt]/\R'=(rc 256 2 g [sl A n c,I (aU C)])::(ri 3 A n c C)::R):=by
 subst hn;have kc:=cx.1;have hpy:=cx.le.part hy.1 hy.2;have Ll:=qO (i:=y) cx.2.1 hy.1 G;refine fn2 Tryz.func301 Z Z Z ?_;refine wq<|wg Z<|wn Z<|aG<|wq<|wm Z<|wy (Yl.f (eO Z Z))<|wm Z<|aC Z Z<|wm Z<|aC Z Z<|wm Z ?_;refine aC Z Z<|wa (aF JD Z ((iB))) ?_;rintro _ _ ⟨rfl,rfl⟩;refine aC Z Z<|wy (Yl.f (jF Z Z))<|wy (aR Z Z)<|aA<|aL Z<|aJ<|aG<|aI ?_;refine dS (λ(i:Int) (x:Int)=>[(0,PG g),(1,I x),(4,I i)]) (λi x=>((rc 256 2 g [sl A C.length c,I (aU C)])::(ri 3 A C.length c C)::R)) (λi x=>(0<=i)/\(i<=y)/\(x=v0-aU (C.take i.toNat))) (λi x=>(y-i).toNat) ?_ ?_
 ·exact⟨0,v0,⟨G,G,(by rw[show aU (C.take (0:Int).toNat)=0 from rfl];omega)⟩,SA,λ_ h=>h⟩
 intro i x ⟨ar,ia,hx⟩;have hp:=cx.le.part ar G;refine aG<|wq<|wm Z<|wm Z<|wy (aD Z)<|wy (aB (off:=0) (m:=0) pu Z gW Z Z Z)<|wy (aK (rdr 0 Z) aa Z Z Z)<|wm Z<|wy (aH aa sz3 Z Z (rdr 1 Z))<|wy (aX ak Z Z (rdr 1 Z))<|wy (jF Z Z)<|aA<|bJ Z (λaq=> ?_) (λaq=> ?_)
 ·have da:i≠y:=by rintro rfl;omega
  refine aJ<|aI<|wq<|wm Z<|wm Z<|wy (aD Z)<|wy (aB (off:=0) (m:=0) pu Z gW Z Z Z)<|wy (aK (rdr 0 Z) aa Z Z Z)<|wm Z<|wy (aH aa sz3 Z Z (rdr 1 Z))<|wy (aX ak Z Z (rdr 1 Z))<|wS Z Z<|wn Z ?_;refine aM<|wm Z<|wA Z Z<|wn Z ?_;exact⟨i+1,x-(rd C i),⟨G,G,(by rw[qN ar G];omega)⟩,G,SA,λ_ h=>h⟩
 ·refine aZ<|wq<|wm Z<|wg Z<|wn Z<|bR (R1:=((rc 256 2 g [sl A C.length c,I (aU C)])::(ri 3 A C.length c C)::R)) (λ_ h=>h) ?_;refine⟨_,_,Z,Z,?_⟩;obtain rfl:i=y:=aTa cx.2.1 ar ia G hv.1 G;exact⟨Z,Z⟩
theorem oZ {M:Int} {m:Nat} (hn:n=x.length) (zd:aO x) (hN:x.length<=1000000) (hu:us=(m:Int)) (hc:cc=rA (x.take m)-M) (hb:0<=cc/\cc<4294967296) (hm:m<x.length):
  Ct Tryz.prog 327 #[PG g] B w0 ((rc 360 4 g [sl A n c,I us, .int .u64 cc, .int .u64 r])::(ru 5 A n c x)::R) (λv R'=>v=bt/\R'=(rc 360 4 g [sl A n c,I ((m+1:Nat):Int), .int .u64 (rA (x.take (m+1))-M*256), .int .u64 r])::(ru 5 A n c x)::R):=by
 subst hn;subst hu;have hbx:=zd.rd (m:Int);refine fn1 Tryz.func327 Z Z Z ?_;refine wq<|wn Z<|aG<|aG<|bT mixed<|wD 0 Z (aN Z)<|wD 1 Z (aD Z)<|wD 2 Z (aB (off:=1) (m:=1) nu Z sz3 Z Z Z)<|wD 3 Z (aK (rdr 0 Z) ak Z Z Z)<|wD 4 Z (aN Z)<|wD 5 Z (aD Z)<|wD 6 Z (aB (off:=0) (m:=0) nu Z dO Z Z Z)<|wD 7 Z (aK (rdr 0 Z) ai Z Z Z) ?_;refine wD 8 Z (aQ ai Z)<|wD 9 Z (Yl.f (jF Z Z))<|wN<|aL Z<|aJ<|aG<|bT mixed<|wD 0 Z (aN Z)<|wD 1 Z (aN Z)<|wD 2 Z (aD Z)<|wD 3 Z (aB (off:=2) (m:=2) nu Z dP Z Z Z)<|wD 4 Z (aK (rdr 0 Z) fo Z Z Z)<|wD 5 Z (wF (k:=8) (m:=256) Z Z Z G Z)<|wD 6 Z (aN Z)<|wD 7 Z (aD Z) ?_;refine wD 8 Z (aB (off:=0) (m:=0) nu Z dO Z Z Z)<|wD 9 Z (aK (rdr 0 Z) ai Z Z Z)<|wD 10 Z (aN Z)<|wD 11 Z (aD Z)<|wD 12 Z (aB (off:=1) (m:=1) nu Z sz3 Z Z Z)<|wD 13 Z (aK (rdr 0 Z) ak Z Z Z)<|wD 14 Z (aH ai sz5 Z Z (rdr 1 Z))<|wD 15 Z (aX cz Z Z (rdr 1 Z))<|wD 16 Z (iU cz fo Z)<|wD 17 Z (bCd (p:=cc) (m:=256) 8 Z Z Z G G)<|wD 18 Z (aD Z)<|wD 19 Z (aB (off:=2) (m:=2) nu Z dP Z Z Z)<|pQ 20 Z cA (bA 0 Z Z Z dP Z Z Z Z (au Z)) ?_;rintro _ _ rfl;refine⟨.inl cA,?_⟩;refine wN<|wq<|wm Z<|wy (aD Z)<|wy (aB (off:=1) (m:=1) nu Z sz3 Z Z Z)<|wy (aK (rdr 0 Z) ak Z Z Z)<|wA Z Z<|wy (aD Z)<|wy (aB (off:=1) (m:=1) nu Z sz3 Z Z Z)<|bX (bA 0 Z Z Z sz3 Z Z Z Z (au Z)) ?_;rintro _ _ rfl;refine aA<|wq<|wn Z<|bR (R1:=((rc 360 4 g [sl A x.length c,I (((m:Nat):Int)+1), .int .u64 (cc*256+rd x ((m:Nat):Int)), .int .u64 r])::(ru 5 A x.length c x)::R)) (λ_ h=>h) ?_;refine⟨_,Z,?_⟩;rw[WF hm hc];exact⟨Z,Z⟩
theorem IG {w:World} {ao:Option Addr} {ap an:Nat} {u:List Int} (am:Rd w ao ap an 1 (ints .u8 u)) (ac:aO u) (hN:u.length<=1000000) (h4:4<=u.length):
  Ct Tryz.prog 299 #[sl ao ap an] w.heap.size w [] (λv R'=> ∃g A c,v= .tuple #[PG g,bt]/\R'=[(rc 360 4 g [sl A u.length c,I ((cd0.k+4:Nat):Int), .int .u64 (cuC u cd0), .int .u64 cd0.R]),(ru 5 A u.length c u)]):=by
 obtain rfl:=am.lenI;refine fn2 Tryz.func299 Z Z Z ?_;have pd:=am.max;have gv:=yS 0 (u.take 0) (by rw[ax];omega) (ac.take _);have f9:=yS 1 (u.take 1) (by rw[ax];omega) (ac.take _);have hq2:=yS 2 (u.take 2) (by rw[ax];omega) (ac.take _);have Xy:=yS 3 (u.take 3) (by rw[ax];omega) (ac.take _);refine wq<|wg Z<|wn Z<|aG<|wq<|wm Z<|wy (aQ ai Z)<|wy (Yl.f (eO Z Z))<|aA<|aL Z<|aJ<|aG ?_;refine aM<|wm Z<|wa (aF VK Z (Ct.fresh (λw hw=>lG ((am.c _) w hw) hN))) ?_;rintro _ _ ⟨_,rfl,bx,br,rfl,rfl⟩;refine wy (dU (v:= .agg #[sl bx u.length br,I 0, .int .u64 0, .int .u64 4294967295]) Z (λw=>cA))<|wa (bY (sz:=4) rfl rfl) ?_;rintro _ _ ⟨dq,rfl,rfl⟩;refine wn Z<|aG<|wq<|wm Z<|aA<|aI<|qL 5<|dY<|wq<|wy (Yl.t (eO Z Z) cC)<|aA<|aG ?_;refine bO Z<|aJ<|aG<|aI<|aM<|wm Z<|wa (aF VL Z ((oZ (m:=0) (M:=0) Z ac hN Z Z (by first|exact⟨cC,cC⟩|(simp only[ni,Nat.reduceAdd,Ho,Hm];omega)) G))) ?_;rintro _ _ ⟨rfl,rfl⟩;refine aA<|aM<|wy (Yl.is (dG Z Z) Z)<|wm Z<|aA<|dY<|wq<|wy (Yl.t (eO Z Z) cC)<|aA<|aG<|bO Z<|aJ<|aG<|aI ?_;refine aM<|wm Z<|wa (aF VL Z ((oZ (m:=0+1) (M:=(0*256)) Z ac hN Z Z (by first|exact⟨cC,cC⟩|(simp only[ni,Nat.reduceAdd,Ho,Hm];omega)) G))) ?_;rintro _ _ ⟨rfl,rfl⟩;refine aA<|aM<|wy (Yl.is (dG Z Z) Z)<|wm Z<|aA<|dY<|wq<|wy (Yl.t (eO Z Z) cC)<|aA<|aG<|bO Z<|aJ<|aG<|aI ?_;refine aM<|wm Z<|wa (aF VL Z ((oZ (m:=0+1+1) (M:=(0*256*256)) Z ac hN Z Z (by first|exact⟨cC,cC⟩|(simp only[ni,Nat.reduceAdd,Ho,Hm];omega)) G))) ?_;rintro _ _ ⟨rfl,rfl⟩;refine aA<|aM<|wy (Yl.is (dG Z Z) Z)<|wm Z<|aA<|dY<|wq<|wy (Yl.t (eO Z Z) cC)<|aA<|aG<|bO Z<|aJ<|aG<|aI ?_;refine aM<|wm Z<|wa (aF VL Z ((oZ (m:=0+1+1+1) (M:=(0*256*256*256)) Z ac hN Z Z (by first|exact⟨cC,cC⟩|(simp only[ni,Nat.reduceAdd,Ho,Hm];omega)) G))) ?_;rintro _ _ ⟨rfl,rfl⟩;refine aA<|aM<|wy (Yl.is (dG Z Z) Z)<|wm Z<|aA<|dY<|wq<|wy (Yl.f (eO Z Z) cC)<|aA<|aG<|aL Z<|aZ<|wq ?_;refine wm Z<|wg Z<|wn Z<|bR (R1:=[(rc 360 4 dq [sl bx u.length br,I ((0+1+1+1+1:Nat):Int), .int .u64 (rA (u.take (0+1+1+1+1))-(0*256*256*256)*256), .int .u64 4294967295]),(ru 5 bx u.length br u)]) (λ_ h=>h) ?_;refine⟨_,_,Z,Z,?_⟩;exact⟨_,_,_,Z,Z⟩
theorem BN (hn:n=x.length) (ht:1<=total/\total<=65536) (hr:16777216<=r/\r<4294967296) (hc:0<=cc/\cc<4294967296) (hv:cc/(r/total)<total):
  Ct Tryz.prog 300 #[PG g,I total] B w0 ((rc 360 4 g [sl A n c,I us, .int .u64 cc, .int .u64 r])::(ru 5 A n c x)::R) (λv R'=>v= .tuple #[I (cc/(r/total)),bt]/\R'=(rc 360 4 g [sl A n c,I us, .int .u64 cc, .int .u64 r])::(ru 5 A n c x)::R):=by
 subst hn;have hq:256<=r/total:=(zo G).2 G;have Sb:0<=cc/(r/total):=Dx hc.1 G;refine fn2 Tryz.func300 Z Z Z ?_;refine wq<|wg Z<|wn Z<|aG<|wq<|wm Z<|wy (dA underlying332 Z Z)<|wm Z<|aC Z Z<|wm Z<|aC Z Z<|wy (Yl.f (eO Z Z)) ?_;refine wy (aR Z Z)<|wm Z<|aC Z Z<|wm Z<|aC Z Z<|wy (Yl.f (dV Z Z))<|wy (aR Z Z)<|aA<|aL Z<|aJ<|wq<|wm Z<|wy (aD Z)<|wy (aB (off:=3) (m:=3) nu Z dP Z Z Z) ?_;refine wy (aK (rdr 0 Z) fo Z Z Z)<|wm Z<|wy (iU ak fo Z)<|wy (ES Z Z G G)<|wn Z<|aG<|wq<|wm Z<|wy (Yl.f (bC Z Z))<|wm Z<|aC Z Z<|wm Z<|aC Z Z ?_;refine wy (aD Z)<|aC Z Z<|wy (aB (off:=2) (m:=2) nu Z dP Z Z Z)<|aC Z Z<|wy (aK (rdr 0 Z) fo Z Z Z)<|aC Z Z<|wm Z<|aC Z Z<|wy (ES Z Z G G)<|aC Z Z<|wm Z<|aC Z Z<|wy (iU ak fo Z)<|aC Z Z<|wy (Yl.f (jF Z Z)) ?_;refine wy (aR Z Z)<|aA<|aL Z<|aJ<|wq<|wm Z<|wy (aD Z)<|wy (aB (off:=2) (m:=2) nu Z dP Z Z Z)<|wy (aK (rdr 0 Z) fo Z Z Z)<|wm Z<|wy (ES Z Z G G)<|wy (iV fo ak Z)<|wg Z<|wg Z ?_;refine aA<|bR (R1:=((rc 360 4 g [sl A x.length c,I us, .int .u64 cc, .int .u64 r])::(ru 5 A x.length c x)::R)) (λ_ h=>h) ?_;refine⟨_,_,Z,Z,?_⟩;exact⟨Z,Z⟩
set_option maxHeartbeats 1000000 in
theorem AU {s:CdS} {low size:Int} (hn:n=x.length) (zd:aO x) (hN:x.length<=1000000) (hs:16777216<=s.R/\s.R<4294967296) (d4:uV low size total) (f8:s.R/total*low<=cuC x s) (Ow:cuC x s<s.R/total*(low+size)) (hlen:(gN s low size total).k+4<=x.length):
  Ct Tryz.prog 302 #[PG g,I low,I size,I total] B w0 ((rc 360 4 g [sl A n c,I ((s.k+4:Nat):Int), .int .u64 (cuC x s), .int .u64 s.R])::(ru 5 A n c x)::R) (λv R'=>v=bt/\R'=(rc 360 4 g [sl A n c,I (((gN s low size total).k+4:Nat):Int), .int .u64 (cuC x (gN s low size total)), .int .u64 ((gN s low size total).R)])::(ru 5 A n c x)::R):=by
 subst hn;have Ls:=d4;obtain⟨s1,s2,s3,s4⟩:=Ls;obtain⟨f1,f2,f3,f4,f5⟩:=oU d4 hs;have hms:=Ir (s.R/total) low size;have hln:s.k+shN (s.R/total*size)+4<=x.length:=hlen;refine fn1 Tryz.func302 Z Z Z ?_;refine wq<|wn Z<|aG<|wq<|wm Z<|wy (dA underlying332 Z Z)<|wm Z<|aC Z Z<|wm Z<|aC Z Z<|wm Z<|aC Z Z ?_;refine wm Z<|aC Z Z<|wa (aF aYa Z (Ct.quiet (λw hw=>DD d4))) ?_;rintro _ _ ⟨rfl,rfl⟩;refine aC Z Z<|wy (dI Z)<|wy (aR Z Z)<|aA<|aL Z<|aJ<|wq<|wm Z<|wy (aD Z)<|wy (aB (off:=3) (m:=3) nu Z dP Z Z Z)<|wy (aK (rdr 0 Z) fo Z Z Z)<|wm Z<|wy (iU ak fo Z)<|wy (ES Z Z G G) ?_;refine wn Z<|aG<|wq<|wm Z<|wy (aD Z)<|wy (aB (off:=2) (m:=2) nu Z dP Z Z Z)<|wy (aK (rdr 0 Z) fo Z Z Z)<|wm Z<|wm Z<|wy (iU ak fo Z)<|wy (wH Z Z G)<|wy (Yl.f (eO Z Z))<|wm Z ?_;refine aC Z Z<|wm Z<|aC Z Z<|wy (aD Z)<|aC Z Z<|wy (aB (off:=2) (m:=2) nu Z dP Z Z Z)<|aC Z Z<|wy (aK (rdr 0 Z) fo Z Z Z)<|aC Z Z<|wm Z<|aC Z Z<|wm Z<|aC Z Z<|wm Z<|aC Z Z ?_;refine wA Z Z<|aC Z Z<|wy (iU ak fo Z)<|aC Z Z<|wy (wH Z Z G)<|aC Z Z<|wy (Yl.f (jF Z Z))<|wy (aR Z Z)<|aA<|aL Z<|aJ<|wq<|wm Z<|wy (aD Z) ?_;refine wy (aB (off:=2) (m:=2) nu Z dP Z Z Z)<|wy (aK (rdr 0 Z) fo Z Z Z)<|wm Z<|wm Z<|wy (iU ak fo Z)<|wy (wH Z Z G)<|wy (aYu Z Z G)<|wy (aD Z)<|wy (aB (off:=2) (m:=2) nu Z dP Z Z Z)<|bX (bA 0 Z Z Z dP Z Z Z Z (au Z)) ?_;rintro _ _ rfl;refine aA<|aG<|wq<|wm Z<|wm Z<|wm Z<|wy (iU ak fo Z)<|wy (wH Z Z G)<|wy (aD Z)<|wy (aB (off:=3) (m:=3) nu Z dP Z Z Z)<|bX (bA 0 Z Z Z dP Z Z Z Z (au Z)) ?_;rintro _ _ rfl;refine aA<|aI ?_;refine EB (λ(j:Nat) (cc:Int) (r:Int) (M:Int)=>[(0,PG g)]) (λj cc r M=>((rc 360 4 g [sl A x.length c,I ((s.k+j+4:Nat):Int), .int .u64 cc, .int .u64 r])::(ru 5 A x.length c x)::R)) (λj cc r M=>(M=(s.N+s.R/total*low)*256^j)/\(r=(s.R/total*size)*256^j)/\(j<=shN (s.R/total*size))/\(cc=rA (x.take (s.k+j+4))-M)/\(0<=cc/\cc<r)) (λj cc r M=>(4-j)) ?_ ?_
 ·exact⟨0,(cuC x s-s.R/total*low),(s.R/total)*size,(s.N+s.R/total*low),⟨(by rw[vv,Ao]),(by rw[vv,Ao]),(uh _),(by show cuC x s-s.R/total*low=rA (x.take (s.k+4))-_;unfold cuC;omega),G⟩,SA,λ_ h=>h⟩
 intro j cc r M ⟨hM,hr,hj,hc,hb⟩;have tx:=FP (s.R/total*size);have Vd:1<=r:=by rw[hr];exact GQ G
 refine aG<|wq<|wm Z<|wy (aD Z)<|wy (aB (off:=3) (m:=3) nu Z dP Z Z Z)<|wy (aK (rdr 0 Z) fo Z Z Z)<|wL Z Z<|aA<|bJ Z (λaq=> ?_) (λaq=> ?_)
 ·have hj2:j+1<=shN (s.R/total*size):=FO G hj (by rw[<-hr];assumption);have ie:=WF (x:=x) (m:=s.k+j+4) G hc;have hbx:=zd.rd ((s.k+j+4:Nat):Int);have wc:0<=rA (x.take (s.k+j+4+1))-M*256/\rA (x.take (s.k+j+4+1))-M*256<r*256:=G
  refine aJ<|aG<|aI<|wq<|wm Z<|wa (aF VL Z ((oZ (m:=(s.k+j+4)) (M:=M) Z zd hN Z hc G G))) ?_;rintro _ _ ⟨rfl,rfl⟩;refine wy (dI Z)<|aA<|aL Z<|aJ<|aM<|wm Z<|wy (aD Z)<|wy (aB (off:=3) (m:=3) nu Z dP Z Z Z)<|wy (aK (rdr 0 Z) fo Z Z Z)<|wy (wF (k:=8) (m:=256) Z Z Z G Z)<|wy (aD Z)<|wy (aB (off:=3) (m:=3) nu Z dP Z Z Z)<|bX (bA 0 Z Z Z dP Z Z Z Z (au Z)) ?_;rintro _ _ rfl;refine aA ?_;exact⟨(j+1),(rA (x.take (s.k+j+4+1))-M*256),r*256,(M*256),⟨(by rw[hM,ui,<-xe]),(by rw[hr,ui,<-xe]),(hj2),(Z),(wc)⟩,G,SA,λ_ h=>h⟩
 ·refine aZ<|wq<|wn Z<|bR (R1:=((rc 360 4 g [sl A x.length c,I ((s.k+j+4:Nat):Int), .int .u64 cc, .int .u64 r])::(ru 5 A x.length c x)::R)) (λ_ h=>h) ?_;refine⟨_,Z,?_⟩;obtain rfl:j=shN (s.R/total*size):=OY G hj (by rw[<-hr];omega);rw[hc,hr,hM];exact⟨Z,Z⟩
variable {w:World} {zc:Option Addr} {u9 zp:Nat} {x b:List Int} {o cy:Int}
set_option maxHeartbeats 4000000 in
theorem OW (js:Rd w zc u9 zp 1 (ints .u8 x)) (hx:x=dJ b o) (ce:aO b) (ho:o=0\/o=1) (hN:b.length<=100000) (hm:(b.length:Int)<=cy):
  Ct Tryz.prog 272 #[sl zc u9 zp,I o,I cy] w.heap.size w [] (λv R'=> ∃A c,v= .tuple #[sl A (bD 0 (bB aS b)).length c,bt]/\R'=[(ri 3 A ((bD 0 (bB aS b)).length) c (bD 0 (bB aS b)))]):=by
 obtain rfl:=js.lenI;refine fn2 Tryz.func272 Z Z Z ?_;have Vw:=js.max;have o7:=qM ce;have Gk:x.length<=2*b.length+6:=by rw[hx];exact oF ce
 have Yg:4<=x.length:=by rw[hx];unfold dJ;rw[kP];omega
 have un:(bL b).length=(bD 0 (bB aS b)).length+1:=by unfold bL;rw[ah];rfl
 have Qg:=oQ (bB aS b) 0;rw[iL] at Qg;refine wq<|wg Z<|wn Z<|wq<|wm Z<|wa (aF bDm Z (Ct.fresh (λw hw=>IG ((js.c _) w hw) (by rw[hx];exact gB _ _) G Yg))) ?_;rintro _ _ ⟨_,rfl,al,dj,dp,rfl,rfl⟩;refine wm Z<|wX Z Z<|wX Z Z<|wg Z<|wn Z<|wq<|wm Z<|wa (aF aYh Z (Ct.fresh (λw hw=>NA))) ?_;rintro _ _ ⟨_,rfl,dy,gh,fm,ft,gw,fc,bc,bh,cg,cj,rfl,rfl⟩;refine wn Z<|wq<|dH (R1:=[(ri 3 none 0 0 ([])),(rc 250 5 dy [PG gh,PG fm,PG ft,I 0,I o]),(rc 256 2 gh [sl gw 258 bh,I 258]),(ri 3 gw 258 bh wY),(rc 256 2 fm [sl fc 258 cg,I 258]),(ri 3 fc 258 cg wY),(rc 256 2 ft [sl bc 258 cj,I 258]),(ri 3 bc 258 cj wY),(rc 360 4 al [sl dj x.length dp,I ((cd0.k+4:Nat):Int), .int .u64 (cuC x cd0), .int .u64 cd0.R]),(ru 5 dj x.length dp x)]) (Sub.refl _) (λ_ h=>h.nil 3 1)<|wn Z<|aG<|aI ?_;refine nU (λ(i:Int) (A1:Option Addr) (n1:Nat) (c1:Nat) (acc:List Int) (Sx:PpS)=>[(2,I cy),(8,PG al),(9,bt),(10,PG dy),(11,sl A1 n1 c1)]) (λi A1 n1 c1 acc Sx=>[(ri 3 A1 n1 c1 acc),(rc 250 5 dy [PG gh,PG fm,PG ft,I Sx.cls,I o]),(rc 256 2 gh [sl gw 258 bh,I (aU Sx.c0)]),(ri 3 gw 258 bh Sx.c0),(rc 256 2 fm [sl fc 258 cg,I (aU Sx.c1)]),(ri 3 fc 258 cg Sx.c1),(rc 256 2 ft [sl bc 258 cj,I (aU Sx.c2)]),(ri 3 bc 258 cj Sx.c2),(rc 360 4 al [sl dj x.length dp,I ((Sx.cd.k+4:Nat):Int), .int .u64 (cuC x Sx.cd), .int .u64 Sx.cd.R]),(ru 5 dj x.length dp x)]) (λi A1 n1 c1 acc Sx=>(0<=i)/\(i<(bL b).length)/\((n1:Int)=i)/\(acc=(bL b).take i.toNat)/\(Sx=encP o ((bL b).take i.toNat))) (λi A1 n1 c1 acc Sx=>((bL b).length-i).toNat) ?_ ?_
 ·exact⟨0,none,0,0,[],pp0,⟨G,G,(Z),(Z),(Z)⟩,SA,λ_ h=>h⟩
 intro i A1 n1 c1 acc Sx ⟨ar,ia,dd,bb,hS⟩;have cm:=aEr o7 hS;have lf:=aUr ce hx hS ar ia;have hy:=o7 _ (bH (L:=bL b) (k:=i) ar G);have t6:=cm.1.2.2;have a8:16777216<=Sx.cd.R/\Sx.cd.R<4294967296:=⟨t6.1,t6.2.1⟩;have Tu:=aSw ce ar ia;refine aG<|wq<|wm Z<|wm Z<|aC Z Z<|wm Z<|aC Z Z<|wy (aQ aa Z)<|aC Z Z<|wm Z<|aC Z Z<|wy (Yl.t (vT Z Z) G)<|wy (aY Z Z)<|aA ?_;refine bO Z<|aJ<|aI<|wq ?_;rcases WQ cm.1 ho with hk|hk|hk
 ·refine wm Z<|wa (aF mG Z (Ct.at 1 Z (mU hk))) ?_;rintro _ _ ⟨rfl,rfl⟩;refine wa (aF JD Z (Ct.sub (R1:=[(rc 256 2 gh [sl gw 258 bh,I (aU Sx.c0)]),(ri 3 gw 258 bh Sx.c0),(ri 3 A1 n1 c1 acc),(rc 250 5 dy [PG gh,PG fm,PG ft,I Sx.cls,I o]),(rc 256 2 fm [sl fc 258 cg,I (aU Sx.c1)]),(ri 3 fc 258 cg Sx.c1),(rc 256 2 ft [sl bc 258 cj,I (aU Sx.c2)]),(ri 3 bc 258 cj Sx.c2),(rc 360 4 al [sl dj x.length dp,I ((Sx.cd.k+4:Nat):Int), .int .u64 (cuC x Sx.cd), .int .u64 Sx.cd.R]),(ru 5 dj x.length dp x)]) (λ_ h=>h.sel [2,3,0,1,4,5,6,7,8,9] cC Z) (iB))) ?_;rintro _ _ ⟨rfl,rfl⟩;refine wn Z<|wq<|wm Z<|wm Z<|wa (aF aQc Z (Ct.sub (R1:=[(rc 360 4 al [sl dj x.length dp,I ((Sx.cd.k+4:Nat):Int), .int .u64 (cuC x Sx.cd), .int .u64 Sx.cd.R]),(ru 5 dj x.length dp x),(rc 256 2 gh [sl gw 258 bh,I (aU Sx.c0)]),(ri 3 gw 258 bh Sx.c0),(ri 3 A1 n1 c1 acc),(rc 250 5 dy [PG gh,PG fm,PG ft,I Sx.cls,I o]),(rc 256 2 fm [sl fc 258 cg,I (aU Sx.c1)]),(ri 3 fc 258 cg Sx.c1),(rc 256 2 ft [sl bc 258 cj,I (aU Sx.c2)]),(ri 3 bc 258 cj Sx.c2)]) (λ_ h=>h.sel [8,9,0,1,2,3,4,5,6,7] cC Z) (BN Z ((lf.w0 hk).tot cm.1.1.1 hy.1 hy.2).2 a8 ⟨(lf.w0 hk).c0,(lf.w0 hk).c1⟩ ((lf.w0 hk).tot cm.1.1.1 hy.1 hy.2).1))) ?_;rintro _ _ ⟨rfl,rfl⟩;refine wm Z<|wX Z Z<|wX Z Z<|wg Z<|wn Z<|wq<|wm Z<|wa (aF mG Z (Ct.at 5 Z (mU hk))) ?_;rintro _ _ ⟨rfl,rfl⟩;refine wm Z<|wa (aF aQb Z (Ct.sub (R1:=[(rc 256 2 gh [sl gw 258 bh,I (aU Sx.c0)]),(ri 3 gw 258 bh Sx.c0),(rc 360 4 al [sl dj x.length dp,I ((Sx.cd.k+4:Nat):Int), .int .u64 (cuC x Sx.cd), .int .u64 Sx.cd.R]),(ru 5 dj x.length dp x),(ri 3 A1 n1 c1 acc),(rc 250 5 dy [PG gh,PG fm,PG ft,I Sx.cls,I o]),(rc 256 2 fm [sl fc 258 cg,I (aU Sx.c1)]),(ri 3 fc 258 cg Sx.c1),(rc 256 2 ft [sl bc 258 cj,I (aU Sx.c2)]),(ri 3 bc 258 cj Sx.c2)]) (λ_ h=>h.sel [2,3,0,1,4,5,6,7,8,9] cC Z) (sD (by rw[cm.1.1.1.1]) cm.1.1.1 hy ⟨(lf.w0 hk).v0,(lf.w0 hk).v1⟩))) ?_;rintro _ _ ⟨rfl,rfl⟩;refine wm Z<|wX Z Z<|wX Z Z<|wg Z<|wn Z<|wq<|wm Z<|wa (aF mG Z (Ct.at 5 Z (mU hk))) ?_;rintro _ _ ⟨rfl,rfl⟩;refine wm Z<|wa (aF NS Z (Ct.sub (R1:=[(rc 256 2 gh [sl gw 258 bh,I (aU Sx.c0)]),(ri 3 gw 258 bh Sx.c0),(rc 360 4 al [sl dj x.length dp,I ((Sx.cd.k+4:Nat):Int), .int .u64 (cuC x Sx.cd), .int .u64 Sx.cd.R]),(ru 5 dj x.length dp x),(ri 3 A1 n1 c1 acc),(rc 250 5 dy [PG gh,PG fm,PG ft,I Sx.cls,I o]),(rc 256 2 fm [sl fc 258 cg,I (aU Sx.c1)]),(ri 3 fc 258 cg Sx.c1),(rc 256 2 ft [sl bc 258 cj,I (aU Sx.c2)]),(ri 3 bc 258 cj Sx.c2)]) (λ_ h=>h) (jR (by rw[cm.1.1.1.1]) (by rw[cm.1.1.1.1];exact hy) cm.1.1.1))) ?_;rintro _ _ ⟨rfl,rfl⟩;refine wm Z<|wX Z Z<|wX Z Z<|wX Z Z<|wg Z<|wg Z<|wn Z<|wq<|wm Z<|wm Z<|aC Z Z<|wm Z<|wy (aY Z Z) ?_;refine wm Z<|aC Z Z<|wm Z<|aC Z Z<|wm Z<|aC Z Z<|wm Z<|aC Z Z<|wm Z<|aC Z Z<|wa (aF aQa Z (Ct.sub (R1:=[(rc 360 4 al [sl dj x.length dp,I ((Sx.cd.k+4:Nat):Int), .int .u64 (cuC x Sx.cd), .int .u64 Sx.cd.R]),(ru 5 dj x.length dp x),(rc 256 2 gh [sl gw 258 bh,I (aU Sx.c0)]),(ri 3 gw 258 bh Sx.c0),(ri 3 A1 n1 c1 acc),(rc 250 5 dy [PG gh,PG fm,PG ft,I Sx.cls,I o]),(rc 256 2 fm [sl fc 258 cg,I (aU Sx.c1)]),(ri 3 fc 258 cg Sx.c1),(rc 256 2 ft [sl bc 258 cj,I (aU Sx.c2)]),(ri 3 bc 258 cj Sx.c2)]) (λ_ h=>h.sel [2,3,0,1,4,5,6,7,8,9] cC Z) (AU Z (by rw[hx];exact gB _ _) G a8 (lT cm.1.1.1 hy.1 hy.2) (lf.w0 hk).lo (lf.w0 hk).hi (lf.w0 hk).len))) ?_;rintro _ _ ⟨rfl,rfl⟩;refine wy (aY Z Z)<|wn Z<|aG<|wq<|wm Z<|wm Z<|aC Z Z<|wm Z<|aC Z Z<|wy (bC Z Z)<|wy (aY Z Z)<|aA<|bJ Z (λaq=> ?_) (λaq=> ?_)
  ·refine wq<|wm Z<|wg Z<|wn Z<|bR (R1:=[(ri 3 A1 n1 c1 acc)]) (λ_ h=>h.sel [4] cC Z) ?_;refine⟨_,_,Z,Z,?_⟩;have Mm:=Tu.1 cF;have By:acc=bD 0 (bB aS b):=by rw[bb,show i.toNat=(bL b).length-1 by omega];exact AX b
   have ox:n1=(bD 0 (bB aS b)).length:=G
   rw[By,ox];exact⟨_,_,Z,Z⟩
  ·refine aJ<|wq<|wm Z<|wm Z<|wa (bS .i64 [rd (bL b) i] aa zs3 Z Z Z) ?_;rintro _ _ ⟨zr,rfl,rfl⟩;refine wa (bE 5 Z aa zb3 Z Z Z (rdr 0 Z)) ?_;rintro _ _ ⟨g8,i8,rfl,rfl⟩;refine bN (v:=sl g8 (n1+1) i8) Z<|wn Z<|aM<|wm Z<|wm Z<|wa (aF NR Z (Ct.sub (R1:=[(rc 250 5 dy [PG gh,PG fm,PG ft,I Sx.cls,I o]),(rc 256 2 gh [sl gw 258 bh,I (aU Sx.c0)]),(ri 3 gw 258 bh Sx.c0),(ri 3 (GG zr) 1 1 ([rd (bL b) i])),(rc 360 4 al [sl dj x.length dp,I (((gN Sx.cd (aU (Sx.c0.take (rd (bL b) i).toNat)) (rd Sx.c0 (rd (bL b) i)) (aU Sx.c0)).k+4:Nat):Int), .int .u64 (cuC x (gN Sx.cd (aU (Sx.c0.take (rd (bL b) i).toNat)) (rd Sx.c0 (rd (bL b) i)) (aU Sx.c0))), .int .u64 ((gN Sx.cd (aU (Sx.c0.take (rd (bL b) i).toNat)) (rd Sx.c0 (rd (bL b) i)) (aU Sx.c0)).R)]),(ru 5 dj x.length dp x),(ri 3 g8 (n1+1) i8 (acc++([rd (bL b) i]))),(rc 256 2 fm [sl fc 258 cg,I (aU Sx.c1)]),(ri 3 fc 258 cg Sx.c1),(rc 256 2 ft [sl bc 258 cj,I (aU Sx.c2)]),(ri 3 bc 258 cj Sx.c2)]) (λ_ h=>h.sel [6,3,4,0,1,2,5,7,8,9,10] cC Z) (FU hk (by rw[cm.1.1.1.1];exact hy) cm.1.1.1))) ?_;rintro _ _ ⟨rfl,rfl⟩;refine aA ?_;exact⟨(i+1),g8,n1+1,i8,acc++([rd (bL b) i]),(⟨lK Sx.c0 (rd (bL b) i),Sx.c1,Sx.c2,lF (rd (bL b) i),sO Sx.cd Sx.c0 (rd (bL b) i)⟩:PpS),⟨G,G,G,(by rw[dD ar G,<-bb]),(qQ hS ar G (aCu hk))⟩,G,SA,λ_ h=>h.sel [6,0,1,2,7,8,9,10,4,5] cC Z⟩
 ·refine wm Z<|wa (aF mG Z (Ct.at 1 Z (mR hk))) ?_;rintro _ _ ⟨rfl,rfl⟩;refine wa (aF JD Z (Ct.sub (R1:=[(rc 256 2 fm [sl fc 258 cg,I (aU Sx.c1)]),(ri 3 fc 258 cg Sx.c1),(ri 3 A1 n1 c1 acc),(rc 250 5 dy [PG gh,PG fm,PG ft,I Sx.cls,I o]),(rc 256 2 gh [sl gw 258 bh,I (aU Sx.c0)]),(ri 3 gw 258 bh Sx.c0),(rc 256 2 ft [sl bc 258 cj,I (aU Sx.c2)]),(ri 3 bc 258 cj Sx.c2),(rc 360 4 al [sl dj x.length dp,I ((Sx.cd.k+4:Nat):Int), .int .u64 (cuC x Sx.cd), .int .u64 Sx.cd.R]),(ru 5 dj x.length dp x)]) (λ_ h=>h.sel [4,5,0,1,2,3,6,7,8,9] cC Z) (iB))) ?_;rintro _ _ ⟨rfl,rfl⟩;refine wn Z<|wq<|wm Z<|wm Z<|wa (aF aQc Z (Ct.sub (R1:=[(rc 360 4 al [sl dj x.length dp,I ((Sx.cd.k+4:Nat):Int), .int .u64 (cuC x Sx.cd), .int .u64 Sx.cd.R]),(ru 5 dj x.length dp x),(rc 256 2 fm [sl fc 258 cg,I (aU Sx.c1)]),(ri 3 fc 258 cg Sx.c1),(ri 3 A1 n1 c1 acc),(rc 250 5 dy [PG gh,PG fm,PG ft,I Sx.cls,I o]),(rc 256 2 gh [sl gw 258 bh,I (aU Sx.c0)]),(ri 3 gw 258 bh Sx.c0),(rc 256 2 ft [sl bc 258 cj,I (aU Sx.c2)]),(ri 3 bc 258 cj Sx.c2)]) (λ_ h=>h.sel [8,9,0,1,2,3,4,5,6,7] cC Z) (BN Z ((lf.w1 hk).tot cm.1.1.2.1 hy.1 hy.2).2 a8 ⟨(lf.w1 hk).c0,(lf.w1 hk).c1⟩ ((lf.w1 hk).tot cm.1.1.2.1 hy.1 hy.2).1))) ?_;rintro _ _ ⟨rfl,rfl⟩;refine wm Z<|wX Z Z<|wX Z Z<|wg Z<|wn Z<|wq<|wm Z<|wa (aF mG Z (Ct.at 5 Z (mR hk))) ?_;rintro _ _ ⟨rfl,rfl⟩;refine wm Z<|wa (aF aQb Z (Ct.sub (R1:=[(rc 256 2 fm [sl fc 258 cg,I (aU Sx.c1)]),(ri 3 fc 258 cg Sx.c1),(rc 360 4 al [sl dj x.length dp,I ((Sx.cd.k+4:Nat):Int), .int .u64 (cuC x Sx.cd), .int .u64 Sx.cd.R]),(ru 5 dj x.length dp x),(ri 3 A1 n1 c1 acc),(rc 250 5 dy [PG gh,PG fm,PG ft,I Sx.cls,I o]),(rc 256 2 gh [sl gw 258 bh,I (aU Sx.c0)]),(ri 3 gw 258 bh Sx.c0),(rc 256 2 ft [sl bc 258 cj,I (aU Sx.c2)]),(ri 3 bc 258 cj Sx.c2)]) (λ_ h=>h.sel [2,3,0,1,4,5,6,7,8,9] cC Z) (sD (by rw[cm.1.1.2.1.1]) cm.1.1.2.1 hy ⟨(lf.w1 hk).v0,(lf.w1 hk).v1⟩))) ?_;rintro _ _ ⟨rfl,rfl⟩;refine wm Z<|wX Z Z<|wX Z Z<|wg Z<|wn Z<|wq<|wm Z<|wa (aF mG Z (Ct.at 5 Z (mR hk))) ?_;rintro _ _ ⟨rfl,rfl⟩;refine wm Z<|wa (aF NS Z (Ct.sub (R1:=[(rc 256 2 fm [sl fc 258 cg,I (aU Sx.c1)]),(ri 3 fc 258 cg Sx.c1),(rc 360 4 al [sl dj x.length dp,I ((Sx.cd.k+4:Nat):Int), .int .u64 (cuC x Sx.cd), .int .u64 Sx.cd.R]),(ru 5 dj x.length dp x),(ri 3 A1 n1 c1 acc),(rc 250 5 dy [PG gh,PG fm,PG ft,I Sx.cls,I o]),(rc 256 2 gh [sl gw 258 bh,I (aU Sx.c0)]),(ri 3 gw 258 bh Sx.c0),(rc 256 2 ft [sl bc 258 cj,I (aU Sx.c2)]),(ri 3 bc 258 cj Sx.c2)]) (λ_ h=>h) (jR (by rw[cm.1.1.2.1.1]) (by rw[cm.1.1.2.1.1];exact hy) cm.1.1.2.1))) ?_;rintro _ _ ⟨rfl,rfl⟩;refine wm Z<|wX Z Z<|wX Z Z<|wX Z Z<|wg Z<|wg Z<|wn Z<|wq<|wm Z<|wm Z<|aC Z Z<|wm Z<|wy (aY Z Z) ?_;refine wm Z<|aC Z Z<|wm Z<|aC Z Z<|wm Z<|aC Z Z<|wm Z<|aC Z Z<|wm Z<|aC Z Z<|wa (aF aQa Z (Ct.sub (R1:=[(rc 360 4 al [sl dj x.length dp,I ((Sx.cd.k+4:Nat):Int), .int .u64 (cuC x Sx.cd), .int .u64 Sx.cd.R]),(ru 5 dj x.length dp x),(rc 256 2 fm [sl fc 258 cg,I (aU Sx.c1)]),(ri 3 fc 258 cg Sx.c1),(ri 3 A1 n1 c1 acc),(rc 250 5 dy [PG gh,PG fm,PG ft,I Sx.cls,I o]),(rc 256 2 gh [sl gw 258 bh,I (aU Sx.c0)]),(ri 3 gw 258 bh Sx.c0),(rc 256 2 ft [sl bc 258 cj,I (aU Sx.c2)]),(ri 3 bc 258 cj Sx.c2)]) (λ_ h=>h.sel [2,3,0,1,4,5,6,7,8,9] cC Z) (AU Z (by rw[hx];exact gB _ _) G a8 (lT cm.1.1.2.1 hy.1 hy.2) (lf.w1 hk).lo (lf.w1 hk).hi (lf.w1 hk).len))) ?_;rintro _ _ ⟨rfl,rfl⟩;refine wy (aY Z Z)<|wn Z<|aG<|wq<|wm Z<|wm Z<|aC Z Z<|wm Z<|aC Z Z<|wy (bC Z Z)<|wy (aY Z Z)<|aA<|bJ Z (λcr=> ?_) (λcr=> ?_)
  ·refine wq<|wm Z<|wg Z<|wn Z<|bR (R1:=[(ri 3 A1 n1 c1 acc)]) (λ_ h=>h.sel [4] cC Z) ?_;refine⟨_,_,Z,Z,?_⟩;have Mm:=Tu.1 cF;have By:acc=bD 0 (bB aS b):=by rw[bb,show i.toNat=(bL b).length-1 by omega];exact AX b
   have ox:n1=(bD 0 (bB aS b)).length:=G
   rw[By,ox];exact⟨_,_,Z,Z⟩
  ·refine aJ<|wq<|wm Z<|wm Z<|wa (bS .i64 [rd (bL b) i] aa zs3 Z Z Z) ?_;rintro _ _ ⟨sv,rfl,rfl⟩;refine wa (bE 5 Z aa zb3 Z Z Z (rdr 0 Z)) ?_;rintro _ _ ⟨rp,rx,rfl,rfl⟩;refine bN (v:=sl rp (n1+1) rx) Z<|wn Z<|aM<|wm Z<|wm Z<|wa (aF NR Z (Ct.sub (R1:=[(rc 250 5 dy [PG gh,PG fm,PG ft,I Sx.cls,I o]),(rc 256 2 fm [sl fc 258 cg,I (aU Sx.c1)]),(ri 3 fc 258 cg Sx.c1),(ri 3 (GG sv) 1 1 ([rd (bL b) i])),(rc 360 4 al [sl dj x.length dp,I (((gN Sx.cd (aU (Sx.c1.take (rd (bL b) i).toNat)) (rd Sx.c1 (rd (bL b) i)) (aU Sx.c1)).k+4:Nat):Int), .int .u64 (cuC x (gN Sx.cd (aU (Sx.c1.take (rd (bL b) i).toNat)) (rd Sx.c1 (rd (bL b) i)) (aU Sx.c1))), .int .u64 ((gN Sx.cd (aU (Sx.c1.take (rd (bL b) i).toNat)) (rd Sx.c1 (rd (bL b) i)) (aU Sx.c1)).R)]),(ru 5 dj x.length dp x),(ri 3 rp (n1+1) rx (acc++([rd (bL b) i]))),(rc 256 2 gh [sl gw 258 bh,I (aU Sx.c0)]),(ri 3 gw 258 bh Sx.c0),(rc 256 2 ft [sl bc 258 cj,I (aU Sx.c2)]),(ri 3 bc 258 cj Sx.c2)]) (λ_ h=>h.sel [6,3,4,0,1,2,5,7,8,9,10] cC Z) (FT hk (by rw[cm.1.1.2.1.1];exact hy) cm.1.1.2.1))) ?_;rintro _ _ ⟨rfl,rfl⟩;refine aA ?_;exact⟨(i+1),rp,n1+1,rx,acc++([rd (bL b) i]),(⟨Sx.c0,lK Sx.c1 (rd (bL b) i),Sx.c2,lF (rd (bL b) i),sO Sx.cd Sx.c1 (rd (bL b) i)⟩:PpS),⟨G,G,G,(by rw[dD ar G,<-bb]),(qQ hS ar G (aCt hk))⟩,G,SA,λ_ h=>h.sel [6,0,7,8,1,2,9,10,4,5] cC Z⟩
 ·refine wm Z<|wa (aF mG Z (Ct.at 1 Z (mQ hk))) ?_;rintro _ _ ⟨rfl,rfl⟩;refine wa (aF JD Z (Ct.sub (R1:=[(rc 256 2 ft [sl bc 258 cj,I (aU Sx.c2)]),(ri 3 bc 258 cj Sx.c2),(ri 3 A1 n1 c1 acc),(rc 250 5 dy [PG gh,PG fm,PG ft,I Sx.cls,I o]),(rc 256 2 gh [sl gw 258 bh,I (aU Sx.c0)]),(ri 3 gw 258 bh Sx.c0),(rc 256 2 fm [sl fc 258 cg,I (aU Sx.c1)]),(ri 3 fc 258 cg Sx.c1),(rc 360 4 al [sl dj x.length dp,I ((Sx.cd.k+4:Nat):Int), .int .u64 (cuC x Sx.cd), .int .u64 Sx.cd.R]),(ru 5 dj x.length dp x)]) (λ_ h=>h.sel [6,7,0,1,2,3,4,5,8,9] cC Z) (iB))) ?_;rintro _ _ ⟨rfl,rfl⟩;refine wn Z<|wq<|wm Z<|wm Z<|wa (aF aQc Z (Ct.sub (R1:=[(rc 360 4 al [sl dj x.length dp,I ((Sx.cd.k+4:Nat):Int), .int .u64 (cuC x Sx.cd), .int .u64 Sx.cd.R]),(ru 5 dj x.length dp x),(rc 256 2 ft [sl bc 258 cj,I (aU Sx.c2)]),(ri 3 bc 258 cj Sx.c2),(ri 3 A1 n1 c1 acc),(rc 250 5 dy [PG gh,PG fm,PG ft,I Sx.cls,I o]),(rc 256 2 gh [sl gw 258 bh,I (aU Sx.c0)]),(ri 3 gw 258 bh Sx.c0),(rc 256 2 fm [sl fc 258 cg,I (aU Sx.c1)]),(ri 3 fc 258 cg Sx.c1)]) (λ_ h=>h.sel [8,9,0,1,2,3,4,5,6,7] cC Z) (BN Z ((lf.w2 hk).tot cm.1.1.2.2 hy.1 hy.2).2 a8 ⟨(lf.w2 hk).c0,(lf.w2 hk).c1⟩ ((lf.w2 hk).tot cm.1.1.2.2 hy.1 hy.2).1))) ?_;rintro _ _ ⟨rfl,rfl⟩;refine wm Z<|wX Z Z<|wX Z Z<|wg Z<|wn Z<|wq<|wm Z<|wa (aF mG Z (Ct.at 5 Z (mQ hk))) ?_;rintro _ _ ⟨rfl,rfl⟩;refine wm Z<|wa (aF aQb Z (Ct.sub (R1:=[(rc 256 2 ft [sl bc 258 cj,I (aU Sx.c2)]),(ri 3 bc 258 cj Sx.c2),(rc 360 4 al [sl dj x.length dp,I ((Sx.cd.k+4:Nat):Int), .int .u64 (cuC x Sx.cd), .int .u64 Sx.cd.R]),(ru 5 dj x.length dp x),(ri 3 A1 n1 c1 acc),(rc 250 5 dy [PG gh,PG fm,PG ft,I Sx.cls,I o]),(rc 256 2 gh [sl gw 258 bh,I (aU Sx.c0)]),(ri 3 gw 258 bh Sx.c0),(rc 256 2 fm [sl fc 258 cg,I (aU Sx.c1)]),(ri 3 fc 258 cg Sx.c1)]) (λ_ h=>h.sel [2,3,0,1,4,5,6,7,8,9] cC Z) (sD (by rw[cm.1.1.2.2.1]) cm.1.1.2.2 hy ⟨(lf.w2 hk).v0,(lf.w2 hk).v1⟩))) ?_;rintro _ _ ⟨rfl,rfl⟩;refine wm Z<|wX Z Z<|wX Z Z<|wg Z<|wn Z<|wq<|wm Z<|wa (aF mG Z (Ct.at 5 Z (mQ hk))) ?_;rintro _ _ ⟨rfl,rfl⟩;refine wm Z<|wa (aF NS Z (Ct.sub (R1:=[(rc 256 2 ft [sl bc 258 cj,I (aU Sx.c2)]),(ri 3 bc 258 cj Sx.c2),(rc 360 4 al [sl dj x.length dp,I ((Sx.cd.k+4:Nat):Int), .int .u64 (cuC x Sx.cd), .int .u64 Sx.cd.R]),(ru 5 dj x.length dp x),(ri 3 A1 n1 c1 acc),(rc 250 5 dy [PG gh,PG fm,PG ft,I Sx.cls,I o]),(rc 256 2 gh [sl gw 258 bh,I (aU Sx.c0)]),(ri 3 gw 258 bh Sx.c0),(rc 256 2 fm [sl fc 258 cg,I (aU Sx.c1)]),(ri 3 fc 258 cg Sx.c1)]) (λ_ h=>h) (jR (by rw[cm.1.1.2.2.1]) (by rw[cm.1.1.2.2.1];exact hy) cm.1.1.2.2))) ?_;rintro _ _ ⟨rfl,rfl⟩;refine wm Z<|wX Z Z<|wX Z Z<|wX Z Z<|wg Z<|wg Z<|wn Z<|wq<|wm Z<|wm Z<|aC Z Z<|wm Z<|wy (aY Z Z) ?_;refine wm Z<|aC Z Z<|wm Z<|aC Z Z<|wm Z<|aC Z Z<|wm Z<|aC Z Z<|wm Z<|aC Z Z<|wa (aF aQa Z (Ct.sub (R1:=[(rc 360 4 al [sl dj x.length dp,I ((Sx.cd.k+4:Nat):Int), .int .u64 (cuC x Sx.cd), .int .u64 Sx.cd.R]),(ru 5 dj x.length dp x),(rc 256 2 ft [sl bc 258 cj,I (aU Sx.c2)]),(ri 3 bc 258 cj Sx.c2),(ri 3 A1 n1 c1 acc),(rc 250 5 dy [PG gh,PG fm,PG ft,I Sx.cls,I o]),(rc 256 2 gh [sl gw 258 bh,I (aU Sx.c0)]),(ri 3 gw 258 bh Sx.c0),(rc 256 2 fm [sl fc 258 cg,I (aU Sx.c1)]),(ri 3 fc 258 cg Sx.c1)]) (λ_ h=>h.sel [2,3,0,1,4,5,6,7,8,9] cC Z) (AU Z (by rw[hx];exact gB _ _) G a8 (lT cm.1.1.2.2 hy.1 hy.2) (lf.w2 hk).lo (lf.w2 hk).hi (lf.w2 hk).len))) ?_;rintro _ _ ⟨rfl,rfl⟩;refine wy (aY Z Z)<|wn Z<|aG<|wq<|wm Z<|wm Z<|aC Z Z<|wm Z<|aC Z Z<|wy (bC Z Z)<|wy (aY Z Z)<|aA<|bJ Z (λfd=> ?_) (λfd=> ?_)
  ·refine wq<|wm Z<|wg Z<|wn Z<|bR (R1:=[(ri 3 A1 n1 c1 acc)]) (λ_ h=>h.sel [4] cC Z) ?_;refine⟨_,_,Z,Z,?_⟩;have Mm:=Tu.1 cF;have By:acc=bD 0 (bB aS b):=by rw[bb,show i.toNat=(bL b).length-1 by omega];exact AX b
   have ox:n1=(bD 0 (bB aS b)).length:=G
   rw[By,ox];exact⟨_,_,Z,Z⟩
  ·refine aJ<|wq<|wm Z<|wm Z<|wa (bS .i64 [rd (bL b) i] aa zs3 Z Z Z) ?_;rintro _ _ ⟨Nt,rfl,rfl⟩;refine wa (bE 5 Z aa zb3 Z Z Z (rdr 0 Z)) ?_;rintro _ _ ⟨pe,pf,rfl,rfl⟩;refine bN (v:=sl pe (n1+1) pf) Z<|wn Z<|aM<|wm Z<|wm Z<|wa (aF NR Z (Ct.sub (R1:=[(rc 250 5 dy [PG gh,PG fm,PG ft,I Sx.cls,I o]),(rc 256 2 ft [sl bc 258 cj,I (aU Sx.c2)]),(ri 3 bc 258 cj Sx.c2),(ri 3 (GG Nt) 1 1 ([rd (bL b) i])),(rc 360 4 al [sl dj x.length dp,I (((gN Sx.cd (aU (Sx.c2.take (rd (bL b) i).toNat)) (rd Sx.c2 (rd (bL b) i)) (aU Sx.c2)).k+4:Nat):Int), .int .u64 (cuC x (gN Sx.cd (aU (Sx.c2.take (rd (bL b) i).toNat)) (rd Sx.c2 (rd (bL b) i)) (aU Sx.c2))), .int .u64 ((gN Sx.cd (aU (Sx.c2.take (rd (bL b) i).toNat)) (rd Sx.c2 (rd (bL b) i)) (aU Sx.c2)).R)]),(ru 5 dj x.length dp x),(ri 3 pe (n1+1) pf (acc++([rd (bL b) i]))),(rc 256 2 gh [sl gw 258 bh,I (aU Sx.c0)]),(ri 3 gw 258 bh Sx.c0),(rc 256 2 fm [sl fc 258 cg,I (aU Sx.c1)]),(ri 3 fc 258 cg Sx.c1)]) (λ_ h=>h.sel [6,3,4,0,1,2,5,7,8,9,10] cC Z) (FR hk (by rw[cm.1.1.2.2.1];exact hy) cm.1.1.2.2))) ?_;rintro _ _ ⟨rfl,rfl⟩;refine aA ?_;exact⟨(i+1),pe,n1+1,pf,acc++([rd (bL b) i]),(⟨Sx.c0,Sx.c1,lK Sx.c2 (rd (bL b) i),lF (rd (bL b) i),sO Sx.cd Sx.c2 (rd (bL b) i)⟩:PpS),⟨G,G,G,(by rw[dD ar G,<-bb]),(qQ hS ar G (aCs hk))⟩,G,SA,λ_ h=>h.sel [6,0,7,8,9,10,1,2,4,5] cC Z⟩
theorem KO {im:Option Addr} {lj ir:Nat} {l:List Int} {q:List Int} (gr:Rd w im lj ir 1 (ints .i64 l)) (hb:bkL cy l [] 1=some q) (hm:0<=cy/\cy<=100000) (hN:l.length<=1000000):
  Ct Tryz.prog 273 #[sl im lj ir,I cy] w.heap.size w [] (λv R'=> ∃A c,v= .tuple #[sl A q.length c,bt]/\R'=[(ru 5 A q.length c q)]):=by
 obtain rfl:=gr.lenI;refine fn2 Tryz.func273 Z Z Z ?_;have Qm:=gr.max;refine wq<|wg Z<|wn Z<|aG<|wq<|wm Z<|wy (Yl.f (eO Z Z))<|aA<|aL Z<|aJ<|wq ?_;refine wa (bS .u8 [] ai zs5 Z Z Z) ?_;rintro _ _ ⟨cv,rfl,rfl⟩;refine wn Z<|wq<|wn Z<|aG<|wq<|wm Z<|wy (aQ aa Z)<|wm Z<|aA<|aI ?_;refine nU (λ(i:Int) (A1:Option Addr) (n1:Nat) (c1:Nat) (acc:List Int) (p:Int)=>[(1,I cy),(6,sl A1 n1 c1),(7,I p),(14,sl im l.length ir),(15,I ((l.length:Nat):Int)),(16,I i)]) (λi A1 n1 c1 acc p=>[(ru 5 A1 n1 c1 acc)]) (λi A1 n1 c1 acc p=>(0<=i)/\(i<=l.length)/\(n1=acc.length)/\(1<=p/\p<=200000)/\((acc.length:Int)<=cy)/\(bkL cy (l.drop i.toNat) acc p=some q)) (λi A1 n1 c1 acc p=>(l.length-i).toNat) ?_ ?_
 ·exact⟨0,GG cv,0,0,[],1,⟨G,G,(Z),G,(by show(0:Int)<=cy;omega),(hb)⟩,SA,λ_ h=>h⟩
 intro i A1 n1 c1 acc p ⟨ar,ia,dd,hp,wb,s8⟩;refine wq<|wL Z Z<|aA<|aG<|bJ Z (λaq=> ?_) (λaq=> ?_)
 ·have rj:=bBi s8 ar G;refine aJ<|aG<|aI<|wq<|wy (aH aa sz3 Z Z (gr.c _))<|wy (aX ak Z Z (gr.c _))<|wn Z<|aG<|aI<|wq<|wm Z<|wy (Yl.f (eO Z Z)) ?_;refine wm Z<|aC Z Z<|wm Z<|aC Z Z<|wy (Yl.f (jF Z Z))<|wy (aR Z Z)<|wn Z<|aL Z<|wq<|wm Z<|wy (jF Z Z)<|wn Z ?_;refine bJ Z (λcr=> ?_) (λcr=> ?_)
  ·obtain ⟨_,h3,h4⟩:=rj.2.resolve_right (λh=>G);refine wq<|wm Z<|wm Z<|wS Z Z<|wy (iF ak cz Z)<|wa (bS .u8 [((rd l i)-1)%256] ai zs5 Z Z Z) ?_;rintro _ _ ⟨gh,rfl,rfl⟩;refine wa (bE 1 Z ai zb5 Z Z Z (rdr 0 Z)) ?_;rintro _ _ ⟨fk,nv,rfl,rfl⟩;refine bN (v:=sl fk (n1+1) nv) Z<|wn Z<|aM<|wn Z<|wq<|wm Z<|wy (aQ ai Z)<|wm Z<|wy (Yl.f (dV Z Z))<|aA<|aL Z<|aJ ?_;refine aM<|wA Z Z<|wm Z<|aA ?_;exact⟨i+1,fk,n1+1,nv,acc++([((rd l i)-1)%256]),1,⟨G,G,(by rw[ah,dd];simp),G,(by rw[ah,ic];omega),(by rw[sj G G];exact h4)⟩,G,SA,λ_ h=>h.sel [1] cC Z⟩
  ·obtain ⟨_,h3,hz,h5⟩:=rj.2.resolve_left (λh=>G)
   have hxp:(rd l i+1)*p=p\/(rd l i+1)*p=2*p:=by
    rcases(by omega:rd l i=0\/rd l i=1) with e|e<;>rw[e]<;>omega
   obtain⟨zn,hzn⟩: ∃zn:Nat,(rd l i+1)*p=(zn:Int):=⟨((rd l i+1)*p).toNat,G⟩;refine wq<|wm Z<|wA Z Z<|wm Z<|wy (Yl.is (gZ Z Z) (by rw[hzn])) ?_;refine wn Z<|aG<|wq<|wm Z<|wm Z<|wy (Yl.f (dV Z Z))<|wm Z<|aC Z Z<|wm Z<|aC Z Z<|wm Z<|aC Z Z<|wm Z ?_;refine aC Z Z<|wy (aQ ai Z)<|aC Z Z<|wS Z Z<|aC Z Z<|wy (Yl.f (dV Z Z))<|wy (aR Z Z)<|aA<|aL Z<|aJ<|wq<|wm Z<|wm Z<|wa (aSd (m:=zn) 0 Z ai ak zb5 Z Z G G G) ?_;rintro _ _ ⟨gw,kf,rfl,rfl⟩;refine wn Z<|aM<|wm Z<|wy (gZ Z Z)<|wn Z<|wq<|wm Z<|wy (aQ ai Z)<|wm Z<|wy (Yl.f (dV Z Z))<|aA<|aL Z ?_;refine aJ<|aM<|wA Z Z<|wm Z<|aA ?_;exact⟨i+1,gw,n1+zn,kf,acc++List.replicate zn 0,p*2,⟨G,G,(by rw[ah,dd];simp),G,(by rw[ah,bq];omega),(by rw[show zn=((rd l i+1)*p).toNat by omega];exact h5)⟩,G,SA,λ_ h=>h⟩
 ·refine aZ<|wq<|wm Z<|wg Z<|wn Z<|aT [0] 99 cC Z ?_;refine⟨_,_,Z,Z,?_⟩;have hdr:l.drop i.toNat=[]:=xx G;rw[hdr] at s8;have hq:acc=q:=iw s8;subst hq;subst dd;exact⟨_,_,Z,Z⟩
set_option maxHeartbeats 1000000 in
theorem RH (js:Rd w zc u9 zp 1 (ints .u8 x)) (hx:x=dJ b o) (ce:aO b) (ho:o=0\/o=1) (hN:b.length<=100000) (hm:(b.length:Int)<=cy):
  Ct Tryz.prog 229 #[sl zc u9 zp,I o,I cy] w.heap.size w [] (λv R'=> ∃A c,v= .tuple #[sl A b.length c,bt]/\R'=[(ru 5 A b.length c b)]):=by
 obtain rfl:=js.lenI;refine fn2 Tryz.func229 Z Z Z ?_;have Vw:=js.max;have o7:=qM ce;have Gk:x.length<=2*b.length+6:=by rw[hx];exact oF ce
 have Yg:4<=x.length:=by rw[hx];unfold dJ;rw[kP];omega
 have un:(bL b).length=(bD 0 (bB aS b)).length+1:=by unfold bL;rw[ah];rfl
 have Qg:=oQ (bB aS b) 0;rw[iL] at Qg;have hmv:=iL b aS;refine wq<|wg Z<|wn Z<|aG<|wq<|wm Z<|wa (aF aYi Z (Ct.quiet (λw hw=>zB ho))) ?_;rintro _ _ ⟨rfl,rfl⟩;refine wy (dI Z)<|wm Z<|aC Z Z<|wm Z<|aC Z Z<|wy (Yl.f (eO Z Z))<|wy (aR Z Z)<|aA<|aL Z<|aJ<|wq<|wm Z<|wy (vV Z Z)<|wg Z ?_;refine aA<|wq<|wm Z<|wm Z<|wm Z<|wa (aF bDx Z (Ct.fresh (λw hw=>OW ((js.c _) w hw) hx ce ho hN G))) ?_;rintro _ _ ⟨_,rfl,bx,br,rfl,rfl⟩;refine wm Z<|wX Z Z<|wX Z Z<|wg Z<|wn Z<|aG<|wq<|wm Z<|wy (dI Z)<|aA<|aL Z<|aJ<|aG ?_;refine aM<|wm Z<|wm Z<|wa (aF bDw Z (Ct.fresh (λw hw=>KO ((rdr 0 Z) w hw) (bBh (mW ce) G) G G))) ?_;rintro _ _ ⟨_,rfl,kd,km,rfl,rfl⟩;refine wm Z<|wX Z Z<|wX Z Z<|wg Z<|wn Z<|aG<|wq<|wm Z<|wy (dI Z)<|aA<|aL Z<|aJ<|aG ?_;refine aM<|wm Z<|wa (aF aYm Z (Ct.fresh (λw hw=>OC ((rdr 0 Z) w hw) (mW ce) G))) ?_;rintro _ _ ⟨_,rfl,es,dt,rfl,rfl⟩;refine wn Z<|aG<|wq<|wm Z<|wm Z<|wa (aF aVw Z (Ct.fresh (λw hw=>vM ((rdr 0 Z) w hw) (by rw[oP ce];exact ce) ho (by rw[oP ce];exact hN)))) ?_;rintro _ _ ⟨_,rfl,bc,bh,rfl,rfl⟩;refine wm Z<|wX Z Z<|wX Z Z<|wg Z<|wn Z<|wq<|wm Z<|wm Z<|wa (aF bDv Z (Ct.quiet (λw hw=>aIp ((rdr 0 Z) w hw) ((js.c _) w hw) (gB _ _) (by rw[hx];exact gB _ _)))) ?_;rintro _ _ ⟨rfl,rfl⟩;refine kK 50 Z (by rw[oP ce,hx]) ?_;refine wy (dI Z)<|aA<|aL Z<|aJ<|wq<|wm Z<|wg Z<|wn Z<|bR (R1:=[(ru 5 es (((bB aS b)).length) dt (jV aS (bB aS b)))]) (λ_ h=>h.sel [1] cC Z) ?_;refine⟨_,_,Z,Z,?_⟩;rw[hmv,oP ce];exact⟨_,_,Z,Z⟩
variable {B g gc ap an nt ct:Nat} {w0:World} {X R0 R:List Row} {ao At:Option Addr} {u t:List Int} {p0 p1 p2 p3 ms tt ls x n:Int}
theorem yR (V:Int) (t:List Int) (am:RdC B w0 R0 ao ap an 1 (ints .u8 u)) (bl:ap=u.length) (hN:u.length<=1000000) (ac:aO u) (hV:0<=V/\V<=9223372036854775807) (hu:u=bQ V++t):
  Ct Tryz.prog 90 #[PG g] B w0 ((rc 87 10 g [PG gc,I p0,I p1,I p2,I p3,I ms,I tt,I ls,sl At nt ct,sl none 0 0])::(rc 146 1 gc [sl ao ap an])::(X++R0)) (λv R'=> ∃(A9:Option Addr) (c9:Nat),RdC B w0 R0 A9 (t).length c9 1 (ints .u8 (t))/\v= .tuple #[I V,bt]/\R'=(rc 87 10 g [PG gc,I p0,I p1,I p2,I p3,I ms,I tt,I ls,sl At nt ct,sl none 0 0])::(rc 146 1 gc [sl A9 ((t).length) c9])::(X++R0)):=
 (yQ (R:=X++R0) (m:=(bQ V).length) (RdC.right am X) bl hN ac (by rw[hu];exact sS.of ⟨hV.1,G⟩ t) hV.2).mono λv R' hv=>by
  obtain⟨rfl,rfl⟩:=hv;have e:=RdC.fromI (l:=(bQ V).length) am (by rw[bl,hu,ah];omega);have hl:ap-(bQ V).length=t.length:=by rw[bl,hu,ah];omega
  have hd:u.drop (bQ V).length=t:=by rw[hu];exact Eu
  rw[hl,hd] at e;rw[hl];exact⟨_,_,e,Z,Z⟩
theorem aCr {k:Int} (a t:List Int) (am:RdC B w0 R0 ao ap an 1 (ints .u8 u)) (bl:ap=u.length) (hN:u.length<=1000000) (hk:k=(a.length:Int)) (hu:u=a++t):
  Ct Tryz.prog 156 #[PG gc,I k] B w0 ((rc 146 1 gc [sl ao ap an])::(X++R0)) (λv R'=> ∃(A1:Option Addr) (c1:Nat),∃(A9:Option Addr) (c9:Nat),RdC B w0 R0 A9 (t).length c9 1 (ints .u8 (t))/\v= .tuple #[sl A1 a.length c1,bt]/\R'=(ru 5 A1 a.length c1 a)::(rc 146 1 gc [sl A9 ((t).length) c9])::(X++R0)):=
 (wM (R:=X++R0) (k:=k) (RdC.right am X) bl hN (by rw[hu,ah];omega)).mono λv R' hv=>by
  obtain⟨A1,c1,rfl,rfl⟩:=hv;have Mp:k.toNat=a.length:=G
  have e:=RdC.fromI (l:=a.length) am (by rw[bl,hu,ah];omega);have hl:ap-a.length=t.length:=by rw[bl,hu,ah];omega
  have hd:u.drop a.length=t:=by rw[hu];exact Eu
  have ht:u.take a.length=a:=by rw[hu];exact Aq
  rw[hl,hd] at e;rw[Mp,hl,ht];exact⟨_,_,_,_,e,Z,Z⟩
theorem aPo (am:RdC B w0 R0 ao ap an 1 (ints .u8 u)) (bl:ap=u.length) (hN:u.length<=1000000) (hx:0<=x/\x<4294967296) (hu:u=iE x++t):
  Ct Tryz.prog 228 #[PG gc] B w0 ((rc 146 1 gc [sl ao ap an])::(X++R0)) (λv R'=> ∃(A9:Option Addr) (c9:Nat),RdC B w0 R0 A9 (t).length c9 1 (ints .u8 (t))/\v= .tuple #[.int .u32 x,bt]/\R'=(rc 146 1 gc [sl A9 ((t).length) c9])::(X++R0)):=by
 subst bl;have a7:=(iR x).rd 0;have sk:=(iR x).rd 1;have wc:=(iR x).rd 2;have Cl:=(iR x).rd 3;refine fn2 Tryz.func228 Z Z Z ?_;refine wq<|wg Z<|wn Z<|wq<|wm Z<|wa (aF aEu Z ((aCr (X:=([]++X)) (R0:=R0) (iE x) (t) am Z hN Z hu))) ?_;rintro _ _ ⟨kd,km,bx,br,pm,rfl,rfl⟩;refine iW (R1:=((ru 5 kd 4 km (iE x))::(rc 146 1 gc [sl bx ((t).length) br])::(X++R0))) Z<|bN (v:= .tuple #[sl kd 4 km,bt]) Z<|wm Z<|wX Z Z<|wX Z Z<|wg Z<|wn Z<|aG<|wq<|wm Z<|wy (dI Z)<|aA<|aL Z ?_;refine aJ<|wq<|wn Z<|aG<|wq<|wm Z<|wy (aQ ai Z)<|wm Z<|aA<|aI<|qL 5<|dY ?_;refine wq<|wy (Yl.t (eO Z Z) cC)<|aA<|aG<|bO Z<|aJ<|aG<|aI<|wq<|wm Z<|wy (aH ai sz5 Z Z (rdr 0 Z))<|wy (aX cz Z Z (rdr 0 Z))<|wg Z ?_;refine wn Z<|aM<|wm Z<|wm Z<|wy (xM cz vo Z G)<|wm Z<|wy (Yl.is (gZ Z Z) (Z:_=Value.int .i64 0))<|wy (DX (k:=0) (m:=1) Z Z Z G Z)<|wy (OO (p:=(rd (iE x) 0)) (m:=1) 0 Z Z Z G G)<|wn Z<|aM<|wy (Yl.is (dG Z Z) (Z:_=Value.int .i64 1))<|wm Z ?_;refine aA<|dY<|wq<|wy (Yl.t (eO Z Z) cC)<|aA<|aG<|bO Z<|aJ<|aG<|aI<|wq<|wm Z<|wy (aH ai sz5 Z Z (rdr 0 Z)) ?_;refine wy (aX cz Z Z (rdr 0 Z))<|wg Z<|wn Z<|aM<|wm Z<|wm Z<|wy (xM cz vo Z G)<|wm Z<|wy (Yl.is (gZ Z Z) (Z:_=Value.int .i64 8))<|wy (DX (k:=8) (m:=256) Z Z Z G Z)<|wy (OO (p:=(rd (iE x) 1)) (m:=256) 8 Z Z Z G G)<|wn Z<|aM ?_;refine wy (Yl.is (dG Z Z) (Z:_=Value.int .i64 2))<|wm Z<|aA<|dY<|wq<|wy (Yl.t (eO Z Z) cC)<|aA<|aG<|bO Z<|aJ<|aG<|aI<|wq ?_;refine wm Z<|wy (aH ai sz5 Z Z (rdr 0 Z))<|wy (aX cz Z Z (rdr 0 Z))<|wg Z<|wn Z<|aM<|wm Z<|wm Z<|wy (xM cz vo Z G)<|wm Z<|wy (Yl.is (gZ Z Z) (Z:_=Value.int .i64 16))<|wy (DX (k:=16) (m:=65536) Z Z Z G Z)<|wy (OO (p:=(rd (iE x) 2)) (m:=65536) 16 Z Z Z G G)<|wg Z ?_;refine aA<|aM<|wy (Yl.is (dG Z Z) (Z:_=Value.int .i64 3))<|wm Z<|aA<|dY<|wq<|wy (Yl.t (eO Z Z) cC)<|aA<|aG<|bO Z<|aJ<|aG<|aI ?_;refine wq<|wm Z<|wy (aH ai sz5 Z Z (rdr 0 Z))<|wy (aX cz Z Z (rdr 0 Z))<|wg Z<|wn Z<|aM<|wm Z<|wm Z<|wy (xM cz vo Z G)<|wm Z<|wy (Yl.is (gZ Z Z) (Z:_=Value.int .i64 24))<|wy (DX (k:=24) (m:=16777216) Z Z Z G Z) ?_;refine wy (OO (p:=(rd (iE x) 3)) (m:=16777216) 24 Z Z Z G G)<|wn Z<|aM<|wy (Yl.is (dG Z Z) (Z:_=Value.int .i64 4))<|wm Z<|aA<|dY<|wq<|wy (Yl.f (eO Z Z) cC)<|aA<|aG<|aL Z<|aZ ?_;refine wq<|wm Z<|wg Z<|wn Z ?_;have he:0+(rd (iE x) 0)*1+(rd (iE x) 1)*256+(rd (iE x) 2)*65536+(rd (iE x) 3)*16777216=x:=aVq hx;refine aT [1] 2 cC Z ?_;refine⟨_,_,Z,Z,?_⟩;rw[he];exact⟨_,_,pm,Z,Z⟩
theorem ZT (hn:n<=p3) (hb:(-1000000<=ms/\ms<=1000000)/\(0<=tt/\tt<=1000000)):
  Ct Tryz.prog 158 #[PG g,I n] B w0 ((rc 87 10 g [PG gc,I 0,I p1,I p2,I p3,I ms,I tt,I ls,sl At nt ct,sl none 0 0])::R) (λv R'=>v= .bool (decide (n<=ms-tt))/\R'=(rc 87 10 g [PG gc,I 0,I p1,I p2,I p3,I ms,I tt,I ls,sl At nt ct,sl none 0 0])::R):=by
 refine fn1 Hy Z Z Z ?_;refine wq<|wn Z<|aG<|wq<|wm Z<|wy (aD Z)<|wy (aB (off:=1) (m:=1) gm Z gG Z Z Z)<|wy (aB (off:=0) (m:=1) df Z sz3 Z Z Z)<|wy (aK (rdr 0 Z) ak Z Z Z)<|wy (Yl.f (bC Z Z) cC)<|wm Z<|aP Z Z Z Z ?_;refine aP Z Z Z Z<|aP Z Z Z Z<|aP Z Z Z Z<|aP Z Z Z Z<|wy (aR Z Z)<|wm Z<|aC Z Z<|wm Z<|aC Z Z<|wy (aD Z)<|aC Z Z<|wy (aB (off:=1) (m:=1) gm Z gG Z Z Z)<|aC Z Z<|wy (aB (off:=0) (m:=1) df Z sz3 Z Z Z)<|aC Z Z ?_;refine wy (aK (rdr 0 Z) ak Z Z Z)<|aC Z Z<|wy (Yl.t (iZ Z Z) cC)<|aC Z Z<|wm Z<|aC Z Z<|wm Z<|aC Z Z<|wm Z<|aC Z Z<|wy (aD Z)<|aC Z Z<|wy (aB (off:=1) (m:=1) gm Z gG Z Z Z)<|aC Z Z<|wy (aB (off:=3) (m:=4) df Z sz3 Z Z Z) ?_;refine aC Z Z<|wy (aK (rdr 0 Z) ak Z Z Z)<|aC Z Z<|wy (Yl.f (dV Z Z))<|aC Z Z<|wy (aY Z Z)<|wy (aR Z Z)<|aA<|aL Z<|aJ<|aG<|bT mixed<|wD 0 Z (aN Z)<|wD 1 Z (aN Z)<|wD 2 Z (aD Z) ?_;refine wD 3 Z (aB (off:=5) (m:=5) gm Z sz3 Z Z Z)<|wD 4 Z (aK (rdr 0 Z) ak Z Z Z)<|wD 5 Z (aN Z)<|wD 6 Z (aD Z)<|wD 7 Z (aB (off:=6) (m:=6) gm Z sz3 Z Z Z)<|wD 8 Z (aK (rdr 0 Z) ak Z Z Z)<|wD 9 Z (jE Z Z)<|wD 10 Z (vT Z Z)<|wD 11 Z (bP Z)<|wN<|bR (R1:=((rc 87 10 g [PG gc,I 0,I p1,I p2,I p3,I ms,I tt,I ls,sl At nt ct,sl none 0 0])::R)) (λ_ h=>h) ?_;refine⟨_,Z,?_⟩;exact⟨Z,Z⟩
theorem ZR (hn:n<=p3) (hb:(-1000000<=ms/\ms<=1000000)/\(0<=tt/\tt<=1000000)):
  Ct Tryz.prog 158 #[PG g,I n] B w0 ((rc 87 10 g [PG gc,I 1,I p1,I p2,I p3,I ms,I tt,I ls,sl At nt ct,sl none 0 0])::R) (λv R'=>v= .bool (decide (n<=ms-tt))/\R'=(rc 87 10 g [PG gc,I 1,I p1,I p2,I p3,I ms,I tt,I ls,sl At nt ct,sl none 0 0])::R):=by
 refine fn1 Hy Z Z Z ?_;refine wq<|wn Z<|aG<|wq<|wm Z<|wy (aD Z)<|wy (aB (off:=1) (m:=1) gm Z gG Z Z Z)<|wy (aB (off:=0) (m:=1) df Z sz3 Z Z Z)<|wy (aK (rdr 0 Z) ak Z Z Z)<|wy (Yl.f (bC Z Z) cC)<|wm Z<|aP Z Z Z Z ?_;refine aP Z Z Z Z<|aP Z Z Z Z<|aP Z Z Z Z<|aP Z Z Z Z<|wy (aR Z Z)<|wm Z<|aC Z Z<|wm Z<|aC Z Z<|wy (aD Z)<|aC Z Z<|wy (aB (off:=1) (m:=1) gm Z gG Z Z Z)<|aC Z Z<|wy (aB (off:=0) (m:=1) df Z sz3 Z Z Z)<|aC Z Z ?_;refine wy (aK (rdr 0 Z) ak Z Z Z)<|aC Z Z<|wy (Yl.t (iZ Z Z) cC)<|aC Z Z<|wm Z<|aC Z Z<|wm Z<|aC Z Z<|wm Z<|aC Z Z<|wy (aD Z)<|aC Z Z<|wy (aB (off:=1) (m:=1) gm Z gG Z Z Z)<|aC Z Z<|wy (aB (off:=3) (m:=4) df Z sz3 Z Z Z) ?_;refine aC Z Z<|wy (aK (rdr 0 Z) ak Z Z Z)<|aC Z Z<|wy (Yl.f (dV Z Z))<|aC Z Z<|wy (aY Z Z)<|wy (aR Z Z)<|aA<|aL Z<|aJ<|aG<|bT mixed<|wD 0 Z (aN Z)<|wD 1 Z (aN Z)<|wD 2 Z (aD Z) ?_;refine wD 3 Z (aB (off:=5) (m:=5) gm Z sz3 Z Z Z)<|wD 4 Z (aK (rdr 0 Z) ak Z Z Z)<|wD 5 Z (aN Z)<|wD 6 Z (aD Z)<|wD 7 Z (aB (off:=6) (m:=6) gm Z sz3 Z Z Z)<|wD 8 Z (aK (rdr 0 Z) ak Z Z Z)<|wD 9 Z (jE Z Z)<|wD 10 Z (vT Z Z)<|wD 11 Z (bP Z)<|wN<|bR (R1:=((rc 87 10 g [PG gc,I 1,I p1,I p2,I p3,I ms,I tt,I ls,sl At nt ct,sl none 0 0])::R)) (λ_ h=>h) ?_;refine⟨_,Z,?_⟩;exact⟨Z,Z⟩
theorem ZQ (hn:n<=p3) (hb:(-1000000<=ms/\ms<=1000000)/\(0<=tt/\tt<=1000000)):
  Ct Tryz.prog 158 #[PG g,I n] B w0 ((rc 87 10 g [PG gc,I 2,I p1,I p2,I p3,I ms,I tt,I ls,sl At nt ct,sl none 0 0])::R) (λv R'=>v= .bool (decide (n<=ms-tt))/\R'=(rc 87 10 g [PG gc,I 2,I p1,I p2,I p3,I ms,I tt,I ls,sl At nt ct,sl none 0 0])::R):=by
 refine fn1 Hy Z Z Z ?_;refine wq<|wn Z<|aG<|wq<|wm Z<|wy (aD Z)<|wy (aB (off:=1) (m:=1) gm Z gG Z Z Z)<|wy (aB (off:=0) (m:=1) df Z sz3 Z Z Z)<|wy (aK (rdr 0 Z) ak Z Z Z)<|wy (Yl.f (bC Z Z) cC)<|wm Z<|aP Z Z Z Z ?_;refine aP Z Z Z Z<|aP Z Z Z Z<|aP Z Z Z Z<|aP Z Z Z Z<|wy (aR Z Z)<|wm Z<|aC Z Z<|wm Z<|aC Z Z<|wy (aD Z)<|aC Z Z<|wy (aB (off:=1) (m:=1) gm Z gG Z Z Z)<|aC Z Z<|wy (aB (off:=0) (m:=1) df Z sz3 Z Z Z)<|aC Z Z ?_;refine wy (aK (rdr 0 Z) ak Z Z Z)<|aC Z Z<|wy (Yl.t (iZ Z Z) cC)<|aC Z Z<|wm Z<|aC Z Z<|wm Z<|aC Z Z<|wm Z<|aC Z Z<|wy (aD Z)<|aC Z Z<|wy (aB (off:=1) (m:=1) gm Z gG Z Z Z)<|aC Z Z<|wy (aB (off:=3) (m:=4) df Z sz3 Z Z Z) ?_;refine aC Z Z<|wy (aK (rdr 0 Z) ak Z Z Z)<|aC Z Z<|wy (Yl.f (dV Z Z))<|aC Z Z<|wy (aY Z Z)<|wy (aR Z Z)<|aA<|aL Z<|aJ<|aG<|bT mixed<|wD 0 Z (aN Z)<|wD 1 Z (aN Z)<|wD 2 Z (aD Z) ?_;refine wD 3 Z (aB (off:=5) (m:=5) gm Z sz3 Z Z Z)<|wD 4 Z (aK (rdr 0 Z) ak Z Z Z)<|wD 5 Z (aN Z)<|wD 6 Z (aD Z)<|wD 7 Z (aB (off:=6) (m:=6) gm Z sz3 Z Z Z)<|wD 8 Z (aK (rdr 0 Z) ak Z Z Z)<|wD 9 Z (jE Z Z)<|wD 10 Z (vT Z Z)<|wD 11 Z (bP Z)<|wN<|bR (R1:=((rc 87 10 g [PG gc,I 2,I p1,I p2,I p3,I ms,I tt,I ls,sl At nt ct,sl none 0 0])::R)) (λ_ h=>h) ?_;refine⟨_,Z,?_⟩;exact⟨Z,Z⟩
theorem aHn:
  Ct Tryz.prog 159 #[PG g,I n] B w0 ((rc 87 10 g [PG gc,I 0,I p1,I p2,I p3,I ms,I tt,I ls,sl At nt ct,sl none 0 0])::R) (λv R'=>v= .tuple #[sl none 0 0,bt]/\R'=(rc 87 10 g [PG gc,I 0,I p1,I p2,I p3,I ms,I tt,I ls,sl At nt ct,sl none 0 0])::R):=by
 refine fn2 Hz Z Z Z ?_;refine wq<|wg Z<|wn Z<|aG<|wq<|wm Z<|wy (aD Z)<|wy (aB (off:=1) (m:=1) gm Z gG Z Z Z)<|wy (aB (off:=0) (m:=1) df Z sz3 Z Z Z)<|wy (aK (rdr 0 Z) ak Z Z Z)<|aA<|aI ?_;refine wq<|wy (Yl.f (bC Z Z) cC)<|wn Z<|aL Z<|wq<|wy (Yl.f (bC Z Z) cC)<|wn Z<|aL Z<|aJ<|wq ?_;refine wg Z<|wn Z<|bR (R1:=((rc 87 10 g [PG gc,I 0,I p1,I p2,I p3,I ms,I tt,I ls,sl At nt ct,sl none 0 0])::R)) (λ_ h=>h) ?_;refine⟨_,_,Z,Z,?_⟩;exact⟨Z,Z⟩
theorem aHl:
  Ct Tryz.prog 159 #[PG g,I n] B w0 ((rc 87 10 g [PG gc,I 2,I p1,I p2,I p3,I ms,I tt,I ls,sl At nt ct,sl none 0 0])::R) (λv R'=>v= .tuple #[sl none 0 0,bt]/\R'=(rc 87 10 g [PG gc,I 2,I p1,I p2,I p3,I ms,I tt,I ls,sl At nt ct,sl none 0 0])::R):=by
 refine fn2 Hz Z Z Z ?_;refine wq<|wg Z<|wn Z<|aG<|wq<|wm Z<|wy (aD Z)<|wy (aB (off:=1) (m:=1) gm Z gG Z Z Z)<|wy (aB (off:=0) (m:=1) df Z sz3 Z Z Z)<|wy (aK (rdr 0 Z) ak Z Z Z)<|aA<|aI ?_;refine wq<|wy (Yl.f (bC Z Z) cC)<|wn Z<|aL Z<|wq<|wy (Yl.f (bC Z Z) cC)<|wn Z<|aL Z<|aJ<|wq ?_;refine wg Z<|wn Z<|bR (R1:=((rc 87 10 g [PG gc,I 2,I p1,I p2,I p3,I ms,I tt,I ls,sl At nt ct,sl none 0 0])::R)) (λ_ h=>h) ?_;refine⟨_,_,Z,Z,?_⟩;exact⟨Z,Z⟩
theorem aHm {at_:Int} (am:RdC B w0 R0 ao ap an 1 (ints .u8 u)) (bl:ap=u.length) (hN:u.length<=1000000) (ac:aO u) (pi:0<=at_/\at_<=n/\n<=1000000) (hu:u=bQ at_++t):
  Ct Tryz.prog 159 #[PG g,I n] B w0 ((rc 87 10 g [PG gc,I 1,I p1,I p2,I p3,I ms,I tt,I ls,sl At nt ct,sl none 0 0])::(rc 146 1 gc [sl ao ap an])::(X++R0)) (λv R'=> ∃(A8:Option Addr),∃(A9:Option Addr) (c9:Nat),RdC B w0 R0 A9 (t).length c9 1 (ints .u8 (t))/\v= .tuple #[sl A8 1 1,bt]/\R'=(ri 3 A8 1 1 ([at_]))::(rc 87 10 g [PG gc,I 1,I p1,I p2,I p3,I ms,I tt,I ls,sl At nt ct,sl none 0 0])::(rc 146 1 gc [sl A9 ((t).length) c9])::(X++R0)):=by
 subst bl;refine fn2 Hz Z Z Z ?_;refine wq<|wg Z<|wn Z<|aG<|wq<|wm Z<|wy (aD Z)<|wy (aB (off:=1) (m:=1) gm Z gG Z Z Z)<|wy (aB (off:=0) (m:=1) df Z sz3 Z Z Z)<|wy (aK (rdr 0 Z) ak Z Z Z)<|aA<|aI ?_;refine wq<|wy (Yl.t (bC Z Z) cC)<|wn Z<|bO Z<|wq<|wm Z<|wa (aF aIw Z ((yR (X:=([]++X)) (R0:=R0) (at_) (t) am Z G cF G hu))) ?_;rintro _ _ ⟨bx,br,pm,rfl,rfl⟩;refine wm Z<|wX Z Z<|wX Z Z<|wg Z<|wn Z<|wq<|wm Z<|wa (bS .i64 [at_] aa zs3 Z Z Z) ?_;rintro _ _ ⟨gh,rfl,rfl⟩;refine wm Z<|wm Z<|aC Z Z<|wm Z<|aC Z Z<|wm Z<|aC Z Z<|wy (Yl.t (vT Z Z) G)<|wy (aY Z Z)<|wg Z<|wn Z<|bR (R1:=((ri 3 (GG gh) 1 1 ([at_]))::(rc 87 10 g [PG gc,I 1,I p1,I p2,I p3,I ms,I tt,I ls,sl At nt ct,sl none 0 0])::(rc 146 1 gc [sl bx ((t).length) br])::(X++R0))) (λ_ h=>h) ?_;refine⟨_,_,Z,Z,?_⟩;exact⟨_,_,_,pm,Z,Z⟩
set_option maxHeartbeats 1000000 in
theorem BG {l:List Int} (am:RdC B w0 R0 ao ap an 1 (ints .u8 u)) (bl:ap=u.length) (hN:u.length<=1000000) (ac:aO u) (hx:0<=x/\x<4294967296) (lz:p2=0\/p2=1) (i7:aO l) (hl:(l.length:Int)=n/\l.length<=100000) (hu:u=bQ ((dJ l p2).length:Int)++(iE x++(dJ l p2++t))):
  Ct Tryz.prog 160 #[PG g,I n] B w0 ((rc 87 10 g [PG gc,I p0,I p1,I p2,I p3,I ms,I tt,I ls,sl At nt ct,sl none 0 0])::(rc 146 1 gc [sl ao ap an])::(X++R0)) (λv R'=> ∃(A8:Option Addr) (c8:Nat),∃(A9:Option Addr) (c9:Nat),RdC B w0 R0 A9 (t).length c9 1 (ints .u8 (t))/\v= .tuple #[.int .u32 x,sl A8 l.length c8,bt]/\R'=(ru 5 A8 l.length c8 l)::(rc 87 10 g [PG gc,I p0,I p1,I p2,I p3,I ms,I tt,I ls,sl At nt ct,sl none 0 0])::(rc 146 1 gc [sl A9 ((t).length) c9])::(X++R0)):=by
 subst bl;have yr:=bz List.length hu;simp only[ah] at yr;have qk:(iE x).length=4:=rfl;have Hx:=ac;rw[hu] at Hx;refine fn3 Tryz.func160 Z Z Z ?_;refine wq<|wg Z<|wg Z<|wn Z<|wq<|wm Z<|wa (aF aIw Z ((yR (X:=([]++X)) (R0:=R0) (((dJ l p2).length:Int)) (iE x++(dJ l p2++t)) am Z G cF G hu))) ?_;rintro _ _ ⟨bx,br,pm,rfl,rfl⟩;refine wm Z<|wX Z Z<|wX Z Z<|wg Z<|wn Z<|wq<|wm Z<|wy (aD Z)<|wy (aB (off:=0) (m:=0) gm Z aFz Z Z Z)<|wy (aK (rdr 0 Z) ze Z Z Z)<|wa (aF bEi Z (Ct.pick [1,0] 2 cC Z (aPo (X:=([(rc 87 10 g [PG gc,I p0,I p1,I p2,I p3,I ms,I tt,I ls,sl At nt ct,sl none 0 0])]++X)) (R0:=R0) (x:=x) (t:=dJ l p2++t) pm Z (by simp only[ah];omega) hx Z))) ?_;rintro _ _ ⟨kd,km,o0,rfl,rfl⟩;refine wm Z<|wX Z Z<|wX Z Z<|wg Z<|wn Z<|wq<|wm Z<|wy (aD Z)<|wy (aB (off:=0) (m:=0) gm Z aFz Z Z Z)<|wy (aK (rdr 1 Z) ze Z Z Z)<|wm Z<|wa (aF aEu Z ((aCr (X:=([(rc 87 10 g [PG gc,I p0,I p1,I p2,I p3,I ms,I tt,I ls,sl At nt ct,sl none 0 0])]++X)) (R0:=R0) (dJ l p2) (t) o0 Z (by simp only[ah];omega) Z Z))) ?_;rintro _ _ ⟨bc,bh,es,dt,Lp,rfl,rfl⟩;refine wm Z<|wX Z Z<|wX Z Z<|wg Z<|wn Z<|aG<|wq<|wm Z<|wy (dI Z)<|wm Z<|aC Z Z<|wm Z<|aC Z Z ?_;refine wy (dI Z)<|wy (aR Z Z)<|wm Z<|aC Z Z<|wm Z<|aC Z Z<|wy (dI Z)<|wy (aR Z Z)<|aA<|aL Z<|aJ<|wq<|wm Z<|wm Z ?_;refine wy (aD Z)<|wy (aB (off:=1) (m:=1) gm Z gG Z Z Z)<|wy (aB (off:=2) (m:=3) df Z sz3 Z Z Z)<|wy (aK (rdr 2 Z) ak Z Z Z)<|wm Z<|wa (aF bEh Z (Ct.fresh (λw hw=>RH ((rdr 0 Z) w hw) Z i7 lz hl.2 G))) ?_;rintro _ _ ⟨_,rfl,pr,cj,rfl,rfl⟩;refine wm Z<|wX Z Z<|wX Z Z<|wg Z<|wn Z<|wq<|wm Z<|wm Z<|wm Z<|wm Z<|aC Z Z<|wm Z<|aC Z Z ?_;refine wy (aQ ai Z)<|aC Z Z<|wm Z<|aC Z Z<|wy (Yl.t (bC Z Z) G)<|wy (aY Z Z)<|wg Z<|wg Z<|wn Z<|aT [0,3,2] 4 cC Z ?_;refine⟨_,_,_,Z,Z,Z,?_⟩;exact⟨_,_,_,_,Lp,Z,Z⟩
end Go.Proofs.YtdbebmmhdefgdaaGreat
namespace Go.Pure
open Go Go.Eng
section
variable {p:List Int}
def pit (p:List Int):Nat->Int->Int
 |0,i=>i
 |b+1,i=>rd p (pit p b i)
theorem rX (hp:p.Perm (iota p.length)) {i:Int} (i0:0<=i) (hi:i<p.length): ∀b:Nat,0<=pit p b i/\pit p b i<p.length
 |0=>⟨i0,hi⟩
 |b+1=>by
  have ih:=rX hp i0 hi b;exact aW.1 (hp.subset (bH (L:=p) ih.1 ih.2))
theorem aDr (p:List Int) (a:Nat) (i:Int): ∀b:Nat,pit p (a+b) i=pit p b (pit p a i)
 |0=>rfl
 |b+1=>by rw[<-qd,pit,aDr p a i b,pit]
theorem aXj (hp:p.Perm (iota p.length)) {x y:Int} (x0:0<=x) (hx:x<p.length) (y0:0<=y) (hy:y<p.length) (h:rd p x=rd p y):x=y:=jG (hp.symm.nodup (eT _)) x0 hx y0 hy h
structure Ring (p:List Int) (i:Int) (c:List Int):Prop where
 pos:0<c.length
 at_: ∀b:Nat,b<c.length->rd c b=pit p b i
 close:pit p c.length i=i
 nodup:c.Nodup
 least: ∀x∈c,i<=x
structure ClE (p:List Int) (E:List Bool):Prop where
 len:E.length=p.length
 back: ∀j:Int,0<=j->j<p.length->rdb E (rd p j)=true->rdb E j=true
theorem aTc {l:List Int} {x:Int} {b:Nat} (h:b<(l++[x]).length):rd (l++[x]) b=if b<l.length then rd l b else x:=by
 split
 ·rename_i g;rw[jH G G]
 ·rename_i g;have:b=l.length:=by simp at h;omega
  subst this;rw[fZ G,Hl];rfl
theorem LG (hp:p.Perm (iota p.length)) {E0:List Bool} {i:Int} (Wj:ClE p E0) (i0:0<=i) (hi:i<p.length) (o8:rdb E0 i≠true) (iz: ∀j:Int,0<=j->j<i->rdb E0 j=true):
  ∀(f:Nat) (E:List Bool) (acc:List Int),E.length=p.length->cntF E<=f->(∀b:Nat,b<acc.length->rd acc b=pit p b i)->acc.Nodup->(∀x∈acc,rdb E0 x≠true)->(∀j:Int,0<=j->j<p.length->(rdb E j=true↔rdb E0 j=true\/j∈acc))->
  Ring p i (acc++(fK p f E (pit p acc.length i)).1)/\(∀x∈acc++(fK p f E (pit p acc.length i)).1,rdb E0 x≠true)/\ ∀j:Int,0<=j->j<p.length->(rdb (fK p f E (pit p acc.length i)).2 j=true↔rdb E0 j=true\/j∈acc++(fK p f E (pit p acc.length i)).1)
 | f, E,acc,hl,hf,pi,hnd,Ek,hset=>by
  have hk:=rX hp i0 hi acc.length;have jt: ∀b:Nat,b<acc.length->pit p b i∈acc:=λb hb=>by rw[<-pi b hb];exact bH G G
  by_cases pc:rdb E (pit p acc.length i)=true
  ·rw [rU pc];simp only[jo]
   have da:0<acc.length:=by
    rcases dx acc.length with z|z
    ·exfalso;have hz:acc=[]:=ed z;subst hz;rcases(hset i i0 hi).1 pc with a|a
     ·exact o8 a
     ·cases a
    ·exact z
   have Ks:pit p acc.length i=i:=by
    have hz:=rX hp i0 hi (acc.length-1)
    have Jm:pit p acc.length i=rd p (pit p (acc.length-1) i):=by
     obtain⟨m,hm⟩: ∃m,acc.length=m+1:=⟨acc.length-1,G⟩;rw[hm,pit];rfl
    rcases(hset _ hk.1 hk.2).1 pc with a|a
    ·rw [Jm] at a;exact absurd (Wj.back _ hz.1 hz.2 a) (Ek _ (jt _ G))
    ·obtain ⟨b,hb,e⟩:=gz.1 a;have e2:pit p acc.length i=pit p b i:=by rw[<-pi b hb,gM hb];exact e.symm
     rcases dx b with z|z
     ·rw[e2,z];rfl
     ·exfalso;have sk:=rX hp i0 hi (b-1)
      have Lu:pit p b i=rd p (pit p (b-1) i):=by
       obtain⟨m,rfl⟩: ∃m,b=m+1:=⟨b-1,G⟩;rw[pit];rfl
      have:=aXj hp hz.1 hz.2 sk.1 sk.2 (by rw[<-Jm,<-Lu,e2]);rw[<-pi _ G,<-pi _ G] at this;have:=jG hnd G G G G this;omega
   refine⟨⟨da,pi,Ks,hnd,λx hx=> ?_⟩,Ek,hset⟩;obtain⟨b,hb,rfl⟩:=gz.1 hx;have hr:=rX hp i0 hi b;rw[<-pi b hb,gM hb] at hr;rcases ay acc[b] i with g|g
   ·exact absurd (iz _ hr.1 g) (Ek _ hx)
   ·exact g
  ·have db:=JI hk.1 G pc;have Jn:=zO hk.1 G pc;obtain⟨g,rfl⟩: ∃g,f=g+1:=⟨f-1,G⟩;rw[FB hk.1 G hf pc];have nj: ¬(rdb E0 (pit p acc.length i)=true\/pit p acc.length i∈acc):=λh=>pc ((hset _ hk.1 hk.2).2 h);have hlen:(acc++[pit p acc.length i]).length=acc.length+1:=cD
   have ih:=LG hp Wj i0 hi o8 iz g (oO E (pit p acc.length i) true) (acc++[pit p acc.length i]) (by rw[kF];exact hl) G (λb hb=>by
    rw[aTc hb];split
    ·rename_i q;exact pi b q
    ·rename_i q;rw[show b=acc.length by rw[hlen] at hb;omega]) (vz.2 ⟨hnd,cD,λx hx y hy e=>by obtain rfl:=jc.1 hy;subst e;exact nj (.inr hx)⟩) (λx hx=>by
    rcases fw.1 hx with h|h
    ·exact Ek x h
    ·obtain rfl:=jc.1 h
     exact λe=>nj (.inl e)) (λj j0 hj=>by
    rw[vI hk.1 G j0,fw,jc];split
    ·rename_i e;exact⟨λ_=> .inr (.inr e),λ_=>rfl⟩
    ·rename_i e;rw[hset j j0 hj];exact⟨λh=>h.elim .inl λh=> .inr (.inl h),λh=>h.elim .inl λh=>h.elim .inr λh=>absurd h e⟩)
   rw[hlen,pit,ig] at ih;exact ih
structure bFv (p:List Int) (i:Nat) (E:List Bool) (ls:List (List Int)):Prop where
 cl:ClE p E
 seen: ∀j:Int,0<=j->j<p.length->(rdb E j=true↔j∈ls.flatten)
 nodup:ls.flatten.Nodup
 ring: ∀c∈ls,∃i0:Int,(0<=i0/\i0<i)/\Ring p i0 c
 heads:ls.Pairwise λc d=>rd c 0<rd d 0
theorem bFo (hp:p.Perm (iota p.length)): ∀i:Nat,i<=p.length->bFv p i (iC p i).1 (iC p i).2
 |0,_=>⟨⟨by simp[iC],λj j0 hj h=>by rw[iC,EJ] at h;cases h⟩,λj j0 hj=>by rw[iC,EJ];simp,by simp[iC],λc hc=>(by cases hc), .nil⟩
 | i +1,hi=>by
  have ih:=bFo hp i G;have pc:=BR hp i G;have hf:=kU hp i G;have Ts:cntF (iC p i).1<=p.length:=by have:=hf.2.2;omega
  rw[iC];by_cases o8:rdb (iC p i).1 i=true
  ·rw [rU o8];simp only[Ii];exact⟨ih.cl,ih.seen,ih.nodup,λc hc=>by obtain⟨i0,h,r⟩:=ih.ring c hc;exact⟨i0,G,r⟩,ih.heads⟩
  ·obtain ⟨w1,w2,w3⟩:=LG hp ih.cl (i:=i) G G o8 (λj j0 hj=>by have:=pc j.toNat G;rwa[show((j.toNat:Nat):Int)=j by omega] at this) p.length (iC p i).1 [] hf.1 Ts (λb hb=>by simp at hb) .nil (λx hx=>by cases hx) (λj j0 hj=>cD);simp only[jb,jy,pit] at w1 w2 w3;have Jq:=(pW hp p.length (iC p i).1 i hf.1 G G);generalize fK p p.length (iC p i).1 i=r at w1 w2 w3 Jq;obtain⟨c,E'⟩:=r;simp only at w1 w2 w3 Jq ⊢;rw[bu (λe=>by have:=w1.pos;rw[e] at this;simp at this)];have h0:rd c 0=i:=w1.at_ 0 w1.pos;refine⟨⟨Jq.1,λj j0 hj h=> ?_⟩,λj j0 hj=> ?_,?_,λd hd=> ?_,?_⟩
   ·have sn:=aW.1 (hp.subset (bH (L:=p) j0 hj));rcases(w3 _ sn.1 sn.2).1 h with a|a
    ·exact(w3 j j0 hj).2 (.inl (ih.cl.back j j0 hj a))
    ·refine (w3 j j0 hj).2 (.inr ?_);obtain⟨b,hb,e⟩:=gz.1 a;have e2:rd p j=pit p b i:=by rw[<-w1.at_ b hb,gM hb];exact e.symm
     have key: ∀m:Nat,m<c.length->rd p j=rd p (pit p m i)->j∈c:=λm hm e=>by
      have u4:=rX hp (i:=i) G G m;have:=aXj hp j0 hj u4.1 u4.2 e;rw[this,<-w1.at_ m hm];exact bH G G
     rcases dx b with z|z
     ·refine key (c.length-1) (by have:=w1.pos;omega) ?_;have hc:=w1.close;obtain⟨m,hm⟩: ∃m,c.length=m+1:=⟨c.length-1,by have:=w1.pos;omega⟩;rw[hm,pit] at hc;rw[e2,z,hm];exact hc.symm
     ·obtain ⟨m,rfl⟩: ∃m,b=m+1:=⟨b-1,G⟩;exact key m G (by rw[e2,pit])
   ·rw [w3 j j0 hj,ow,fw,ih.seen j j0 hj];simp
   ·rw [ow];refine vz.2 ⟨ih.nodup,by simpa using w1.nodup,λx hx y hy e=> ?_⟩;subst e;have hy:x∈c:=by simpa using hy
    have Vn:=Jq.2.1 x hy;exact w2 x hy ((ih.seen x Vn.1 Vn.2).2 hx)
   ·rcases fw.1 hd with h|h
    ·obtain ⟨i0,h,r⟩:=ih.ring d h;exact⟨i0,G,r⟩
    ·obtain rfl:=jc.1 h;exact⟨i,G,w1⟩
   ·refine pq.2 ⟨ih.heads,ql _ _,λd hd e he=> ?_⟩;obtain rfl:=jc.1 he;obtain⟨i0,h,r⟩:=ih.ring d hd;rw[h0,show rd d 0=i0 from r.at_ 0 r.pos];omega
theorem aAt (hp:p.Perm (iota p.length)):bFv p p.length (iC p p.length).1 (dX p):=bFo hp p.length (dh _)
theorem BQ (hp:p.Perm (iota p.length)):(dX p).flatten.Perm (iota p.length):=pF (aAt hp).nodup (λx hx=>by
 obtain⟨c,hc,hx⟩:=Az.1 hx
 exact aW.2 (aEv hp c hc x hx)) (by rw[bF,WB hp];exact dh _)
end
end Go.Pure
namespace Go.Pure
open Go Go.Eng
section
variable {l:List Int}
def phi (l:List Int) (q:Int):Int:=rd (bW (iota l.length) l 256) q
theorem GV (hl:aO l) {q:Int} (q0:0<=q) (hq:q<l.length):0<=phi l q/\phi l q<l.length:=by
 have h:=jJ (l:=l) hl;have hlen:=h.1.length_eq;rw[bF] at hlen;exact aW.1 (h.1.subset (bH q0 G))
theorem aZs (hl:aO l) {i:Int} (i0:0<=i) (hi:i<l.length):phi l (lfC l i)=i:=by
 obtain⟨q,q0,q1,e,f⟩:=UK (l:=l) hl i0 hi;rw[f];exact e
theorem ZF (hl:aO l) {i k:Int} (i0:0<=i) (h:i<k) (hk:k<l.length):tl l (phi l i) (phi l k):=by
 have hlen:=(jJ (l:=l) hl).1.length_eq;rw[bF] at hlen;exact dW (jJ (l:=l) hl).2 i0 h G
def uw (l:List Int):Nat->Int->Int
 |0,i=>rd l (phi l i)
 |d+1,i=>uw l d (phi l i)
def U (l:List Int) (i:Int) (d:Nat):Int:=uw l d i
theorem uT (i:Int):U l i 0=rd l (phi l i):=by unfold U;rw[uw]
theorem xH (i:Int) (d:Nat):U l i (d+1)=U l (phi l i) d:=by unfold U;rw[uw]
theorem aSg (hl:aO l): ∀(d:Nat) (i k:Int),0<=i->i<k->k<l.length->(∀e,e<d->U l i e=U l k e)->U l i d<=U l k d
 |0,i,k,i0,h,hk,_=>by
  have:=ZF hl i0 h hk;rw[uT,uT];unfold tl at this;omega
 |d+1,i,k,i0,h,hk,he=>by
  have h0:=he 0 G;rw[uT,uT] at h0;have ht:=ZF hl i0 h hk;unfold tl at ht;have Is:=GV hl (q:=i) i0 G;have kx:=GV hl (q:=k) G hk;rw[xH,xH];refine aSg hl d _ _ Is.1 G kx.2 λe he'=> ?_;have:=he (e+1) G;rwa[xH,xH] at this
theorem aSh (hl:aO l) {i k:Int} (i0:0<=i) (h:i<=k) (hk:k<l.length): ¬Lt (U l k) (U l i):=by
 rintro⟨d,h1,h2⟩;rcases ay i k with a|a
 ·have:=aSg hl d i k i0 a hk λe he=>(h1 e he).symm;omega
 ·obtain rfl:i=k:=G
  omega
theorem phi_mono (hl:aO l) {i k:Int} (i0:0<=i) (h:i<k) (hk:k<l.length) (he: ∀d,U l i d=U l k d):phi l i<phi l k/\ ∀d,U l (phi l i) d=U l (phi l k) d:=by
 have ht:=ZF hl i0 h hk;have h0:=he 0;rw[uT,uT] at h0;unfold tl at ht;refine⟨G,λd=> ?_⟩;have:=he (d+1);rwa[xH,xH] at this
def iK (l:List Int):Nat->Int->Int
 |0,i=>i
 |b+1,i=>iK l b (phi l i)
theorem rY (hl:aO l): ∀(b:Nat) {i:Int},0<=i->i<l.length->0<=iK l b i/\iK l b i<l.length
 |0,i,i0,hi=>⟨i0,hi⟩
 |b+1,i,i0,hi=>by
  have h:=GV hl i0 hi;exact rY hl b h.1 h.2
theorem BD (hl:aO l): ∀(b:Nat) {i k:Int},0<=i->i<k->k<l.length->(∀d,U l i d=U l k d)->iK l b i<iK l b k/\ ∀d,U l (iK l b i) d=U l (iK l b k) d
 |0,i,k,_,h,_,he=>⟨h,he⟩
 |b+1,i,k,i0,h,hk,he=>by
  have h1:=phi_mono hl i0 h hk he;have Is:=GV hl (q:=i) i0 G;have kx:=GV hl (q:=k) G hk;exact BD hl b Is.1 h1.1 kx.2 h1.2
theorem uU (i:Int): ∀(b d:Nat),U l (iK l b i) d=U l i (b+d)
 |0,d=>by rw[ni];rfl
 |b+1,d=>by
  rw[iK,uU (phi l i) b d,<-xH,show b+d+1=b+1+d by omega]
theorem nG (i:Int): ∀(a b:Nat),iK l (a+b) i=iK l b (iK l a i)
 |0,b=>by rw[ni];rfl
 |a+1,b=>by rw[show a+1+b=(a+b)+1 by omega,iK,nG (phi l i) a b];rfl
theorem aEd (hl:aO l) {i:Int} (i0:0<=i) (hi:i<l.length) {b:Nat} (h:i<iK l b i) (he: ∀d,U l i d=U l (iK l b i) d): ∀t:Nat,i+t<=iK l (t*b) i
 |0=>by rw[Eo];show i+0<=i;omega
 |t+1=>by
  have ih:=aEd hl i0 hi h he t;have hk:=rY hl b i0 hi;have h1:=(BD hl (t*b) i0 h hk.2 he).1;rw[<-nG i b (t*b),show b+t*b=(t+1)*b by rw[Em];omega] at h1;omega
theorem aEe (hl:aO l) {i:Int} (i0:0<=i) (hi:i<l.length) {b:Nat} (h:iK l b i<i) (he: ∀d,U l i d=U l (iK l b i) d): ∀t:Nat,iK l (t*b) i+t<=i
 |0=>by rw[Eo];show i+0<=i;omega
 |t+1=>by
  have ih:=aEe hl i0 hi h he t;have hk:=rY hl b i0 hi;have h1:=(BD hl (t*b) hk.1 h hi λd=>(he d).symm).1;rw[<-nG i b (t*b),show b+t*b=(t+1)*b by rw[Em];omega] at h1;omega
theorem aMb (hl:aO l) {i:Int} (i0:0<=i) (hi:i<l.length) {b:Nat} (da:iK l b i≠i): ¬ ∀d,U l i d=U l (iK l b i) d:=λhe=>by
 rcases ay i (iK l b i) with h|h
 ·have:=aEd hl i0 hi h he (l.length+1);have:=rY hl ((l.length+1)*b) i0 hi;omega
 ·have:=aEe hl i0 hi G he (l.length+1);have:=rY hl ((l.length+1)*b) i0 hi;omega
theorem aVo (hl:aO l):(((iota l.length).map (lfC l))).Perm (iota ((iota l.length).map (lfC l)).length):=by
 rw[bi,bF];exact zW (λx h0 h1=>UL (l:=l) hl h0 h1) λx y x0 x1 y0 y1 e=>aOo (l:=l) hl x0 x1 y0 y1 e
def lfL (l:List Int):List Int:=(iota l.length).map (lfC l)
theorem nC (l:List Int):(lfL l).length=l.length:=by unfold lfL;rw[bi,bF]
theorem aZn {i:Int} (i0:0<=i) (hi:i<l.length):rd (lfL l) i=lfC l i:=by
 unfold lfL;rw[uA i0 (by rw[bF];exact hi),vJ i0 hi]
theorem lV (hl:aO l):(lfL l).Perm (iota (lfL l).length):=aVo hl
theorem TQ (hl:aO l) {i:Int} (i0:0<=i) (hi:i<l.length): ∀b:Nat,iK l b (pit (lfL l) b i)=i
 |0=>rfl
 |b+1=>by
  have h:=rX (lV hl) i0 (by rw[nC];exact hi) b;rw[nC] at h;rw[iK,pit,aZn h.1 h.2,aZs hl h.1 h.2];exact TQ hl i0 hi b
section
variable {i:Int} {c:List Int} (hl:aO l) (i0:0<=i) (hi:i<l.length) (hc:Ring (lfL l) i c)
include hl i0 hi hc
theorem vH {b:Nat} (hb:b<=c.length):iK l b i=pit (lfL l) (c.length-b) i:=by
 have h:=TQ hl (rX (lV hl) i0 (by rw[nC];exact hi) (c.length-b)).1 (by have:=(rX (lV hl) i0 (by rw[nC];exact hi) (c.length-b)).2;rw[nC] at this;exact this) b;rw[<-aDr,show c.length-b+b=c.length by omega,hc.close] at h;exact h
theorem FZ:iK l c.length i=i:=by
 rw[vH hl i0 hi hc (dh _),Bc];rfl
theorem TF:Per (U l i) c.length:=λd=>by
 rw[wh,<-uU,FZ hl i0 hi hc]
theorem QZ {d:Nat} (hd:d<c.length):rd (jU l c) d=U l i d:=by
 have h1:rd (jU l c) d=rd l (rd c ((c.length-1-d:Nat):Int)):=by
  unfold jU;rw[uA G (by rw[oz];omega)];congr 1;rw[gM (by rw[oz];exact hd),Dr,gM G]
 have h2:U l i d=rd l (iK l (d+1) i):=by
  have:=uU (l:=l) i d 0;rw[qa,uT] at this;rw[<-this,nG i d 1];rfl
 rw[h1,h2,hc.at_ _ G,vH hl i0 hi hc G,show c.length-(d+1)=c.length-1-d by omega]
theorem EY:om (jU l c)=U l i:=by
 funext d;have hp:=hc.pos
 have h1:om (jU l c) d=rd (jU l c) ((d%c.length:Nat):Int):=by
  unfold om rd;rw[mH,az]
 rw[h1,QZ hl i0 hi hc (yg _ hp)];exact(TF hl i0 hi hc).mod d
theorem GA {r:Nat} (r0:0<r) (hr:r<c.length):i<iK l r i:=by
 rw[vH hl i0 hi hc G];have h1:=hc.least _ (bH (L:=c) (k:=((c.length-r:Nat):Int)) G G);rw[hc.at_ _ G] at h1;rcases ay i (pit (lfL l) (c.length-r) i) with g|g
 ·exact g
 ·exfalso
  have e:rd c ((c.length-r:Nat):Int)=rd c ((0:Nat):Int):=by
   rw[hc.at_ _ G,hc.at_ 0 hc.pos];show _=i;omega
  have:=jG hc.nodup G G G (by have:=hc.pos;omega) e;omega
theorem aMp:uY (jU l c)=true:=by
 rw[uX,mH];refine⟨hc.pos,λr r0 hr=> ?_⟩;have hot:=GA hl i0 hi hc r0 hr;have cm:=rY hl r i0 hi;have hnl:=aSh hl i0 (Ej hot) cm.2;have da:=aMb hl i0 hi (b:=r) G
 have aw:Lt (U l i) (U l (iK l r i)):=by
  rcases IP (U l i) (U l (iK l r i)) with a|a|a
  ·exact a
  ·exact absurd a da
  ·exact absurd a hnl
 obtain⟨d,h1,h2⟩:=aw;have Qf: ∀e,U l (iK l r i) e=U l i (r+e):=λe=>uU i r e;rw[Qf] at h2
 have hdm:d<c.length-r:=by
  rcases fe d (c.length-r) with g|g
  ·exact g
  ·exfalso;have mm:=TF hl i0 hi hc;have Lj:=GA hl i0 hi hc (r:=c.length-r) G G;have Uc:=rY hl (c.length-r) i0 hi;refine aSh hl i0 (Ej Lj) Uc.2 ⟨d-(c.length-r),λe he=> ?_,?_⟩
   ·rw [uU];have:=h1 (c.length-r+e) G;rw[this,Qf,show r+(c.length-r+e)=e+c.length by omega,mm]
   ·rw [uU,show c.length-r+(d-(c.length-r))=d by omega];rw[show r+d=(d-(c.length-r))+c.length by omega,mm] at h2;exact h2
 rw[nY _ _ (by rw[bg,mH];omega),bg,mH]
 have aw: ∀e,e<c.length->lt (jU l c) e=U l i e:=λe he=>by
  rw[<-QZ hl i0 hi hc he];unfold lt rd;rw[az]
 refine⟨d,hdm,λe he=> ?_,?_⟩
 ·rw[gY,aw e G,aw (r+e) G,h1 e he,Qf]
 ·rw [gY,aw d G,aw (r+d) G];exact h2
end
end
end Go.Pure
namespace Go.Pure
open Go Go.Eng
theorem IC {w:List Int} {e:Nat} (h:e<w.length):om w e=lt w e:=CW h
theorem aFn {v:List Int} (h:uY v=true) {r:Nat} (r0:0<r) (hr:r<v.length): ∃d,d<v.length-r/\(∀e,e<d->lt v e=lt v (r+e))/\lt v d<lt v (r+d):=by
 have:=((uX v).1 h).2 r r0 hr;rw[nY _ _ (by rw[bg];omega),bg] at this;obtain⟨d,h1,h2,h3⟩:=this;refine⟨d,h1,λe he=> ?_,?_⟩
 ·rw[h2 e he,gY]
 ·rwa[gY] at h3
theorem longer {w v:List Int} (hw:0<w.length) (hv:uY v=true) (hlen:w.length<v.length) (n8: ∀e,e<w.length->lt v e=lt w e):Lt (om w) (om v):=by
 obtain⟨d,h1,h2,h3⟩:=aFn hv hw hlen;have mm:=uD w
 have agr: ∀e,e<w.length+d->lt v e=om w e:=by
  intro e
  induction e using Nat.strongRecOn with
  | ind e ih=>
   intro he;rcases fe e w.length with g|g
   ·rw[n8 e g,IC g]
   ·have e1:=h2 (e-w.length) G;rw[show w.length+(e-w.length)=e by omega] at e1;have e2:=mm (e-w.length);rw[show e-w.length+w.length=e by omega] at e2;rw[<-e1,e2];exact ih (e-w.length) G G
 refine⟨w.length+d,λf hf=> ?_,?_⟩
 ·rw[IC (w:=v) G,agr f hf]
 ·rw [IC (w:=v) G];have e1:=mm d;rw[wh d w.length] at e1;rw[e1,<-agr d G];exact h3
theorem aEh: ∀(ws:List (List Int)) (m:Nat),0<m->m<=ws.flatten.length-> ∃v∈ws,∃r,r<m/\m<=r+v.length/\ ∀e,e<v.length->lt ws.flatten (r+e)=lt v e
 |[],m,h0,h=>by simp at h;omega
 | w::ws,m,h0,h=>by
  rw[qm,ah] at h;rcases fe w.length m with g|g
  ·obtain ⟨v,hv,r,h1,h2,h3⟩:=aEh ws (m-w.length) G G;refine⟨v,dw _ hv,w.length+r,G,G,λe he=> ?_⟩;rw[qm,<-h3 e he];unfold lt;rw[af,af,iy G,show w.length+r+e-w.length=r+e by omega]
  ·refine ⟨w,cD,0,h0,G,λe he=> ?_⟩;rw[qm,ni];unfold lt;rw[af,af,je he]
theorem aIo {w:List Int} {ws:List (List Int)} (hw:uY w=true) (hws: ∀v∈ws,uY v=true) (mj: ∀v∈ws,¬Lt (om w) (om v)):lU (w++ws.flatten) (w++ws.flatten).length=w.length:=by
 have db:=((uX w).1 hw).1;refine BK (by rw[Eb];exact hw;rfl) _ cD λm h1 h2=> ?_;cases hb:uY ((w++ws.flatten).take m) with
 |false=>rfl
 | true=>
  exfalso;rw[ah] at h2;obtain⟨v,hv,r,r1,r2,r3⟩:=aEh ws (m-w.length) G G;have Uj:((w++ws.flatten).take m).length=m:=by rw[ax,ah];omega
  obtain⟨d,d1,d2,d3⟩:=aFn hb (r:=w.length+r) G G;rw[Uj] at d1;have hs: ∀e,e<m->lt ((w++ws.flatten).take m) e=lt (w++ws.flatten) e:=λe he=>lt_take he
  have yq: ∀e,e<w.length->lt (w++ws.flatten) e=lt w e:=λe he=>by
   unfold lt;rw[af,af,je he]
  have Ye: ∀e,e<v.length->lt (w++ws.flatten) (w.length+r+e)=lt v e:=λe he=>by
   rw[<-r3 e he];unfold lt;rw[af,af,iy G,show w.length+r+e-w.length=r+e by omega]
  have hlv:=hws v hv
  have q2: ∀e,e<d->lt (w++ws.flatten) e=lt v e:=λe he=>by
   have:=d2 e he;rwa[hs _ G,hs _ G,Ye e G] at this
  have q3:lt (w++ws.flatten) d<lt v d:=by rwa[hs _ G,hs _ G,Ye d G] at d3
  rcases fe d w.length with g|g
  ·refine mj v hv ⟨d,λe he=> ?_,?_⟩
   ·rw[IC (w:=w) G,IC (w:=v) G,<-q2 e he,yq e G]
   ·rw [IC (w:=w) g,IC (w:=v) G,<-yq d g];exact q3
  ·exact mj v hv (longer db hlv G λe he=>by rw[<-q2 e G,yq e he])
theorem aEl: ∀ {ws:List (List Int)},(∀v∈ws,uY v=true)->ws.Pairwise (λa b=> ¬Lt (om a) (om b))->fB ws.flatten=ws.map λw=>(w.length:Int)
 |[],_,_=>VD rfl
 |w::ws,hl,hp=>by
  obtain⟨h1,h2⟩:=iv.1 hp;have hw:=hl w cD;have db:=((uX w).1 hw).1;have hf:=aIo hw (λv hv=>hl v (dw _ hv)) h1;rw[qm,NN (by rw[ah];omega),hf,Dz,kv,aEl (λv hv=>hl v (dw _ hv)) h2];rfl
theorem ZC (ws:List (List Int)) (k:Nat):ps (ws.map λw=>(w.length:Int)) k=((ws.take k).flatten.length:Int):=by
 unfold ps;rw[az,<-Bl]
 induction ws.take k with
 |nil=>rfl
 |cons w l ih=>rw[kv,xg,ih,qm,ah];omega
theorem aJj (ws:List (List Int)):gF ws.flatten (ws.map λw=>(w.length:Int)) ws.length=ws:=by
 refine ve (by rw[rT];omega) λk h1 h2=> ?_;simp only[gF,Ay,List.getElem_range];rw[ZC,az,gM (by rw[bi];exact h2),Ay,az]
 have e:ws.flatten=(ws.take k).flatten++(ws[k]++(ws.drop (k+1)).flatten):=by
  conv=>lhs;rw[<-gq k ws,jw h2]
  rw[ow,qm]
 rw[e,Dz rfl,Eb rfl]
theorem aJv {ws:List (List Int)} (hl: ∀v∈ws,uY v=true) (hp:ws.Pairwise (λa b=> ¬Lt (om a) (om b))):bws ws.flatten=ws:=by
 unfold bws;rw[aEl hl hp,bi];exact aJj ws
end Go.Pure
namespace Go.Pure
open Go Go.Eng
section
variable {l:List Int}
def iJ (l:List Int):List (List Int):=((dX (lfL l)).reverse).map (jU l)
theorem aBv (l:List Int):backL l (dX (lfL l))=(iJ l).flatten:=rfl
theorem yH (hl:aO l) {c:List Int} (hc:c∈dX (lfL l)): ∃i:Int,(0<=i/\i<l.length)/\Ring (lfL l) i c/\rd c 0=i:=by
 obtain⟨i,h,r⟩:=(aAt (lV hl)).ring c hc;rw[nC] at h;exact⟨i,h,r,r.at_ 0 r.pos⟩
theorem aGs (hl:aO l): ∀v∈iJ l,uY v=true:=λv hv=>by
 obtain⟨c,hc,rfl⟩:=il.1 hv;obtain⟨i,h,r,_⟩:=yH hl (Ba.1 hc);exact aMp hl h.1 h.2 r
theorem YS (hl:aO l):(iJ l).Pairwise (λa b=> ¬Lt (om a) (om b)):=by
 unfold iJ;rw[Hd];refine List.pairwise_reverse.2 (ik.2 ?_);refine mr (λ{c d} hc hd h=> ?_) (aAt (lV hl)).heads;obtain⟨i,hi,r,e⟩:=yH hl hc;obtain⟨k,hk,q,f⟩:=yH hl hd;rw[EY hl hi.1 hi.2 r,EY hl hk.1 hk.2 q];exact aSh hl hi.1 G hk.2
theorem JP (hl:aO l):bws (backL l (dX (lfL l)))=iJ l:=by
 rw[aBv];exact aJv (aGs hl) (YS hl)
theorem bCn {ws:List (List Int)} {w:Int} {j:Nat}:tw ws (w,(j:Int))=λd=>om (rdl ws w) (j+d):=by
 funext d;unfold tw om;simp only[az]
theorem MN (hl:aO l) {i:Int} {c:List Int} (i0:0<=i) (hi:i<l.length) (hc:Ring (lfL l) i c):((List.range c.length).map λj=>iK l j i).Perm c:=by
 have db:=hc.pos
 have k9: ∀j,j<c.length->iK l j i=rd c (((c.length-j)%c.length:Nat):Int):=λj hj=>by
  rw[vH hl i0 hi hc G];rcases dx j with z|z
  ·subst z;rw[yc,hc.close,Nat.mod_self,hc.at_ 0 db];rfl
  ·rw[lc G,hc.at_ _ G]
 refine pF ?_ (λx hx=> ?_) cD
 ·refine ik.2 (mr (λ{a b} ha hb sd e=> ?_) vk);have ha:=ji.1 ha;have hb:=ji.1 hb;rw[k9 a ha,k9 b hb] at e;have h1:=yg (c.length-a) db;have h2:=yg (c.length-b) db;have:=jG hc.nodup G G G G e;have e3:(c.length-a)%c.length=(c.length-b)%c.length:=G
  refine sd ?_;rcases dx a with z|z
  ·rcases dx b with y|y
   ·omega
   ·rw[z,yc,Nat.mod_self,lc G] at e3;omega
  ·rcases dx b with y|y
   ·rw[y,yc,Nat.mod_self,lc G] at e3;omega
   ·rw[lc G,lc G] at e3;omega
 ·obtain ⟨j,hj,rfl⟩:=il.1 hx;have hj:=ji.1 hj;have h1:=yg (c.length-j) db;rw[k9 j hj];exact bH G G
theorem wK (hl:aO l): ∀k:Nat,k<=(dX (lfL l)).length->((iI (iJ l) k).map (tw (iJ l))).Perm (((((dX (lfL l)).reverse).take k).flatten).map (U l))
 |0,_=> .refl _
 | k+1,hk=>by
  have ih:=wK hl k G;have aw:k<(dX (lfL l)).reverse.length:=by rw[oz];omega
  rw[iI,jh,qp,av aw,ow,jh];refine ih.append ?_;simp only[Bz,qm,Ha,jo];have jt:(dX (lfL l)).reverse[k]∈dX (lfL l):=Ba.1 (kz aw)
  have Fr:rdl (iJ l) (k:Int)=jU l (dX (lfL l)).reverse[k]:=by
   unfold rdl iJ;rw[az,af,qo,av aw];rfl
  generalize (dX (lfL l)).reverse[k]=c at jt Fr;obtain⟨i,hi,r,_⟩:=yH hl jt;have h1:=(MN hl hi.1 hi.2 r).map (U l);refine List.Perm.trans (.of_eq ?_) h1;rw[Fr,mH];unfold turnsOf;rw[xz,xz];refine Bi λj _=> ?_;show tw (iJ l) ((k:Int),(j:Int))=U l (iK l j i);rw[bCn,Fr,EY hl hi.1 hi.2 r];funext d;rw[uU]
theorem AY (hl:aO l) {q:Int} (q0:0<=q) (hq:q<l.length): ∃m:Nat,0<m/\iK l m q=q:=by
 have hp:=BQ (lV hl);obtain⟨c,hc,hqc⟩:=Az.1 (hp.symm.subset (aW.2 ⟨q0,by rw[nC];exact hq⟩));obtain⟨i,hi,r,_⟩:=yH hl hc;obtain⟨j,hj,e⟩:=il.1 ((MN hl hi.1 hi.2 r).symm.subset hqc);refine⟨c.length,r.pos,?_⟩;rw[<-e,<-nG,wh,nG,FZ hl hi.1 hi.2 r]
theorem TR {q:Int} {m:Nat} (h:iK l m q=q): ∀t:Nat,iK l (t*m) q=q
 |0=>by rw[Eo];rfl
 |t+1=>by rw[Em,nG,TR h t,h]
theorem aCa {q:Int} {m t:Nat} (hm:iK l m q=q) (m0:0<m) (t0:0<t):U l q (m*t-1)=rd l q:=by
 have h:=TR hm t;rw[zt] at h;have db:0<m*t:=Iw m0 t0;have h2:=uU (l:=l) q (m*t-1) 0;rw[qa,uT] at h2;rw[<-h2];have h3:=nG (l:=l) q (m*t-1) 1;rw[show m*t-1+1=m*t by omega,h] at h3;rw[show phi l (iK l (m*t-1) q)=iK l 1 (iK l (m*t-1) q) from rfl,<-h3]
theorem aFu (hl:aO l) {T:List (Int × Int)} (hp:T.Perm (iI (bws (backL l (dX (lfL l)))) (bws (backL l (dX (lfL l)))).length)) (ho:T.Pairwise (pR (bws (backL l (dX (lfL l)))))):T.map (lastB (bws (backL l (dX (lfL l)))))=l:=by
 rw[JP hl] at hp ho ⊢;have hlen:(iJ l).length=(dX (lfL l)).length:=by unfold iJ;rw[bi,oz]
 have h1:(T.map (tw (iJ l))).Perm ((iota l.length).map (U l)):=by
  refine(hp.map _).trans ?_;rw[hlen];refine(wK hl _ (dh _)).trans ?_;rw[bn (by rw[oz];exact dh _)];have hc:=BQ (lV hl);rw[nC] at hc;exact(((List.reverse_perm _).flatten).trans hc).map _
 have s1:(T.map (tw (iJ l))).Pairwise λa b=> ¬Lt b a:=ik.2 (ho.imp λ{t u} h aw=>by
  rcases h with h|h
  ·exact h.asymm aw
  ·exact aw.not_eq λi=>(h.1 i).symm)
 have s2:((iota l.length).map (U l)).Pairwise λa b=> ¬Lt b a:=ik.2 (mr (λ{i k} hi hk h=>by
  have hi:=aW.1 hi;have hk:=aW.1 hk
  exact aSh hl hi.1 (Ej h) hk.2) (zC l.length))
 have same:T.map (tw (iJ l))=(iota l.length).map (U l):=h1.eq_of_pairwise (λa b _ _ x y=>by
  rcases IP a b with z|z|z
  ·exact absurd z y
  ·exact funext z
  ·exact absurd z x) s1 s2
 have Tg:T.length=l.length:=by
  have:=bz List.length same;rwa[bi,bi,bF] at this
 refine bI (by rw[bi];exact Tg) λq q0 q1=> ?_;rw[bi] at q1;rw[aTy q0 q1];have hv:=yY.1 (hp.subset (lM (l:=T) q0 q1))
 have hU:tw (iJ l) (rdp T q)=U l q:=by
  have e1:(T.map (tw (iJ l)))[q.toNat]? =some (tw (iJ l) (rdp T q)):=by
   rw[qo,av G];unfold rdp;rw[af,av G];rfl
  have e2:((iota l.length).map (U l))[q.toNat]? =some (U l q):=by
   rw[qo,av (by rw[bF];omega)];have:=vJ (n:=l.length) q0 G;rw[eQ q0 (by rw[bF];omega)] at this;rw[this];rfl
  rw[same,e2] at e1;exact(iw e1).symm
 obtain⟨m,m0,hm⟩:=AY hl q0 (by omega:q<l.length);obtain⟨a1,a2,a3,a4⟩:=hv;have Vm:0<(rdl (iJ l) (rdp T q).1).length:=G
 generalize Jq:(rdl (iJ l) (rdp T q).1).length=wl at Vm a4;have sp:U l q (m*wl-1)=rd l q:=aCa hm m0 Vm;rw[<-sp,<-hU];have db:0<m*wl:=Iw m0 Vm;unfold lastB tw rd;rw[Jq];congr 1;obtain⟨j,hj⟩: ∃j:Nat,(rdp T q).2=j:=⟨(rdp T q).2.toNat,G⟩;rw[hj,az,show(j:Int)+(wl:Int)-1=((j+wl-1:Nat):Int) by omega,<-zi,az]
 have e:j+(m*wl-1)=(j+wl-1)+wl*(m-1):=by
  obtain⟨m',rfl⟩: ∃m',m=m'+1:=⟨m-1,G⟩;rw[Em,Nat.add_sub_cancel,zt wl m'];omega
 rw[e,Nat.add_mul_mod_self_left]
end
def aFd:List Int:=(List.range 256).map λc:Nat=>(c:Int)
theorem MZ {x:Int}:x∈aFd↔0<=x/\x<256:=by
 unfold aFd;rw[il];constructor
 ·rintro ⟨c,hc,rfl⟩;have:=ji.1 hc;omega
 ·intro h;exact⟨x.toNat,ji.2 G,G⟩
theorem WX:aFd.Nodup:=ik.2 (List.Pairwise.imp (λh e=>h G) vk)
def QN:Nat->List (List Int)
 |0=>[[]]
 |n+1=>aFd.flatMap λc=>(QN n).map λw=>c::w
theorem nH: ∀ {n:Nat} {w:List Int},w∈QN n↔w.length=n/\aO w
 |0,w=>by
  rw[QN,jc];exact⟨λh=>by subst h;exact⟨rfl,λx hx=>by cases hx⟩,λh=>ed h.1⟩
 | n+1,w=>by
  rw[QN,He];constructor
  ·rintro ⟨c,hc,hw⟩;obtain⟨v,hv,rfl⟩:=il.1 hw;have hv:=nH.1 hv;refine⟨by simp[hv.1],λx hx=> ?_⟩;rcases jf.1 hx with rfl|hx
   ·exact MZ.1 hc
   ·exact hv.2 x hx
  ·rintro ⟨hl,hb⟩;cases w with
   |nil=>simp at hl
   |cons c v=>exact⟨c,MZ.2 (hb c cD),il.2 ⟨v,nH.2 ⟨by simpa using hl,λx hx=>hb x (dw _ hx)⟩,rfl⟩⟩
theorem JX: ∀n:Nat,(QN n).Nodup
 |0=>by rw[QN];exact ql _ _
 |n+1=>by
  rw[QN];refine List.pairwise_flatMap.2 ⟨λc _=>ik.2 ((JX n).imp λh e=>h (List.cons.inj e).2),WX.imp λ{c d} h x hx y hy e=> ?_⟩;obtain⟨v,_,rfl⟩:=il.1 hx;obtain⟨w,_,rfl⟩:=il.1 hy;exact h (List.cons.inj e).1
theorem aRu {l k:List Int} (hl:aO l) (hk:aO k) (hlen:l.length=k.length) (h:backL l (dX (lfL l))=backL k (dX (lfL k))):l=k:=by
 have hw:iJ l=iJ k:=by rw[<-JP hl,<-JP hk,h]
 have all: ∀ {x:List Int},aO x->((iI (iJ x) (iJ x).length).map (tw (iJ x))).Perm ((iota x.length).map (U x)):=λ{x} hx=>by
  have Rp:(iJ x).length=(dX (lfL x)).length:=by unfold iJ;rw[bi,oz]
  rw[Rp];refine(wK hx _ (dh _)).trans ?_;rw[bn (by rw[oz];exact dh _)];have hc:=BQ (lV hx);rw[nC] at hc;exact(((List.reverse_perm _).flatten).trans hc).map _
 have Yv: ∀ {x:List Int},aO x->((iota x.length).map (U x)).Pairwise λa b=> ¬Lt b a:=λ{x} hx=>ik.2 (mr (λ{i k} hi hk h=>by
  have hi:=aW.1 hi;have hk:=aW.1 hk
  exact aSh hx hi.1 (Ej h) hk.2) (zC x.length))
 have h1:=all hl;rw[hw] at h1
 have same:(iota l.length).map (U l)=(iota k.length).map (U k):=(h1.symm.trans (all hk)).eq_of_pairwise (λa b _ _ x y=>by
  rcases IP a b with z|z|z
  ·exact absurd z y
  ·exact funext z
  ·exact absurd z x) (Yv hl) (Yv hk)
 refine bI hlen λq q0 q1=> ?_
 have at_: ∀ {x:List Int},q<x.length->((iota x.length).map (U x))[q.toNat]? =some (U x q):=λ{x} hx=>by
  rw[qo,av (by rw[bF];omega)];have:=vJ (n:=x.length) q0 hx;rw[eQ q0 (by rw[bF];omega)] at this;rw[this];rfl
 have e:=at_ q1;rw[same,at_ G] at e;have eU:U k q=U l q:=iw e;obtain⟨m,m0,hm⟩:=AY hl q0 q1;obtain⟨m',Yj,u4⟩:=AY hk q0 (by omega:q<k.length);have a:=aCa hm m0 Yj;have b:=aCa u4 Yj m0;rw[zt,eU,a] at b;exact b
theorem aKf {s:List Int} (hs:aO s): ∃l:List Int,aO l/\l.length=s.length/\backL l (dX (lfL l))=s:=by
 have hp:((QN s.length).map λl=>backL l (dX (lfL l))).Perm (QN s.length):=by
  refine pF ?_ (λx hx=> ?_) cD
  ·refine ik.2 (mr (λ{a b} ha hb sd e=> ?_) (JX _));have ha:=nH.1 ha;have hb:=nH.1 hb;exact sd (aRu ha.2 hb.2 G e)
  ·obtain ⟨l,hl,rfl⟩:=il.1 hx;have hl:=nH.1 hl;exact nH.2 ⟨by rw[aKg,WB (lV hl.2),nC,hl.1],aKh hl.2 _⟩
 obtain⟨l,hl,e⟩:=il.1 (hp.symm.subset (nH.2 ⟨rfl,hs⟩));have hl:=nH.1 hl;exact⟨l,hl.2,hl.1,e⟩
theorem OB {s:List Int} (hs:aO s) {T:List (Int × Int)} (hp:T.Perm (iI (bws s) (bws s).length)) (ho:T.Pairwise (pR (bws s))):backL (T.map (lastB (bws s))) (dX (lfL (T.map (lastB (bws s)))))=s:=by
 obtain⟨l,hl,_,e⟩:=aKf hs;subst e;rw[aFu hl hp ho]
end Go.Pure
namespace Go.Pure
open Go Go.Eng
variable {t o:Int} {n k:Nat} {u w:List Int}
noncomputable def jZ (t o:Int) (n:Nat) (u:List Int) (k:Nat):List Int:=
 (((List.range (chK u.length n)).drop k).map λj=>dM t o ((u.drop (j*n)).take n)).flatten++(bQ 0++bQ u.length)
theorem aGt (h:chK u.length n<=k):jZ t o n u k=bQ 0++bQ u.length:=by
 unfold jZ;rw[xx (by rw[Fx];exact h)];rfl
theorem YU (h:k<chK u.length n):jZ t o n u k=dM t o ((u.drop (k*n)).take n)++jZ t o n u (k+1):=by
 unfold jZ;rw[jw (by rw[Fx];exact h),kv,qm,List.getElem_range,ig]
theorem aIv (t so o sz:Int) (u:List Int):nR t so o sz u=[87,72,82,76,1]++([t,so,o]++(bQ sz++jZ t o sz.toNat u 0)):=by
 unfold nR jZ kN;rw[Ev];simp
theorem bBc {m:Nat} (hn:1<=n):k<chK m n↔k*n<m:=by
 unfold chK;rw[Nat.lt_iff_add_one_le,Nat.le_div_iff_mul_le hn,xm,Ce];omega
theorem aO.back {x y:List Int} (h:aO (x++y)):aO y:=λz hz=>h z (List.mem_append_right _ hz)
theorem JB {so sz:Int} (hu:aO u) (hS:u.length<=400) (ht:0<=t/\t<256) (hs:0<=so/\so<256) (ho:0<=o/\o<256) (hz:1<=sz/\sz<=16777216):aO (nR t so o sz u)/\(nR t so o sz u).length<=400000:=by
 have e1:=lH (t:=t) (o:=o) (n:=sz.toNat) hu G (chK u.length sz.toNat);have e2:chK u.length sz.toNat<=u.length:=aBg G;have e3:(2*u.length+22)*chK u.length sz.toNat<=822*400:=Ex G G;have e4:=eF 4 sz G;have e5:=eF 4 (u.length:Int) G;have e6:(bQ 0).length=1:=rfl;unfold nR;refine⟨λx hx=> ?_,by simp only[ah,dm,jy];omega⟩;rcases fw.1 hx with hx|hx
 ·rcases fw.1 hx with hx|hx
  ·rcases fw.1 hx with hx|hx
   ·simp only[jd,jb,jf,yf,or_false] at hx;omega
   ·exact eY G x hx
  ·exact e1.2 x hx
 ·rcases fw.1 hx with hx|hx
  ·exact eY G x hx
  ·exact eY G x hx
def pU (w:List Int) (n k:Nat):List Int:=(w.drop (k*n)).take n
theorem aRj (w:List Int) (n k:Nat):(pU w n k).length=min n (w.length-k*n):=by unfold pU;rw[ax,bg]
theorem aJs (w:List Int) (n k:Nat):w.take ((k+1)*n)=w.take (k*n)++pU w n k:=by
 unfold pU;rw[xm,Ce,Gs]
theorem aBe (h:aO w) (n k:Nat):aO (pU w n k):=(h.drop _).take _
noncomputable def mD (t o:Int) (b r:List Int):List Int:=(kW t b).1++(bQ (dJ (kW t b).2 o).length++(iE (bv (jS b))++(dJ (kW t b).2 o++r)))
theorem YV (h:k<chK w.length n):jZ t o n w k=bQ (pU w n k).length++mD t o (pU w n k) (jZ t o n w (k+1)):=by
 rw[YU h];unfold dM mD pU;simp only[ig]
theorem SQ {α:Type} {r:α->α->Prop} (tr: ∀a b c,r a b->r b c->r a c) (a:α): ∀m:List α,m.Pairwise r->(∀b∈m,r a b\/r b a)-> ∃m':List α,m'.Perm (a::m)/\m'.Pairwise r
 |[],_,_=>⟨[a], .refl _,ql _ _⟩
 | b::m,hm,hr=>by
  obtain⟨h1,h2⟩:=iv.1 hm;rcases hr b cD with h|h
  ·exact⟨a::b::m, .refl _,iv.2 ⟨λc hc=>by
    rcases jf.1 hc with rfl|hc
    ·exact h
    ·exact tr _ _ _ h (h1 c hc),hm⟩⟩
  ·obtain ⟨m',hp,hs⟩:=SQ tr a m h2 λc hc=>hr c (dw _ hc);refine⟨b::m',(hp.cons b).trans (.swap a b m),iv.2 ⟨λc hc=> ?_,hs⟩⟩;rcases jf.1 (hp.subset hc) with rfl|hc
   ·exact h
   ·exact h1 c hc
theorem SS {α:Type} {r:α->α->Prop} (tr: ∀a b c,r a b->r b c->r a c): ∀l:List α,(l.Pairwise λa b=>r a b\/r b a)-> ∃m:List α,m.Perm l/\m.Pairwise r
 |[],_=>⟨[], .refl _, .nil⟩
 |a::l,h=>by
  obtain⟨h1,h2⟩:=iv.1 h;obtain⟨m,hp,hs⟩:=SS tr l h2;obtain⟨m',bw,dg⟩:=SQ tr a m hs λb hb=>h1 b (hp.subset hb);exact⟨m',bw.trans (hp.cons a),dg⟩
theorem aNs {ws:List (List Int)} {t u:Int × Int} (h:t≠u):pR ws t u\/pR ws u t:=by
 rcases IP (tw ws t) (tw ws u) with a|a|a
 ·exact .inl (.inl a)
 ·have hd:t.1≠u.1\/t.2≠u.2:=by
   rcases Int.decEq t.1 u.1 with c|c
   ·exact .inl c
   ·exact .inr λe=>h (Prod.ext c e)
  have:ltI t u\/ltI u t:=by unfold ltI;omega
  rcases this with g|g
  ·exact .inl (.inr ⟨a,g⟩)
  ·exact .inr (.inr ⟨λi=>(a i).symm,g⟩)
 ·exact .inr (.inl a)
theorem KS (ws:List (List Int)): ∃T:List (Int × Int),T.Perm (iI ws ws.length)/\T.Pairwise (pR ws):=
 SS (r:=pR ws) (λ_ _ _ h g=>ZI h g) _ ((tK ws _).imp λh=>aNs h)
end Go.Pure
namespace Go.Proofs.YtdbebmmhdefgdaaGreat
open Go Go.Eng Go.Pure
open Tryz
set_option maxRecDepth 100000
variable {B g gc nt ct lj ir ap an:Nat} {w0:World} {R X R0:List Row} {At im ao:Option Addr} {p1 p2 p3 ms tt ls:Int} {l b u s t:List Int}
theorem aRz (gr:RdC B w0 R im lj ir 1 (ints .u8 l)) (m9:lj=l.length):
  Ct Tryz.prog 161 #[PG g,sl im lj ir,sl none 0 0] B w0 ((rc 87 10 g [PG gc,I 0,I p1,I p2,I p3,I ms,I tt,I ls,sl At nt ct,sl none 0 0])::R) (λv R'=>v= .tuple #[sl im lj ir,I 0]/\R'=(rc 87 10 g [PG gc,I 0,I p1,I p2,I p3,I ms,I tt,I ls,sl At nt ct,sl none 0 0])::R):=by
 subst m9;refine fn2 Ia Z Z Z ?_;refine wq<|wg Z<|wn Z<|aG<|wq<|wm Z<|wy (aD Z)<|wy (aB (off:=1) (m:=1) gm Z gG Z Z Z)<|wy (aB (off:=0) (m:=1) df Z sz3 Z Z Z)<|wy (aK (rdr 0 Z) ak Z Z Z)<|aA<|aI ?_;refine wq<|wy (Yl.f (bC Z Z) cC)<|wn Z<|aL Z<|wq<|wy (Yl.f (bC Z Z) cC)<|wn Z<|aL Z<|wq<|wy (Yl.f (bC Z Z) cC) ?_;refine wn Z<|aL Z<|aJ<|wq<|wm Z<|wg Z<|wn Z<|bR (R1:=((rc 87 10 g [PG gc,I 0,I p1,I p2,I p3,I ms,I tt,I ls,sl At nt ct,sl none 0 0])::R)) (λ_ h=>h) ?_;refine⟨_,_,Z,Z,?_⟩;exact⟨Z,Z⟩
theorem aRy {uc:Option Addr} {ud:Nat} {at_:Int} (gr:RdC B w0 R im lj ir 1 (ints .u8 l)) (m9:lj=l.length) (xf:RdC B w0 R uc 1 ud 1 (ints .i64 [at_])) (i7:aO l) (cx:aKl l at_) (hb:lI l at_=b) (hN:l.length<=100000):
  Ct Tryz.prog 161 #[PG g,sl im lj ir,sl uc 1 ud] B w0 ((rc 87 10 g [PG gc,I 1,I p1,I p2,I p3,I ms,I tt,I ls,sl At nt ct,sl none 0 0])::R) (λv R'=> ∃(A8:Option Addr) (c8:Nat),v= .tuple #[sl A8 b.length c8,I 0]/\R'=(ru 5 A8 b.length c8 b)::(rc 87 10 g [PG gc,I 1,I p1,I p2,I p3,I ms,I tt,I ls,sl At nt ct,sl none 0 0])::R):=by
 subst m9;refine fn2 Ia Z Z Z ?_;refine wq<|wg Z<|wn Z<|aG<|wq<|wm Z<|wy (aD Z)<|wy (aB (off:=1) (m:=1) gm Z gG Z Z Z)<|wy (aB (off:=0) (m:=1) df Z sz3 Z Z Z)<|wy (aK (rdr 0 Z) ak Z Z Z)<|aA<|aI ?_;refine wq<|wy (Yl.t (bC Z Z) cC)<|wn Z<|bO Z<|wq<|wm Z<|wm Z<|wy (aH aa sz3 Z Z (RdC.right xf [_]) (by first|decide|omega) (by first|decide|omega)) ?_;refine wy (aX ak Z Z (RdC.right xf [_]) (by first|decide|omega) (by first|decide|omega)) ?_;refine wa (aF aYo Z (Ct.fresh (λw hw=>XC ((RdC.right gr [_]) w hw) i7 cx hN))) ?_;rintro _ _ ⟨_,rfl,bx,br,rfl,rfl⟩;refine wX Z Z<|wX Z Z<|wg Z<|wn Z<|bR (R1:=((ru 5 bx l.length br (lI l (rd ([at_]) 0)))::(rc 87 10 g [PG gc,I 1,I p1,I p2,I p3,I ms,I tt,I ls,sl At nt ct,sl none 0 0])::R)) (λ_ h=>h) ?_;refine⟨_,_,Z,Z,?_⟩;have xt:l.length=b.length:=by rw[<-hb,rH]
 rw[xt];have wc:lI l (rd [at_] 0)=b:=hb;rw[wc];exact⟨_,_,Z,Z⟩
theorem aRx (gr:RdC B w0 R im lj ir 1 (ints .u8 l)) (m9:lj=l.length) (i7:aO l) (hb:backL l (dX (fsL l))=b) (hN:l.length<=100000):
  Ct Tryz.prog 161 #[PG g,sl im lj ir,sl none 0 0] B w0 ((rc 87 10 g [PG gc,I 2,I p1,I p2,I p3,I ms,I tt,I ls,sl At nt ct,sl none 0 0])::R) (λv R'=> ∃(A8:Option Addr) (c8:Nat),v= .tuple #[sl A8 b.length c8,I 0]/\R'=(ru 5 A8 b.length c8 b)::(rc 87 10 g [PG gc,I 2,I p1,I p2,I p3,I ms,I tt,I ls,sl At nt ct,sl none 0 0])::R):=by
 subst m9;refine fn2 Ia Z Z Z ?_;refine wq<|wg Z<|wn Z<|aG<|wq<|wm Z<|wy (aD Z)<|wy (aB (off:=1) (m:=1) gm Z gG Z Z Z)<|wy (aB (off:=0) (m:=1) df Z sz3 Z Z Z)<|wy (aK (rdr 0 Z) ak Z Z Z)<|aA<|aI ?_;refine wq<|wy (Yl.f (bC Z Z) cC)<|wn Z<|aL Z<|wq<|wy (Yl.t (bC Z Z) cC)<|wn Z<|bO Z<|wq<|wm Z ?_;refine wa (aF aYn Z (Ct.fresh (λw hw=>JS ((RdC.right gr [_]) w hw) i7 hN))) ?_;rintro _ _ ⟨_,rfl,bx,br,rfl,rfl⟩;refine wX Z Z<|wX Z Z<|wg Z<|wn Z<|bR (R1:=((ru 5 bx ((backL l (dX (fsL l))).length) br (backL l (dX (fsL l))))::(rc 87 10 g [PG gc,I 2,I p1,I p2,I p3,I ms,I tt,I ls,sl At nt ct,sl none 0 0])::R)) (λ_ h=>h) ?_;refine⟨_,_,Z,Z,?_⟩;rw[hb];exact⟨_,_,Z,Z⟩
set_option maxHeartbeats 2000000 in
theorem aBr (am:RdC B w0 R0 ao ap an 1 (ints .u8 u)) (bl:ap=u.length) (hN:u.length<=1000000) (ac:aO u) (tj:nt=s.length) (hu:u=mD 0 p2 b t) (ce:aO b) (s9:b.length<=100000/\s.length<=100000) (hf:((b.length:Nat):Int)<=p3/\((b.length:Nat):Int)<=ms-tt) (lz:p2=0\/p2=1) (hb:(-1000000<=ms/\ms<=1000000)/\(0<=tt/\tt<=1000000)):
  Ct Tryz.prog 91 #[PG g,I ((b.length:Nat):Int)] B w0 ((rc 87 10 g [PG gc,I 0,I p1,I p2,I p3,I ms,I tt,I ls,sl At nt ct,sl none 0 0])::(rc 146 1 gc [sl ao ap an])::(ru 5 At nt ct s)::(X++R0)) (λv R'=> ∃(A7:Option Addr) (c7:Nat),∃(A9:Option Addr) (c9:Nat),RdC B w0 R0 A9 (t).length c9 1 (ints .u8 (t))/\v=I 0/\R'=(rc 87 10 g [PG gc,I 0,I p1,I p2,I p3,I ms,I (tt+((b.length:Nat):Int)),I ls,sl A7 ((s++b).length) c7,sl none 0 0])::(rc 146 1 gc [sl A9 ((t).length) c9])::(ru 5 A7 ((s++b).length) c7 (s++b))::(X++R0)):=by
 subst bl;subst tj;rw[mD,RQ (t:=0) cC cC] at hu;dsimp only at hu;rw[jb] at hu;have d7:b.length=b.length:=rfl;have yr:=bz List.length hu;simp only[ah] at yr;have Hx:=ac;rw[hu] at Hx;have hcs:0<=bv (jS b)/\bv (jS b)<4294967296:=⟨by unfold bv;omega,by unfold bv;have:=(jS b).isLt;omega⟩;refine fn1 Jc Z Z Z ?_;refine wq<|wn Z<|aG<|wq<|wm Z<|wm Z<|wa (aF aQk Z (Ct.at 0 Z (ZT hf.1 G))) ?_;rintro _ _ ⟨rfl,rfl⟩;refine kK 13 Z G<|wy (dI Z)<|aA<|aL Z<|aJ<|wq<|wm Z<|wy (aD Z)<|wy (aB (off:=6) (m:=6) gm Z sz3 Z Z Z)<|wy (aK (rdr 0 Z) ak Z Z Z)<|wm Z<|wA Z Z<|wy (aD Z)<|wy (aB (off:=6) (m:=6) gm Z sz3 Z Z Z) ?_;refine bX (bA 0 Z Z Z sz3 Z Z Z Z (au Z)) ?_;rintro _ _ rfl;refine aA<|wq<|wm Z<|wm Z<|wa (aF aQj Z (Ct.at 0 Z (aHn))) ?_;rintro _ _ ⟨rfl,rfl⟩;refine wm Z<|wX Z Z<|wX Z Z<|wg Z<|wn Z<|aG<|wq<|wm Z<|wy (dI Z)<|aA<|aL Z<|aJ<|aG ?_;refine aM<|wm Z<|wm Z<|wa (aF aQi Z ((BG (X:=([(ru 5 At s.length ct s)]++X)) (R0:=R0) (x:=bv (jS b)) (l:=b) (t:=t) am Z G ac hcs lz ce G hu))) ?_;rintro _ _ ⟨kd,km,bx,br,pm,rfl,rfl⟩;refine wm Z<|wX Z Z<|wX Z Z<|wX Z Z<|wg Z<|wg Z<|wn Z<|aG<|wq<|wm Z<|wy (dI Z)<|aA<|aL Z ?_;refine aJ<|wq<|wm Z<|wm Z<|wm Z<|wa (aF aQh Z (Ct.pick [1,0,2,3] 4 cC Z (aRz (rdr 0 Z) Z))) ?_;rintro _ _ ⟨rfl,rfl⟩;refine wm Z<|wX Z Z<|wX Z Z<|wg Z<|wn Z<|aG<|wq<|wm Z<|wy (Yl.f (iZ Z Z) cC)<|aA<|aL Z<|aJ<|aG ?_;refine wq<|wa (aF aIy Z (Ct.fresh (λw hw=>oK))) ?_;rintro _ _ ⟨_,rfl,fm,rfl,rfl⟩;refine wm Z<|wa (nN [Value.slice kd ((b).length) km] gp xK Z Z Z Z) ?_;rintro _ _ ⟨Nu,rfl,rfl⟩;refine wa (aF aIx Z (Ct.at 1 Z (oJ (ls:=[b]) (.inl ⟨Z,Z,bq ..,G⟩) (rdr 0 rfl) rfl (xI.one (l:=b) (rdr 2 rfl) ce (by first|rfl|simp|(simp[upd];done))) (Big.one (by first|omega|decide|simp))))) ?_;rintro _ _ ⟨rfl,rfl⟩;refine wm Z<|wy (Yl.f (aKr (p:=jS ([b]).flatten) (q:=jS b) Z Z) (λh=>h cD)) ?_;refine aA<|aL Z<|aJ<|aG<|wq<|wm Z<|wy (aD Z)<|wy (aB (off:=1) (m:=1) gm Z gG Z Z Z)<|wy (aB (off:=0) (m:=1) df Z sz3 Z Z Z)<|wy (aK (rdr 2 Z) ak Z Z Z)<|wy (Yl.t (iZ Z Z) cC)<|aA<|bO Z<|aM ?_;refine wm Z<|wm Z<|wy (aD Z)<|wy (aB (off:=8) (m:=8) gm Z AV Z Z Z)<|wy (aB (off:=0) (m:=8) ko Z dO Z Z Z)<|wy (aK (rdr 2 Z) ai Z Z Z)<|wm Z<|wa (bE 5 Z ai zb5 Z Z Z (rdr 3 Z)) ?_;rintro _ _ ⟨fc,ci,rfl,rfl⟩;refine bN (v:=sl fc (s.length+((b).length)) ci) Z<|wy (aD Z)<|wy (aB (off:=8) (m:=8) gm Z AV Z Z Z)<|wy (aB (off:=0) (m:=8) ko Z dO Z Z Z)<|bX (bA 2 Z Z Z dO Z Z Z Z (au Z)) ?_;rintro _ _ rfl;refine aA<|wq<|wn Z<|aT [2,4,5] 6 cC Z ?_;refine⟨_,Z,?_⟩;have Qd:s.length+b.length=(s++b).length:=by rw[ah]
 rw[Qd];exact⟨_,_,_,_,pm,Z,Z⟩
set_option maxHeartbeats 2000000 in
theorem aBq (am:RdC B w0 R0 ao ap an 1 (ints .u8 u)) (bl:ap=u.length) (hN:u.length<=1000000) (ac:aO u) (tj:nt=s.length) (hu:u=mD 1 p2 b t) (ce:aO b) (s9:b.length<=100000/\s.length<=100000) (hf:((b.length:Nat):Int)<=p3/\((b.length:Nat):Int)<=ms-tt) (lz:p2=0\/p2=1) (hb:(-1000000<=ms/\ms<=1000000)/\(0<=tt/\tt<=1000000)):
  Ct Tryz.prog 91 #[PG g,I ((b.length:Nat):Int)] B w0 ((rc 87 10 g [PG gc,I 1,I p1,I p2,I p3,I ms,I tt,I ls,sl At nt ct,sl none 0 0])::(rc 146 1 gc [sl ao ap an])::(ru 5 At nt ct s)::(X++R0)) (λv R'=> ∃(A7:Option Addr) (c7:Nat),∃(A9:Option Addr) (c9:Nat),RdC B w0 R0 A9 (t).length c9 1 (ints .u8 (t))/\v=I 0/\R'=(rc 87 10 g [PG gc,I 1,I p1,I p2,I p3,I ms,I (tt+((b.length:Nat):Int)),I ls,sl A7 ((s++b).length) c7,sl none 0 0])::(rc 146 1 gc [sl A9 ((t).length) c9])::(ru 5 A7 ((s++b).length) c7 (s++b))::(X++R0)):=by
 subst bl;subst tj;obtain⟨a,ue,Qc⟩:=nW b;rw[mD,RS ue Qc] at hu;have hz:=nT ue Qc;have g7:=FX (s:=b) (k:=0) G;dsimp only at hu;have d7:(ofL b a).length=b.length:=(yO ue Qc).length_eq;have yr:=bz List.length hu;simp only[ah] at yr;have Hx:=ac;rw[hu] at Hx;have hcs:0<=bv (jS b)/\bv (jS b)<4294967296:=⟨by unfold bv;omega,by unfold bv;have:=(jS b).isLt;omega⟩;refine fn1 Jc Z Z Z ?_;refine wq<|wn Z<|aG<|wq<|wm Z<|wm Z<|wa (aF aQk Z (Ct.at 0 Z (ZR hf.1 G))) ?_;rintro _ _ ⟨rfl,rfl⟩;refine kK 13 Z G<|wy (dI Z)<|aA<|aL Z<|aJ<|wq<|wm Z<|wy (aD Z)<|wy (aB (off:=6) (m:=6) gm Z sz3 Z Z Z)<|wy (aK (rdr 0 Z) ak Z Z Z)<|wm Z<|wA Z Z<|wy (aD Z)<|wy (aB (off:=6) (m:=6) gm Z sz3 Z Z Z) ?_;refine bX (bA 0 Z Z Z sz3 Z Z Z Z (au Z)) ?_;rintro _ _ rfl;refine aA<|wq<|wm Z<|wm Z<|wa (aF aQj Z ((aHm (X:=([(ru 5 At s.length ct s)]++X)) (R0:=R0) (at_:=(zat a)) (t:=bQ ((dJ (ofL b a) p2).length:Int)++(iE (bv (jS b))++(dJ (ofL b a) p2++t))) am Z G cF G hu))) ?_;rintro _ _ ⟨kd,bx,br,pm,rfl,rfl⟩;refine wm Z<|wX Z Z<|wX Z Z<|wg Z<|wn Z<|aG<|wq<|wm Z<|wy (dI Z)<|aA<|aL Z<|aJ<|aG ?_;refine aM<|wm Z<|wm Z<|wa (aF aQi Z (Ct.pick [1,2,0,3] 4 cC Z (BG (X:=([(ri 3 kd 1 1 ([(zat a)])),(ru 5 At s.length ct s)]++X)) (R0:=R0) (x:=bv (jS b)) (l:=(ofL b a)) (t:=t) pm Z (by simp only[ah];omega) (aO.back Hx) hcs lz (vN ce ue) G Z))) ?_;rintro _ _ ⟨gw,kf,fh,nf,Uz,rfl,rfl⟩;refine wm Z<|wX Z Z<|wX Z Z<|wX Z Z<|wg Z<|wg Z<|wn Z<|aG<|wq<|wm Z<|wy (dI Z)<|aA<|aL Z ?_;refine aJ<|wq<|wm Z<|wm Z<|wm Z<|wa (aF aQh Z (Ct.pick [1,0,2,3,4] 5 cC Z (aRy (rdr 0 Z) Z (rdr 2 Z) (vN ce ue) (tJ ce ue Qc).1 (tJ ce ue Qc).2 G))) ?_;rintro _ _ ⟨bc,bh,rfl,rfl⟩;refine wm Z<|wX Z Z<|wX Z Z<|wg Z<|wn Z<|aG<|wq<|wm Z<|wy (Yl.f (iZ Z Z) cC)<|aA<|aL Z<|aJ<|aG ?_;refine wq<|wa (aF aIy Z (Ct.fresh (λw hw=>oK))) ?_;rintro _ _ ⟨_,rfl,j6,rfl,rfl⟩;refine wm Z<|wa (nN [Value.slice bc ((b).length) bh] gp xK Z Z Z Z) ?_;rintro _ _ ⟨j7,rfl,rfl⟩;refine wa (aF aIx Z (Ct.at 1 Z (oJ (ls:=[b]) (.inl ⟨Z,Z,bq ..,G⟩) (rdr 0 rfl) rfl (xI.one (l:=b) (rdr 1 rfl) ce (by first|rfl|simp|(simp[upd];done))) (Big.one (by first|omega|decide|simp))))) ?_;rintro _ _ ⟨rfl,rfl⟩;refine wm Z<|wy (Yl.f (aKr (p:=jS ([b]).flatten) (q:=jS b) Z Z) (λh=>h cD)) ?_;refine aA<|aL Z<|aJ<|aG<|wq<|wm Z<|wy (aD Z)<|wy (aB (off:=1) (m:=1) gm Z gG Z Z Z)<|wy (aB (off:=0) (m:=1) df Z sz3 Z Z Z)<|wy (aK (rdr 3 Z) ak Z Z Z)<|wy (Yl.t (iZ Z Z) cC)<|aA<|bO Z<|aM ?_;refine wm Z<|wm Z<|wy (aD Z)<|wy (aB (off:=8) (m:=8) gm Z AV Z Z Z)<|wy (aB (off:=0) (m:=8) ko Z dO Z Z Z)<|wy (aK (rdr 3 Z) ai Z Z Z)<|wm Z<|wa (bE 7 Z ai zb5 Z Z Z (rdr 2 Z)) ?_;rintro _ _ ⟨pt,pv,rfl,rfl⟩;refine bN (v:=sl pt (s.length+((b).length)) pv) Z<|wy (aD Z)<|wy (aB (off:=8) (m:=8) gm Z AV Z Z Z)<|wy (aB (off:=0) (m:=8) ko Z dO Z Z Z)<|bX (bA 3 Z Z Z dO Z Z Z Z (au Z)) ?_;rintro _ _ rfl;refine aA<|wq<|wn Z<|aT [3,5,7] 8 cC Z ?_;refine⟨_,Z,?_⟩;have Qd:s.length+b.length=(s++b).length:=by rw[ah]
 rw[Qd];exact⟨_,_,_,_,Uz,Z,Z⟩
set_option maxHeartbeats 2000000 in
theorem aBp (am:RdC B w0 R0 ao ap an 1 (ints .u8 u)) (bl:ap=u.length) (hN:u.length<=1000000) (ac:aO u) (tj:nt=s.length) (hu:u=mD 2 p2 b t) (ce:aO b) (s9:b.length<=100000/\s.length<=100000) (hf:((b.length:Nat):Int)<=p3/\((b.length:Nat):Int)<=ms-tt) (lz:p2=0\/p2=1) (hb:(-1000000<=ms/\ms<=1000000)/\(0<=tt/\tt<=1000000)):
  Ct Tryz.prog 91 #[PG g,I ((b.length:Nat):Int)] B w0 ((rc 87 10 g [PG gc,I 2,I p1,I p2,I p3,I ms,I tt,I ls,sl At nt ct,sl none 0 0])::(rc 146 1 gc [sl ao ap an])::(ru 5 At nt ct s)::(X++R0)) (λv R'=> ∃(A7:Option Addr) (c7:Nat),∃(A9:Option Addr) (c9:Nat),RdC B w0 R0 A9 (t).length c9 1 (ints .u8 (t))/\v=I 0/\R'=(rc 87 10 g [PG gc,I 2,I p1,I p2,I p3,I ms,I (tt+((b.length:Nat):Int)),I ls,sl A7 ((s++b).length) c7,sl none 0 0])::(rc 146 1 gc [sl A9 ((t).length) c9])::(ru 5 A7 ((s++b).length) c7 (s++b))::(X++R0)):=by
 subst bl;subst tj;obtain⟨T,Pq,Yc⟩:=KS (bws b);rw[mD,RU Pq Yc] at hu;dsimp only at hu;rw[jb] at hu;have d7:(T.map (lastB (bws b))).length=b.length:=by rw[bi,zS Pq]
 have yr:=bz List.length hu;simp only[ah] at yr;have Hx:=ac;rw[hu] at Hx;have hcs:0<=bv (jS b)/\bv (jS b)<4294967296:=⟨by unfold bv;omega,by unfold bv;have:=(jS b).isLt;omega⟩;refine fn1 Jc Z Z Z ?_;refine wq<|wn Z<|aG<|wq<|wm Z<|wm Z<|wa (aF aQk Z (Ct.at 0 Z (ZQ hf.1 G))) ?_;rintro _ _ ⟨rfl,rfl⟩;refine kK 13 Z G<|wy (dI Z)<|aA<|aL Z<|aJ<|wq<|wm Z<|wy (aD Z)<|wy (aB (off:=6) (m:=6) gm Z sz3 Z Z Z)<|wy (aK (rdr 0 Z) ak Z Z Z)<|wm Z<|wA Z Z<|wy (aD Z)<|wy (aB (off:=6) (m:=6) gm Z sz3 Z Z Z) ?_;refine bX (bA 0 Z Z Z sz3 Z Z Z Z (au Z)) ?_;rintro _ _ rfl;refine aA<|wq<|wm Z<|wm Z<|wa (aF aQj Z (Ct.at 0 Z (aHl))) ?_;rintro _ _ ⟨rfl,rfl⟩;refine wm Z<|wX Z Z<|wX Z Z<|wg Z<|wn Z<|aG<|wq<|wm Z<|wy (dI Z)<|aA<|aL Z<|aJ<|aG ?_;refine aM<|wm Z<|wm Z<|wa (aF aQi Z ((BG (X:=([(ru 5 At s.length ct s)]++X)) (R0:=R0) (x:=bv (jS b)) (l:=(T.map (lastB (bws b)))) (t:=t) am Z G ac hcs lz (lC Pq (by rw[nK];exact ce)) G hu))) ?_;rintro _ _ ⟨kd,km,bx,br,pm,rfl,rfl⟩;refine wm Z<|wX Z Z<|wX Z Z<|wX Z Z<|wg Z<|wg Z<|wn Z<|aG<|wq<|wm Z<|wy (dI Z)<|aA<|aL Z ?_;refine aJ<|wq<|wm Z<|wm Z<|wm Z<|wa (aF aQh Z (Ct.pick [1,0,2,3] 4 cC Z (aRx (rdr 0 Z) Z (lC Pq (by rw[nK];exact ce)) (OB ce Pq Yc) G))) ?_;rintro _ _ ⟨fk,nv,rfl,rfl⟩;refine wm Z<|wX Z Z<|wX Z Z<|wg Z<|wn Z<|aG<|wq<|wm Z<|wy (Yl.f (iZ Z Z) cC)<|aA<|aL Z<|aJ<|aG ?_;refine wq<|wa (aF aIy Z (Ct.fresh (λw hw=>oK))) ?_;rintro _ _ ⟨_,rfl,Nu,rfl,rfl⟩;refine wm Z<|wa (nN [Value.slice fk ((b).length) nv] gp xK Z Z Z Z) ?_;rintro _ _ ⟨Ka,rfl,rfl⟩;refine wa (aF aIx Z (Ct.at 1 Z (oJ (ls:=[b]) (.inl ⟨Z,Z,bq ..,G⟩) (rdr 0 rfl) rfl (xI.one (l:=b) (rdr 1 rfl) ce (by first|rfl|simp|(simp[upd];done))) (Big.one (by first|omega|decide|simp))))) ?_;rintro _ _ ⟨rfl,rfl⟩;refine wm Z<|wy (Yl.f (aKr (p:=jS ([b]).flatten) (q:=jS b) Z Z) (λh=>h cD)) ?_;refine aA<|aL Z<|aJ<|aG<|wq<|wm Z<|wy (aD Z)<|wy (aB (off:=1) (m:=1) gm Z gG Z Z Z)<|wy (aB (off:=0) (m:=1) df Z sz3 Z Z Z)<|wy (aK (rdr 3 Z) ak Z Z Z)<|wy (Yl.t (iZ Z Z) cC)<|aA<|bO Z<|aM ?_;refine wm Z<|wm Z<|wy (aD Z)<|wy (aB (off:=8) (m:=8) gm Z AV Z Z Z)<|wy (aB (off:=0) (m:=8) ko Z dO Z Z Z)<|wy (aK (rdr 3 Z) ai Z Z Z)<|wm Z<|wa (bE 6 Z ai zb5 Z Z Z (rdr 2 Z)) ?_;rintro _ _ ⟨oe,cg,rfl,rfl⟩;refine bN (v:=sl oe (s.length+((b).length)) cg) Z<|wy (aD Z)<|wy (aB (off:=8) (m:=8) gm Z AV Z Z Z)<|wy (aB (off:=0) (m:=8) ko Z dO Z Z Z)<|bX (bA 3 Z Z Z dO Z Z Z Z (au Z)) ?_;rintro _ _ rfl;refine aA<|wq<|wn Z<|aT [3,5,6] 7 cC Z ?_;refine⟨_,Z,?_⟩;have Qd:s.length+b.length=(s++b).length:=by rw[ah]
 rw[Qd];exact⟨_,_,_,_,pm,Z,Z⟩
end Go.Proofs.YtdbebmmhdefgdaaGreat
namespace Go.Eng
open Go Go.RowKit Go.Pure
section
variable {P:Program} {n:Nd} {B:Nat} {w0:World} {L:Env} {R:List Row} {ty:TypeId}
def CellIs (L:Env) (R:List Row) (p sz:Nat) (xs:List Value):Prop:= ∃(g i:Nat) (r:Row),lk L p=some (.pointer (some ⟨g,0,none⟩))/\R[i]? =some r/\r.ro=false/\r.A=some ⟨g,0,none⟩/\r.n=1/\r.c=1/\r.sz=sz/\r.xs=xs
theorem CellIs.load {m:Nat} {p sz:Nat} {xs:List Value} {a:Act} {w:World} (h:CellIs L R p sz xs) (hs:Sat (m:Nd) L a) (hp:Hp B w0 w R): ∃g e,a.tmps[p]?.getD undef= .pointer (some ⟨g,0,none⟩)/\w.heap[g]? =some (.cells xs.toArray e (0,0))/\xs.length=sz:=by
 obtain⟨g,i,r,h1,h2,h3,h4,h5,h6,h7,h8⟩:=h;have du:=Row.lies_w (hp.own r (ek h2)) h3;rcases du.2 with⟨hn,_⟩|⟨g',cap,cur,hv,_,hg,_,_,hcs,ht⟩
 ·rw[h4] at hn;cases hn
 ·rw [h4] at hv;simp only[jq,lm,Ab,Aa,zm] at hv;obtain⟨rfl,rfl⟩:=hv;rw[h5,h7,Ce] at ht;rw[h6,h7,Ce] at hcs
  have e:cur=r.xs.toArray:=by
   rw[<-ht,bn (by rw[jl];omega)]
  rw[h8] at e;subst e;exact⟨g,_,by have:=hs.getD h1;simpa using this,hg,by simpa using hcs⟩
theorem bCx {f:FuncId} {fn:Func} {c:Code} {args:List Value} {R:List Row} {Post:Value->List Row->Prop} {p1 p2 r3:Nat} {t1 t2:TypeId} {d1 d2:TypeDesc} {s1 s2:Nat} (hf:P.funcs[f]? =some fn) (hb:fn.body=some c) (hr:fn.results= #[.cell p1 t1, .cell p2 t2, .tmp r3]) (hl:Nat.ble args.length fn.ntmps=true)
  (hu1:P.underlying t1=some d1) (l6:(match d1 with| .struct _| .array _ _=>true|_=>false)=true) (ia:(P.info? t1).map (·.size)=some s1)
  (Mx:P.underlying t2=some d2) (Kt:(match d2 with| .struct _| .array _ _=>true|_=>false)=true) (Ox:(P.info? t2).map (·.size)=some s2)
  (h:W P fn.ntmps B w0 c ⟨λL R'=> ∃xs ys u,CellIs L R' p1 s1 xs/\CellIs L R' p2 s2 ys/\lk L r3=some u/\ ∃R1,(∀w,Hp B w0 w R'->Hp B w0 w R1)/\Post (.tuple #[.agg xs.toArray, .agg ys.toArray,u]) R1,
   λL R'=> ∃xs ys u,CellIs L R' p1 s1 xs/\CellIs L R' p2 s2 ys/\lk L r3=some u/\ ∃R1,(∀w,Hp B w0 w R'->Hp B w0 w R1)/\Post (.tuple #[.agg xs.toArray, .agg ys.toArray,u]) R1,λ_ _ _=>False⟩ (ini 0 args) R):Ct P f args.toArray B w0 R Post:=by
 intro w hw;have me:args.length<=fn.ntmps:=au hl
 have fin: ∀(L':Env) (R':List Row) (a':Act) (w':World),Sat fn.ntmps L' a'->Hp B w0 w' R'->(∃xs ys u,CellIs L' R' p1 s1 xs/\CellIs L' R' p2 s2 ys/\lk L' r3=some u/\ ∃R1,(∀w,Hp B w0 w R'->Hp B w0 w R1)/\Post (.tuple #[.agg xs.toArray, .agg ys.toArray,u]) R1)->
   ∃v R1,(results fn a'.tmps).run P w'= .ok v w'/\Hp B w0 w' R1/\Post v R1:=by
  rintro L' R' a' w' dg bw ⟨xs,ys,u,h1,h2,h3,R1,h8,h9⟩;obtain⟨g,e,a1,b1,l1⟩:=h1.load dg bw;obtain⟨g',e',a2,b2,l2⟩:=h2.load dg bw;have hu3:=dg.val r3 u h3
  have ld:(results fn a'.tmps).run P w'= .ok (.tuple #[.agg xs.toArray, .agg ys.toArray,u]) w':=by
   simp[results,hr,a1,a2,hu3,asAddr,run_loadVar_row w' g e t1 xs.toArray (0,0) d1 b1 hu1 l6 (by rw[ia];simp[l1]),run_loadVar_row w' g' e' t2 ys.toArray (0,0) d2 b2 Mx Kt (by rw[Ox];simp[l2])]
  exact⟨_,R1,ld,h8 _ bw,h9⟩
 refine calls_of_wp hf hb (wp_mono (wpIn_wide.1 (h _ w ⟨cG,rfl,λt v ht=> ?_⟩ hw)) ?_)
 ·obtain ⟨_,h2⟩:=ZO args 0 t v ht;simp only[yc] at h2;have aw:=(dn.1 h2).1;rw[<-h2];simp[Ah,aw]
 ·intro e a' w' hq;cases e with
  |normal=>
   obtain⟨L',R',dg,bw,hx⟩:=hq;obtain⟨v,R1,ld,hh,mn⟩:=fin L' R' _ _ dg bw hx;exact⟨dg.defers,v,ld,v,R1,rfl,hh,mn⟩
  |ret=>
   obtain⟨L',R',dg,bw,hx⟩:=hq;obtain⟨v,R1,ld,hh,mn⟩:=fin L' R' _ _ dg bw hx;exact⟨dg.defers,v,ld,v,R1,rfl,hh,mn⟩
  |exit id=>obtain⟨_,_,_,_,h⟩:=hq;exact h.elim
  |goto l=>exact hq
  |panic ch=>exact hq.elim
  |outgrown=>exact hq.elim
end
end Go.Eng
namespace Go.Proofs.YtdbebmmhdefgdaaGreat
open Go Go.Eng Go.Pure
open Tryz
set_option maxRecDepth 100000
variable {B g gc ap an nt ct:Nat} {w0:World} {X R0:List Row} {ao At:Option Addr} {u t:List Int} {p1 p2 p3 ms tt ls sz k:Int}
theorem aPg {p0:Int} {b0 b1 b2:Int} (am:RdC B w0 R0 ao ap an 1 (ints .u8 u)) (bl:ap=u.length) (hN:u.length<=1000000) (ac:aO u) (hu:u=[87,72,82,76,1]++([b0,b1,b2]++(bQ sz++t))) (ue:0<=b0/\b0<=3) (Pr:(0<=b1/\b1<=2)/\(b2=0\/b2=1)/\(1<=sz/\sz<=16777216)):
  Ct Tryz.prog 89 #[PG g] B w0 ((rc 87 10 g [PG gc,I p0,I p1,I p2,I p3,I ms,I tt,I ls,sl At nt ct,sl none 0 0])::(rc 146 1 gc [sl ao ap an])::(X++R0)) (λv R'=> ∃(A9:Option Addr) (c9:Nat),RdC B w0 R0 A9 (t).length c9 1 (ints .u8 (t))/\v=bt/\R'=(rc 87 10 g [PG gc,I b0,I b1,I b2,I sz,I ms,I tt,I ls,sl At nt ct,sl none 0 0])::(rc 146 1 gc [sl A9 ((t).length) c9])::(X++R0)):=by
 have h5:u.take (5:Int).toNat=[87,72,82,76,1]:=by rw[hu];rfl
 have Wx:u.drop (5:Int).toNat=[b0,b1,b2]++(bQ sz++t):=by rw[hu];rfl
 have Wy:(u.drop (5:Int).toNat).drop (3:Int).toNat=bQ sz++t:=by rw[Wx];rfl
 have yr:u.length=8+((bQ sz).length+t.length):=by rw[hu];simp only[ah,dm,jy];omega
 refine(aAc (R:=X++R0) (m:=(bQ sz).length) (RdC.right am X) bl hN ac h5 (by rw[Wx];rfl) G (by rw[Wy];exact sS.of ⟨G,G⟩ t) ue Pr).mono λv R' hv=> ?_;obtain⟨rfl,rfl⟩:=hv;have e:=RdC.fromI (l:=(bQ sz).length) (RdC.fromI (l:=(3:Int).toNat) (RdC.fromI (l:=(5:Int).toNat) am (by show 5<=ap;omega)) (by show 3<=ap-5;omega)) (by show(bQ sz).length<=ap-5-3;omega);have hl:ap-(5:Int).toNat-(3:Int).toNat-(bQ sz).length=t.length:=by show ap-5-3-_=_;omega
 have hd:((u.drop (5:Int).toNat).drop (3:Int).toNat).drop (bQ sz).length=t:=by rw[Wy];exact Eu
 rw[hl,hd] at e;rw[hl];exact⟨_,_,e,Z,Z⟩
theorem aJz {s b:List Int} (am:RdC B w0 R0 ao ap an 1 (ints .u8 u)) (bl:ap=u.length) (hN:u.length<=1000000) (ac:aO u) (tj:nt=s.length) (hu:u=mD k p2 b t) (ce:aO b) (s9:b.length<=100000/\s.length<=100000) (hf:((b.length:Nat):Int)<=p3/\((b.length:Nat):Int)<=ms-tt) (lz:p2=0\/p2=1) (hb:(-1000000<=ms/\ms<=1000000)/\(0<=tt/\tt<=1000000)) (hk:k=0\/k=1\/k=2):
  Ct Tryz.prog 91 #[PG g,I ((b.length:Nat):Int)] B w0 ((rc 87 10 g [PG gc,I k,I p1,I p2,I p3,I ms,I tt,I ls,sl At nt ct,sl none 0 0])::(rc 146 1 gc [sl ao ap an])::(ru 5 At nt ct s)::(X++R0)) (λv R'=> ∃(A7:Option Addr) (c7:Nat),∃(A9:Option Addr) (c9:Nat),RdC B w0 R0 A9 (t).length c9 1 (ints .u8 (t))/\v=I 0/\R'=(rc 87 10 g [PG gc,I k,I p1,I p2,I p3,I ms,I (tt+((b.length:Nat):Int)),I ls,sl A7 ((s++b).length) c7,sl none 0 0])::(rc 146 1 gc [sl A9 ((t).length) c9])::(ru 5 A7 ((s++b).length) c7 (s++b))::(X++R0)):=by
 rcases hk with rfl|rfl|rfl
 ·exact aBr am bl hN ac tj hu ce s9 hf lz hb
 ·exact aBq am bl hN ac tj hu ce s9 hf lz hb
 ·exact aBp am bl hN ac tj hu ce s9 hf lz hb
set_option maxHeartbeats 4000000 in
theorem aMv {q0 q1 q2 q3:Int} {w:List Int} {so od:Int} (am:RdC B w0 R0 ao ap an 1 (ints .u8 u)) (bl:ap=u.length) (hN:u.length<=1000000) (ac:aO u) (hu:u=nR k so od sz w) (ux:aO w) (hS:w.length<=400) (hk:k=0\/k=1\/k=2) (hp:(0<=so/\so<=2)/\(od=0\/od=1)/\(1<=sz/\sz<=16777216)) (hms: -1000000<=ms/\ms<=1000000) (vi:(w.length:Int)<=ms\/w.length=0):
  Ct Tryz.prog 51 #[PG g] B w0 ((rc 87 10 g [PG gc,I q0,I q1,I q2,I q3,I ms,I 0,I 0,sl none 0 0,sl none 0 0])::(rc 146 1 gc [sl ao ap an])::(ru 5 none 0 0 ([]))::(X++R0)) (λv R'=> ∃(A7:Option Addr) (c7:Nat) (L7:Int) (A9:Option Addr) (c9:Nat),v=I 0/\R'=(rc 87 10 g [PG gc,I k,I so,I od,I sz,I ms,I ((w.length:Nat):Int),I L7,sl A7 w.length c7,sl none 0 0])::(rc 146 1 gc [sl A9 0 c9])::(ru 5 A7 w.length c7 w)::(X++R0)):=by
 subst bl;have heb:=JB (t:=k) (so:=so) (o:=od) (sz:=sz) ux hS G G G hp.2.2;have Mx:=hu;rw[aIv] at Mx;have yr:=bz List.length Mx;simp only[ah,dm,jy] at yr;have Xm:u.length<=400000:=by rw[hu];exact heb.2
 have Oh:=ac;rw[Mx] at Oh;have a7:aO (jZ k od sz.toNat w 0):=aO.back (aO.back (aO.back Oh));refine fn1 Tryz.func51 Z Z Z ?_;refine wq<|wn Z<|aG<|wq<|wm Z<|wa (aF bGk Z ((aPg (X:=([(ru 5 none 0 0 ([]))]++X)) (R0:=R0) (b0:=k) (b1:=so) (b2:=od) (sz:=sz) (t:=jZ k od sz.toNat w 0) am Z G ac Mx G hp))) ?_;rintro _ _ ⟨bx,br,pm,rfl,rfl⟩;refine wy (dI Z)<|aA<|aL Z<|aJ<|wq<|wn Z<|aG<|aI ?_;refine OQ (λ(kk:Nat) (Ac:Option Addr) (cc:Nat) (At:Option Addr) (nt:Nat) (ct:Nat) (s:List Int) (tt:Int) (ls:Int)=>[(0,PG g),(3,bf)]) (λkk Ac cc At nt ct s tt ls=>((rc 87 10 g [PG gc,I k,I so,I od,I sz,I ms,I tt,I ls,sl At nt ct,sl none 0 0])::(rc 146 1 gc [sl Ac ((jZ k od sz.toNat w kk).length) cc])::(ru 5 At nt ct s)::(X++R0))) (λkk Ac cc At nt ct s tt ls=>(kk<=chK w.length sz.toNat)/\(RdC B w0 R0 Ac (jZ k od sz.toNat w kk).length cc 1 (ints .u8 (jZ k od sz.toNat w kk)))/\((jZ k od sz.toNat w kk).length<=400000)/\(aO (jZ k od sz.toNat w kk))/\(s=w.take (kk*sz.toNat))/\(nt=s.length)/\(tt=(s.length:Int))/\(ls=0\/ls=sz\/w.length<=kk*sz.toNat)) (λkk Ac cc At nt ct s tt ls=>(chK w.length sz.toNat-kk)) ?_ ?_
 ·exact⟨0,bx,br,none,0,0,[],0,0,⟨(uh _),(pm),G,(a7),(by rw[Eo];rfl),(Z),(Z),(.inl Z)⟩,SA,λ_ h=>h⟩
 intro kk Ac cc At nt ct s tt ls ⟨hkk,Kv,hln,Kn,hs,fb,htt,Ji⟩;have Mp:(kk+1)*sz.toNat=kk*sz.toNat+sz.toNat:=by rw[xm,Ce]
 have kc:=aRj w sz.toNat kk;have Rl:=bBc (m:=w.length) (n:=sz.toNat) (k:=kk) G;have tx:s.length=min (kk*sz.toNat) w.length:=by rw[hs,ax]
 refine aI<|wq<|wm Z ?_;refine(Classical.em (kk<chK w.length sz.toNat)).elim (λm4=> ?_) (λm4=> ?_)
 ·have aw:kk+1<=chK w.length sz.toNat:=m4;have hwk:=Rl.1 m4;have Vc:=YV (t:=k) (o:=od) m4;have sk:=Kn;rw[Vc] at sk;have vj:=bz List.length Vc;rw[ah] at vj;have wc:aO (jZ k od sz.toNat w (kk+1)):=aO.back (x:=(kW k (pU w sz.toNat kk)).1++(bQ (dJ (kW k (pU w sz.toNat kk)).2 od).length++(iE (bv (jS (pU w sz.toNat kk)))++dJ (kW k (pU w sz.toNat kk)).2 od))) (by have h:=aO.back sk;unfold mD at h;simpa only[ig] using h);have po:(jZ k od sz.toNat w (kk+1)).length<=(mD k od (pU w sz.toNat kk) (jZ k od sz.toNat w (kk+1))).length:=by unfold mD;simp only[ah];omega
  refine wa (aF aIw Z ((yR (X:=([(ru 5 At nt ct s)]++X)) (R0:=R0) ((((pU w sz.toNat kk).length:Nat):Int)) (mD k od (pU w sz.toNat kk) (jZ k od sz.toNat w (kk+1))) Kv Z G Kn G Vc))) ?_;rintro _ _ ⟨kd,km,o0,rfl,rfl⟩;refine wm Z<|wX Z Z<|wX Z Z<|wg Z<|wn Z<|aG<|wq<|wm Z<|wy (dI Z)<|aA<|aL Z<|aJ<|aG ?_;refine wq<|wm Z<|wy (Yl.f (bC Z Z))<|aA<|aL Z<|aJ ?_;refine vC [(0,PG g),(3,bf),(4,I (((pU w sz.toNat kk).length:Nat):Int))] ((rc 87 10 g [PG gc,I k,I so,I od,I sz,I ms,I tt,I ls,sl At nt ct,sl none 0 0])::(rc 146 1 gc [sl kd ((mD k od (pU w sz.toNat kk) (jZ k od sz.toNat w (kk+1))).length) km])::(ru 5 At nt ct s)::(X++R0)) ?_ ?_
  ·refine bT mixed<|wD 0 Z (aN Z)<|wD 1 Z (aN Z)<|wG 2 Z Z Z (aN Z)<|wG 3 Z Z Z (aD Z)<|wG 4 Z Z Z (aB (off:=7) (m:=7) gm Z sz3 Z Z Z)<|wG 5 Z Z Z (aK (rdr 0 Z) ak Z Z Z)<|wG 6 Z Z Z (dV Z Z)<|wG 7 Z Z Z (aN Z)<|mZ 28 Z (λaq=> ?_) (λaq=> ?_)
   ·refine wG 8 Z Z Z (aN Z)<|wG 9 Z Z Z (aD Z)<|wG 10 Z Z Z (aB (off:=7) (m:=7) gm Z sz3 Z Z Z)<|wG 11 Z Z Z (aK (rdr 0 Z) ak Z Z Z)<|wG 12 Z Z Z (aN Z)<|wG 13 Z Z Z (aD Z)<|wG 14 Z Z Z (aB (off:=1) (m:=1) gm Z gG Z Z Z)<|wG 15 Z Z Z (aB (off:=3) (m:=4) df Z sz3 Z Z Z)<|wG 16 Z Z Z (aK (rdr 0 Z) ak Z Z Z)<|wG 17 Z Z Z (Yl.f (eO Z Z))<|wG 18 Z Z Z (aY Z Z)<|wD 19 Z (aR Z Z)<|wD 20 Z (bP Z)<|wN ?_;exact⟨SA,λ_ h=>h⟩
   ·refine wO 8 Z Z Z<|wO 9 Z Z Z<|wO 10 Z Z Z<|wO 11 Z Z Z<|wO 12 Z Z Z<|wO 13 Z Z Z<|wO 14 Z Z Z<|wO 15 Z Z Z<|wO 16 Z Z Z<|wO 17 Z Z Z<|wG 18 Z Z Z (aR Z Z)<|wD 19 Z (aR Z Z)<|wD 20 Z (bP Z)<|wN ?_;exact⟨SA,λ_ h=>h⟩
  refine aG<|wq<|wm Z<|wm Z<|wa (aF bGj Z ((aJz (X:=([]++X)) (R0:=R0) (b:=(pU w sz.toNat kk)) (t:=jZ k od sz.toNat w (kk+1)) o0 Z G (aO.back sk) fb Z (aBe ux _ _) G G hp.2.1 G hk))) ?_;rintro _ _ ⟨bc,bh,es,dt,Lp,rfl,rfl⟩;refine wn Z<|wq<|wm Z<|wy (Yl.f (iZ Z Z) cC)<|aA<|aL Z<|aJ<|aM<|wm Z<|wm Z<|wy (aD Z)<|wy (aB (off:=7) (m:=7) gm Z sz3 Z Z Z)<|bX (bA 0 Z Z Z sz3 Z Z Z Z (au Z)) ?_;rintro _ _ rfl;refine aA ?_;exact⟨(kk+1),es,dt,bc,(s++(pU w sz.toNat kk)).length,bh,s++(pU w sz.toNat kk),tt+((((pU w sz.toNat kk)).length:Nat):Int),(((pU w sz.toNat kk).length:Nat):Int),⟨(aw),(Lp),G,(wc),(by rw[aJs,<-hs]),(Z),(by rw[ah];omega),G⟩,G,SA,λ_ h=>h⟩
 ·have Ku:=aGt (t:=k) (o:=od) (n:=sz.toNat) (u:=w) (k:=kk) G;have hwk: ¬kk*sz.toNat<w.length:=λh=>m4 (Rl.2 h);have yq:s=w:=by rw[hs];exact bn G
  have Ww:aO (bQ 0++bQ (w.length:Int)):=by rw[<-Ku];exact Kn
  refine wa (aF aIw Z ((yR (X:=([(ru 5 At nt ct s)]++X)) (R0:=R0) (0) (bQ (w.length:Int)) Kv Z G Kn G Ku))) ?_;rintro _ _ ⟨pr,cj,Pv,rfl,rfl⟩;refine wm Z<|wX Z Z<|wX Z Z<|wg Z<|wn Z<|aG<|wq<|wm Z<|wy (dI Z)<|aA<|aL Z<|aJ<|aG ?_;refine wq<|wm Z<|wy (Yl.t (bC Z Z) cC)<|aA<|bO Z<|aZ<|wq<|wm Z<|wa (aF aIw Z ((yR (X:=([(ru 5 At nt ct s)]++X)) (R0:=R0) ((w.length:Int)) ([]) Pv Z (by have:=bz List.length Ku;rw[ah] at this;omega) (aO.back Ww) G (jo _).symm))) ?_;rintro _ _ ⟨pt,pv,Pw,rfl,rfl⟩;refine wm Z<|wX Z Z<|wX Z Z<|wg Z<|wn Z<|aG<|wq<|wm Z<|wy (dI Z)<|wm Z<|aC Z Z<|wm Z<|aC Z Z ?_;refine wm Z<|aC Z Z<|wy (aD Z)<|aC Z Z<|wy (aB (off:=6) (m:=6) gm Z sz3 Z Z Z)<|aC Z Z<|wy (aK (rdr 0 Z) ak Z Z Z)<|aC Z Z<|wy (Yl.f (iZ Z Z) (by rw[<-yq];omega)) ?_;refine wy (aR Z Z)<|wm Z<|aC Z Z<|wm Z<|aC Z Z<|wy (aD Z)<|aC Z Z<|wy (aB (off:=0) (m:=0) gm Z aFz Z Z Z)<|aC Z Z<|wy (aK (rdr 0 Z) ze Z Z Z)<|aC Z Z<|wa (aF bGi Z (Ct.pick [1,0,2] 3 cC Z (aOq (k:=0) (R:=([(rc 87 10 g [PG gc,I k,I so,I od,I sz,I ms,I tt,I ls,sl At nt ct,sl none 0 0]),(ru 5 At nt ct s)]++X)++R0) (RdC.right Pw ([(rc 87 10 g [PG gc,I k,I so,I od,I sz,I ms,I tt,I ls,sl At nt ct,sl none 0 0]),(ru 5 At nt ct s)]++X)) Z))) ?_;rintro _ _ ⟨rfl,rfl⟩;refine aC Z Z<|wy (Yl.f (dV Z Z) cC)<|wy (aR Z Z)<|wm Z<|aC Z Z<|wm Z<|aC Z Z<|wm Z<|aP Z Z Z Z<|aP Z Z Z Z<|aP Z Z Z Z<|aP Z Z Z Z<|aP Z Z Z Z<|aP Z Z Z Z<|aC Z Z ?_;refine wy (aR Z Z)<|wy (aR Z Z)<|aA<|aL Z<|aJ<|wq<|wn Z<|aT [1,0,2] 3 cC Z ?_;refine⟨_,Z,?_⟩;rw[htt,fb,yq];exact⟨_,_,_,_,_,Z,Z⟩
set_option maxHeartbeats 1000000 in
theorem aVy {w_:World} {ao:Option Addr} {ap an:Nat} {u:List Int} {lim:Int} {w:List Int} {k so od sz:Int} (am:Rd w_ ao ap an 1 (ints .u8 u)) (ac:aO u) (hN:u.length<=1000000) (hu:u=nR k so od sz w) (ux:aO w) (hS:w.length<=400) (hk:k=0\/k=1\/k=2) (hp:(0<=so/\so<=2)/\(od=0\/od=1)/\(1<=sz/\sz<=16777216)) (Pi: -1000<=lim/\lim<=1000000) (vi:(w.length:Int)<=lim\/w.length=0):
  Ct Tryz.prog 19 #[sl ao ap an,I lim] w_.heap.size w_ [] (λv R'=> ∃A c,v= .tuple #[.agg #[sl A w.length c,sl none 0 0], .agg #[I k,I so,I od,I sz],I 0]/\R'=[(ru 5 A w.length c w)]):=by
 obtain rfl:=am.lenI;refine bCx Tryz.func19 Z Z Z ko Z AV df Z gG ?_;have pd:=am.max;refine wq<|wa (iH (sz:=2) bBu Z) ?_;rintro _ _ ⟨al,rfl,rfl⟩;refine wa (iH (sz:=4) bBt Z) ?_;rintro _ _ ⟨cv,rfl,rfl⟩;refine wn Z<|wq<|wm Z<|wa (aF bGs Z (Ct.fresh (λw hw=>QD ((am.c _) w hw) hN))) ?_;rintro _ _ ⟨_,rfl,dq,kd,km,rfl,rfl⟩;refine wm Z<|wy (vV Z Z)<|wy (dU (v:= .agg #[PG dq,I 0,I 0,I 0,I 0,I (min lim 100000),I 0,I 0,sl none 0 0,sl none 0 0]) Z (λw=>cA))<|wa (bY (sz:=10) rfl rfl) ?_;rintro _ _ ⟨fm,rfl,rfl⟩;refine dH (R1:=[(ru 5 none 0 0 ([])),(rc 87 10 fm [PG dq,I 0,I 0,I 0,I 0,I (min lim 100000),I 0,I 0,sl none 0 0,sl none 0 0]),(rc 146 1 dq [sl kd ((u).length) km]),(ru 5 kd ((u).length) km u),(rc 27 4 cv [I 0,I 0,I 0,I 0]),(rc 25 2 al [sl none 0 0,sl none 0 0])]) (Sub.refl _) (λ_ h=>h.nil 5 1)<|wn Z<|aG<|wq<|wm Z<|wa (aF bGr Z (Ct.pick [1,2,0,3,4,5] 99 cC Z (aMv (X:=[]) (R0:=[(ru 5 kd ((u).length) km u),(rc 27 4 cv [I 0,I 0,I 0,I 0]),(rc 25 2 al [sl none 0 0,sl none 0 0])]) (rdr 0 Z) Z hN ac hu ux hS hk hp G G))) ?_;rintro _ _ ⟨es,dt,Yz,bc,bh,rfl,rfl⟩;refine wn Z<|wq<|wm Z<|wy (Yl.f (iZ Z Z) cC)<|aA<|aL Z<|aJ<|aG<|aSn (Rc:=[(rc 87 10 fm [PG dq,I k,I so,I od,I sz,I (min lim 100000),I ((w.length:Nat):Int),I Yz,sl es w.length dt,sl none 0 0])]) mixed (λ_ h=>h.sel [0] cC Z) ?_;refine QG 0 Z cA Z (aN Z) ?_;refine QG 1 Z cA Z (aD Z) ?_;refine QG 2 Z cA Z (aB (off:=8) (m:=8) gm Z AV Z Z Z) ?_;refine QG 3 Z cA Z (dN (vs:=[sl es w.length dt,sl none 0 0]) (rdr 0 Z) ko Z AV Z Z (au Z) Z) ?_;refine QG 4 Z cA Z (aN Z) ?_;refine QG 5 Z cA Z (aD Z) ?_;refine QG 6 Z cA Z (aB (off:=1) (m:=1) gm Z gG Z Z Z) ?_;refine QG 7 Z cA Z (dN (vs:=[I k,I so,I od,I sz]) (rdr 0 Z) df Z gG Z Z (au Z) Z) ?_;refine aRk 8 cA ?_;refine bFs 8 Z (fQ (vs:=[sl es w.length dt,sl none 0 0]) 5 Z AV Z Z Z (by intro v hv;simp at hv;rcases hv with rfl|rfl<;>rfl) Z) ?_;rintro _ _ rfl;refine⟨λ_ h=>h.sel [0] cC Z,?_⟩;refine aRk 9 cA ?_;refine bFs 9 Z (fQ (vs:=[I k,I so,I od,I sz]) 4 Z gG Z Z Z (by intro v hv;simp at hv;rcases hv with rfl|rfl|rfl|rfl<;>rfl) Z) ?_;rintro _ _ rfl;refine⟨λ_ h=>h.sel [0] cC Z,?_⟩;refine QG 10 Z cA Z (bP Z) ?_;refine bBd cA ?_;refine dF ?_;refine⟨_,_,_,⟨_,5,_,Z,Z,Z,Z,Z,Z,Z,Z⟩,⟨_,4,_,Z,Z,Z,Z,Z,Z,Z,Z⟩,Z,[(ru 5 es w.length dt w)],λ_ h=>h.sel [2] cC Z,?_⟩;exact⟨_,_,Z,Z⟩
variable {w w0:World} {f:Value} {B ap an:Nat} {R:List Row} {ao:Option Addr} {u:List Int} {so od sz:Int}
theorem aIf:
  Ct Tryz.prog 114 #[sl none 0 0,f] w.heap.size w [] (λv R'=>v=I (-1)):=by
 refine fn1 Tryz.func114 Z Z Z ?_;refine wq<|wn Z<|aG<|wq<|wm Z<|wy (aQ gp Z)<|wm Z<|aA<|aI<|qL 1<|dY<|aG ?_;refine aM<|wy (Yl.f (eO Z Z) cC)<|aA<|aG<|aL Z<|aZ<|wq<|wn Z<|dF ?_;refine⟨_,Z,?_⟩;rfl
theorem pM:
  Ct Tryz.prog 68 #[sl none 0 0,f] w.heap.size w [] (λv R'=>v=bf):=by
 refine fn1 Tryz.func68 Z Z Z ?_;refine wq<|wn Z<|wq<|wm Z<|wm Z<|wa (aF bFl Z (Ct.quiet (λw hw=>aIf))) ?_;rintro _ _ ⟨rfl,rfl⟩;refine wy (Yl.f (jF Z Z))<|wn Z<|dF ?_;refine⟨_,Z,?_⟩;rfl
theorem WV:Ct Tryz.prog 39 #[sl none 0 0] B w0 R (λv R'=> ∃(A:Option Addr) (c:Nat),v=sl A 0 c/\R'=R):=by
 intro w hw;refine(Ct.fresh (λw hw=>aJu (ws:=[]) (EK 1 w (Hp.refl w)) (jA _ _) ⟨(λ_ h=>by cases h),cC⟩) w hw).mono ?_;rintro e w' ⟨v,R',he,hh,Rn,rfl,A,c,vals,Rs,hv,hs,rfl⟩;have h1:vals.length=(canon []).length:=hs.1;have h0:vals.length=0:=by rw[h1,aJt];rfl
 rw[h0] at hv;exact⟨v,R,he,hh.right,A,c,hv,Z⟩
theorem aUx (am:RdC B w0 R ao ap an 1 (ints .u8 u)) (bl:ap=u.length) (ac:aO u) (hN:u.length<=100000) (hp:(0<=so/\so<=2)/\(od=0\/od=1)/\(1<=sz/\sz<=16777216)):
  Ct Tryz.prog 36 #[.agg #[sl ao ap an,sl none 0 0], .agg #[I 0,I so,I od,I sz]] B w0 (R) (λv R'=>v=I 0/\R'=R):=by
 subst bl;refine fn1 Ga Z Z Z ?_;refine wq<|wa (bY (sz:=2) Z Z) ?_;rintro _ _ ⟨al,rfl,rfl⟩;refine wa (bY (sz:=4) Z Z) ?_;rintro _ _ ⟨dq,rfl,rfl⟩;refine wn Z<|wq<|wn Z<|wq<|wy (aB (off:=0) (m:=0) df Z sz3 Z Z Z)<|wy (aK (rdr 0 Z) ak Z Z Z)<|wy (Yl.f (bC Z Z) cC)<|wn Z<|aG<|aG ?_;refine aM<|wy (dN (vs:=[I 0,I so,I od,I sz]) (rdr 0 Z) df Z gG Z Z (au Z) Z)<|wa (aF aQd Z (zT G hp)) ?_;rintro _ _ ⟨rfl,rfl⟩;refine wy (dI Z)<|wm Z<|aC Z Z<|wm Z<|aC Z Z<|wy (dI Z)<|aC Z Z<|wm Z<|aC Z Z<|wy (aB (off:=1) (m:=1) ko Z wP Z Z Z)<|aC Z Z<|wy (aK (rdr 1 Z) gp Z Z Z)<|aC Z Z<|wy (aQ gp Z)<|aC Z Z ?_;refine wy (Yl.f (dV Z Z))<|aC Z Z<|wy (aY Z Z)<|wy (aR Z Z)<|wm Z<|aC Z Z<|wm Z<|aC Z Z<|wm Z<|aP Z Z Z Z<|aP Z Z Z Z<|aP Z Z Z Z<|aP Z Z Z Z<|aC Z Z<|wy (aR Z Z) ?_;refine wy (aR Z Z)<|wm Z<|aC Z Z<|wy (aB (off:=1) (m:=1) ko Z wP Z Z Z)<|aC Z Z<|wy (aK (rdr 1 Z) gp Z Z Z)<|aC Z Z<|wm Z<|aC Z Z<|wa (aF bAt Z (Ct.quiet (λw hw=>pM))) ?_;rintro _ _ ⟨rfl,rfl⟩;refine wy (aR Z Z)<|aA<|aL Z<|aJ<|aG<|aG<|bT mixed<|wD 0 Z (aB (off:=0) (m:=0) ko Z dO Z Z Z)<|wD 1 Z (aK (rdr 1 Z) ai Z Z Z)<|wD 2 Z (aQ ai Z)<|wD 3 Z (aB (off:=1) (m:=1) ko Z wP Z Z Z)<|wD 4 Z (aK (rdr 1 Z) gp Z Z Z)<|wC 5 Z (aF KV Z (Ct.fresh (λw hw=>jL ((EK _) w hw) (jA _ _) cE))) ?_;rintro _ _ ⟨_,rfl,fh,nf,rfl,rfl⟩;refine⟨.inr λ_ h=>h.right (R':=[_]),?_⟩;refine wD 6 Z (aQ ai Z)<|wD 7 Z (dG Z Z (by have e:([]:List (List Int)).flatten.length=0:=rfl;omega)) ?_;refine wD 8 Z (Yl.f (dV Z Z) (by have e:([]:List (List Int)).flatten.length=0:=rfl;omega)) ?_;refine wD 9 Z (aN Z)<|wG 10 Z Z Z (aB (off:=1) (m:=1) ko Z wP Z Z Z)<|wG 11 Z Z Z (aK (rdr 2 Z) gp Z Z Z)<|wG 12 Z Z Z (aQ gp Z)<|wG 13 Z Z Z (Yl.f (dV Z Z))<|wD 14 Z (aR Z Z)<|wN<|aL Z<|aJ<|wq<|wn Z<|aT [] 3 cC Z ?_;refine⟨_,Z,?_⟩;exact⟨Z,Z⟩
theorem aUw (am:RdC B w0 R ao ap an 1 (ints .u8 u)) (bl:ap=u.length) (ac:aO u) (hN:u.length<=100000) (hp:(0<=so/\so<=2)/\(od=0\/od=1)/\(1<=sz/\sz<=16777216)):
  Ct Tryz.prog 36 #[.agg #[sl ao ap an,sl none 0 0], .agg #[I 1,I so,I od,I sz]] B w0 (R) (λv R'=>v=I 0/\R'=R):=by
 subst bl;refine fn1 Ga Z Z Z ?_;refine wq<|wa (bY (sz:=2) Z Z) ?_;rintro _ _ ⟨al,rfl,rfl⟩;refine wa (bY (sz:=4) Z Z) ?_;rintro _ _ ⟨dq,rfl,rfl⟩;refine wn Z<|wq<|wn Z<|wq<|wy (aB (off:=0) (m:=0) df Z sz3 Z Z Z)<|wy (aK (rdr 0 Z) ak Z Z Z)<|wy (Yl.f (bC Z Z) cC)<|wn Z<|aG<|aG ?_;refine aM<|wy (dN (vs:=[I 1,I so,I od,I sz]) (rdr 0 Z) df Z gG Z Z (au Z) Z)<|wa (aF aQd Z (zT G hp)) ?_;rintro _ _ ⟨rfl,rfl⟩;refine wy (dI Z)<|wm Z<|aC Z Z<|wm Z<|aC Z Z<|wy (dI Z)<|aC Z Z<|wm Z<|aC Z Z<|wy (aB (off:=1) (m:=1) ko Z wP Z Z Z)<|aC Z Z<|wy (aK (rdr 1 Z) gp Z Z Z)<|aC Z Z<|wy (aQ gp Z)<|aC Z Z ?_;refine wy (Yl.f (dV Z Z))<|aC Z Z<|wy (aY Z Z)<|wy (aR Z Z)<|wm Z<|aC Z Z<|wm Z<|aC Z Z<|wm Z<|aP Z Z Z Z<|aP Z Z Z Z<|aP Z Z Z Z<|aP Z Z Z Z<|aC Z Z<|wy (aR Z Z) ?_;refine wy (aR Z Z)<|wm Z<|aC Z Z<|wy (aB (off:=1) (m:=1) ko Z wP Z Z Z)<|aC Z Z<|wy (aK (rdr 1 Z) gp Z Z Z)<|aC Z Z<|wm Z<|aC Z Z<|wa (aF bAt Z (Ct.quiet (λw hw=>pM))) ?_;rintro _ _ ⟨rfl,rfl⟩;refine wy (aR Z Z)<|aA<|aL Z<|aJ<|aG<|aG<|bT mixed<|wD 0 Z (aB (off:=0) (m:=0) ko Z dO Z Z Z)<|wD 1 Z (aK (rdr 1 Z) ai Z Z Z)<|wD 2 Z (aQ ai Z)<|wD 3 Z (aB (off:=1) (m:=1) ko Z wP Z Z Z)<|wD 4 Z (aK (rdr 1 Z) gp Z Z Z)<|wC 5 Z (aF KV Z (Ct.fresh (λw hw=>jL ((EK _) w hw) (jA _ _) cE))) ?_;rintro _ _ ⟨_,rfl,fh,nf,rfl,rfl⟩;refine⟨.inr λ_ h=>h.right (R':=[_]),?_⟩;refine wD 6 Z (aQ ai Z)<|wD 7 Z (dG Z Z (by have e:([]:List (List Int)).flatten.length=0:=rfl;omega)) ?_;refine wD 8 Z (Yl.f (dV Z Z) (by have e:([]:List (List Int)).flatten.length=0:=rfl;omega)) ?_;refine wD 9 Z (aN Z)<|wG 10 Z Z Z (aB (off:=1) (m:=1) ko Z wP Z Z Z)<|wG 11 Z Z Z (aK (rdr 2 Z) gp Z Z Z)<|wG 12 Z Z Z (aQ gp Z)<|wG 13 Z Z Z (Yl.f (dV Z Z))<|wD 14 Z (aR Z Z)<|wN<|aL Z<|aJ<|wq<|wn Z<|aT [] 3 cC Z ?_;refine⟨_,Z,?_⟩;exact⟨Z,Z⟩
theorem aUv (am:RdC B w0 R ao ap an 1 (ints .u8 u)) (bl:ap=u.length) (ac:aO u) (hN:u.length<=100000) (hp:(0<=so/\so<=2)/\(od=0\/od=1)/\(1<=sz/\sz<=16777216)):
  Ct Tryz.prog 36 #[.agg #[sl ao ap an,sl none 0 0], .agg #[I 2,I so,I od,I sz]] B w0 (R) (λv R'=>v=I 0/\R'=R):=by
 subst bl;refine fn1 Ga Z Z Z ?_;refine wq<|wa (bY (sz:=2) Z Z) ?_;rintro _ _ ⟨al,rfl,rfl⟩;refine wa (bY (sz:=4) Z Z) ?_;rintro _ _ ⟨dq,rfl,rfl⟩;refine wn Z<|wq<|wn Z<|wq<|wy (aB (off:=0) (m:=0) df Z sz3 Z Z Z)<|wy (aK (rdr 0 Z) ak Z Z Z)<|wy (Yl.f (bC Z Z) cC)<|wn Z<|aG<|aG ?_;refine aM<|wy (dN (vs:=[I 2,I so,I od,I sz]) (rdr 0 Z) df Z gG Z Z (au Z) Z)<|wa (aF aQd Z (zT G hp)) ?_;rintro _ _ ⟨rfl,rfl⟩;refine wy (dI Z)<|wm Z<|aC Z Z<|wm Z<|aC Z Z<|wy (dI Z)<|aC Z Z<|wm Z<|aC Z Z<|wy (aB (off:=1) (m:=1) ko Z wP Z Z Z)<|aC Z Z<|wy (aK (rdr 1 Z) gp Z Z Z)<|aC Z Z<|wy (aQ gp Z)<|aC Z Z ?_;refine wy (Yl.f (dV Z Z))<|aC Z Z<|wy (aY Z Z)<|wy (aR Z Z)<|wm Z<|aC Z Z<|wm Z<|aC Z Z<|wm Z<|aP Z Z Z Z<|aP Z Z Z Z<|aP Z Z Z Z<|aP Z Z Z Z<|aC Z Z<|wy (aR Z Z) ?_;refine wy (aR Z Z)<|wm Z<|aC Z Z<|wy (aB (off:=1) (m:=1) ko Z wP Z Z Z)<|aC Z Z<|wy (aK (rdr 1 Z) gp Z Z Z)<|aC Z Z<|wm Z<|aC Z Z<|wa (aF bAt Z (Ct.quiet (λw hw=>pM))) ?_;rintro _ _ ⟨rfl,rfl⟩;refine wy (aR Z Z)<|aA<|aL Z<|aJ<|aG<|aG<|bT mixed<|wD 0 Z (aB (off:=0) (m:=0) ko Z dO Z Z Z)<|wD 1 Z (aK (rdr 1 Z) ai Z Z Z)<|wD 2 Z (aQ ai Z)<|wD 3 Z (aB (off:=1) (m:=1) ko Z wP Z Z Z)<|wD 4 Z (aK (rdr 1 Z) gp Z Z Z)<|wC 5 Z (aF KV Z (Ct.fresh (λw hw=>jL ((EK _) w hw) (jA _ _) cE))) ?_;rintro _ _ ⟨_,rfl,fh,nf,rfl,rfl⟩;refine⟨.inr λ_ h=>h.right (R':=[_]),?_⟩;refine wD 6 Z (aQ ai Z)<|wD 7 Z (dG Z Z (by have e:([]:List (List Int)).flatten.length=0:=rfl;omega)) ?_;refine wD 8 Z (Yl.f (dV Z Z) (by have e:([]:List (List Int)).flatten.length=0:=rfl;omega)) ?_;refine wD 9 Z (aN Z)<|wG 10 Z Z Z (aB (off:=1) (m:=1) ko Z wP Z Z Z)<|wG 11 Z Z Z (aK (rdr 2 Z) gp Z Z Z)<|wG 12 Z Z Z (aQ gp Z)<|wG 13 Z Z Z (Yl.f (dV Z Z))<|wD 14 Z (aR Z Z)<|wN<|aL Z<|aJ<|wq<|wn Z<|aT [] 3 cC Z ?_;refine⟨_,Z,?_⟩;exact⟨Z,Z⟩
end Go.Proofs.YtdbebmmhdefgdaaGreat
namespace Go.Proofs.YtdbebmmhdefgdaaGreat
open Go Go.Eng Go.RowKit Go.Shelf Go.Proofs
variable {n c m k g1 g2:Nat} {xs:List Value} {A:Option Addr} {zs:List Int}
attribute [local go_sem] Oper.semAt_some
theorem kV {W:World} {a:Addr} (h:Rd W (some a) n c 1 xs) {j:Nat} (hj:j<xs.length):W.cell? (a.add j)=some (xs[j]'hj):=by
 obtain⟨b,h1,h2⟩:=h.at_ j _ (av hj);obtain rfl:=iw h1;exact h2
def chN (m n:Nat):Nat:=(m+n-1)/n
theorem aBf (hn:1<=n):k<chN m n↔k*n<m:=by
 unfold chN;rw[Nat.lt_iff_add_one_le,Nat.le_div_iff_mul_le G,xm];omega
theorem aAz (h:n<=m-k*n):((k:Int)*(n:Int)+(n:Int)).toNat-k*n=min n (m-k*n):=by
 have sm:(k:Int)*(n:Int)=((k*n:Nat):Int):=cD
 omega
theorem aAx:((k:Int)*(n:Int)+min (n:Int) ((m-k*n:Nat):Int)).toNat-k*n=min n (m-k*n):=by
 have sm:(k:Int)*(n:Int)=((k*n:Nat):Int):=cD
 omega
theorem aAy (h:m-k*n<=n):((k:Int)*(n:Int)+((m-k*n:Nat):Int)).toNat-k*n=min n (m-k*n):=by
 have sm:(k:Int)*(n:Int)=((k*n:Nat):Int):=cD
 omega
theorem aBa {N:Nat} (hn:1<=n) (h:k<N):N-(intOf (.int .i64 ((k:Int)*n+n))).toNat/n<N-(intOf (.int .i64 ((k:Int)*n))).toNat/n:=by
 have e0:(intOf (.int .i64 ((k:Int)*n))).toNat=k*n:=by
  have sm:(k:Int)*(n:Int)=((k*n:Nat):Int):=cD
  simp only[intOf,sm];omega
 have e1:(intOf (.int .i64 ((k:Int)*n+n))).toNat=(k+1)*n:=by
  have sm:(k:Int)*(n:Int)=((k*n:Nat):Int):=cD
  simp only[intOf,sm,xm];omega
 rw[e0,e1,Bw _ G,Bw _ G];omega
theorem aBc {P:Program} {t e:TypeId} {p:Nat} {tm:Array Value} {s:Nat} {w:World} {o:Oper} (ht:P.underlying t=some (.slice e)) (hi:(P.info? e).map (·.size)=some 1)
  (ho:o.op= .slice t (.tmp 14) (some (.tmp 15)) none none) (hs:tm.size=s) (Zo:tm[14]? =some (.slice A m c)) (Zp:tm[15]? =some (.int .i64 (p:Int))) (hp:p<=m):
  (execOp ({tmps:=tm,defers:=[]}:Act).eval o).run P w= .ok (.value (.slice (iY A p c 1) (m-p) (c-p))) w:=by
 have h:=iP (P:=P) (n:=⟨s,[],none⟩) (B:=w.heap.size) (w0:=w) (L:=[(14, .slice A m c),(15, .int .i64 (p:Int))]) (R:=[]) (ty:=o.type) (x:= .tmp 14) (y:= .tmp 15) ht hi rfl rfl (l:=(p:Int)) G G
 have h2:=h {tmps:=tm,defers:=[]} w o ho rfl ⟨hs,rfl,λt v hv=>by
  rcases vO hv with⟨rfl,rfl⟩|⟨_,hv⟩
  ·exact Zo
  ·rcases vO hv with⟨rfl,rfl⟩|⟨_,hv⟩
   ·exact Zp
   ·simp[lk] at hv⟩ (Hp.refl w)
 rw[az] at h2;exact h2
set_option maxRecDepth 100000 in
set_option maxHeartbeats 2000000 in
theorem aRi (hn:1<=n) (ox:n<=16777216) (px:xs.length<=1000000):Iter Tryz.prog 73 #[.pointer (some ⟨g1,0,none⟩), .pointer (some ⟨g2,0,none⟩)] (λw=>Rd w (some ⟨g1,0,none⟩) 1 1 1 [.slice A xs.length c]/\Rd w (some ⟨g2,0,none⟩) 1 1 1 [.int .i64 (n:Int)]/\Rd w A xs.length c 1 xs) (chN xs.length n)
  (λk=>[.slice (iY A (k*n) c 1) (min n (xs.length-k*n)) (min n (xs.length-k*n))]):=by
 intro l J W hR hD hY h0;have hc:W.cell? ⟨g1,0,none⟩=some (.slice A xs.length c):=kV (hR _ _ h0).1 (j:=0) cD;have hd:W.cell? ⟨g2,0,none⟩=some (.int .i64 (n:Int)):=kV (hR _ _ h0).2.1 (j:=0) cD;have mj:=(hR _ _ h0).2.2.le;refine Ae Tryz.func73 rfl trivial ?_ rfl;simp only[Tryz.ntmps73,pz,dm,jy,Nat.reduceAdd,Nat.reduceSub,uy,uz,xq,ry,jb,jd]
 gi_wp2
 gi_loopw [4] (λi wr=> ∃k:Nat,k<=chN xs.length n/\i= .int .i64 ((k*n:Nat):Int)/\J k wr) (λi _=>chN xs.length n-(intOf i).toNat/n)
 case atStart=>exact⟨0,uh _,cD,h0⟩
 case round=>
  obtain⟨k,hk,rfl,ph⟩:=hrel;have aq:wr.cell? ⟨g1,0,none⟩=some (.slice A xs.length c):=kV (hR _ _ ph).1 (j:=0) cD;have l6:wr.cell? ⟨g2,0,none⟩=some (.int .i64 (n:Int)):=kV (hR _ _ ph).2.1 (j:=0) cD;by_cases aw:k<chN xs.length n
  ·have Mp:k*n<xs.length:=(aBf hn).1 aw
   have Tt:iY A (k*n) c 1=Option.map (λx=>x.add (k*n)) A:=by
    unfold iY;rw[bu G,qy]
   gi_wp2
   refine wpIn_region_quiet_lit rfl cA cA ?_
   iterate 3 quiet_step_in (skip)
   refine wpQuietIn_step (by quiet_asked_in) (λK hK=> ?_);rw[cu (by simp[Region.wanted])];refine⟨.slice (iY A (k*n) c 1) (xs.length-k*n) (c-k*n),λw' Jp=> ?_,hK _ ?_⟩
   ·unfold Oper.quietAtIn;rw[aBc (p:=k*n) (A:=A) (m:=xs.length) (c:=c) Tryz.underlying22 sz5 rfl rfl rfl cD G];exact⟨rfl,rfl⟩
   clear hK K
   iterate 3 quiet_step_in (skip)
   refine wpQuietIn_nil ?_;intro _ Jp;obtain⟨nq,Vl⟩:=Jp;subst Vl;have Sw:J k (wr.drewN nq):=hD k wr (wr.drawn+nq) ph G;have cr:(wr.drewN nq).cell? ⟨g1,0,none⟩=some (.slice A xs.length c):=kV (hR _ _ Sw).1 (j:=0) cD;have Kt:(wr.drewN nq).cell? ⟨g2,0,none⟩=some (.int .i64 (n:Int)):=kV (hR _ _ Sw).2.1 (j:=0) cD;obtain⟨fn,tmps,assign,body,hy,Kg⟩:=hY k _ aw Sw;have qq:(k*n)/n=k:=Bw _ G;have ln:(k*n+n)/n=k+1:=by rw[<-Em];exact Bw _ G
   gi_wp2
   all_goals
    rw[Tt] at hy
    first
     |rw[aAz (k:=k) (n:=n) (m:=xs.length) G,hy]
     |rw[aAy (k:=k) (n:=n) (m:=xs.length) G,hy]
     |rw[aAx (k:=k) (n:=n) (m:=xs.length),hy]
    gi_wp2
    refine⟨rfl,Kg.mono ?_⟩;rintro e W3 ⟨rfl,r8⟩;have hd3:W3.cell? ⟨g2,0,none⟩=some (.int .i64 (n:Int)):=kV (hR _ _ r8).2.1 (j:=0) cD
    gi_wp2
    go_roundw
    case rel=>exact⟨k+1,G,by simp[xm],r8⟩
    case measure=>
     exact aBa hn aw
  ·obtain rfl:k=chN xs.length n:=G
   have Mp: ¬chN xs.length n*n<xs.length:=λh=>aw ((aBf hn).2 h)
   gi_wp2
   go_end0
   exact⟨⟨_,rfl⟩,ph⟩
theorem aBb (hn:1<=n) (ox:n<=16777216) (px:zs.length<=1000000):Iter Tryz.prog 73 #[.pointer (some ⟨g1,0,none⟩), .pointer (some ⟨g2,0,none⟩)] (λw=>Rd w (some ⟨g1,0,none⟩) 1 1 1 [.slice A zs.length c]/\Rd w (some ⟨g2,0,none⟩) 1 1 1 [.int .i64 (n:Int)]/\Rd w A zs.length c 1 (ints .u8 zs)) (chN zs.length n)
  (λk=>[.slice (iY A (k*n) c 1) (min n (zs.length-k*n)) (min n (zs.length-k*n))]):=by
 have h:=aRi (g1:=g1) (g2:=g2) (A:=A) (c:=c) (xs:=ints .u8 zs) hn ox (by rw[bV];exact px);rw[bV] at h;exact h
theorem WU {sz:Int} (hn:1<=sz) (ox:sz<=16777216) (px:zs.length<=1000000):Iter Tryz.prog 73 #[.pointer (some ⟨g1,0,none⟩), .pointer (some ⟨g2,0,none⟩)] (λw=>Rd w (some ⟨g1,0,none⟩) 1 1 1 [.slice A zs.length c]/\Rd w (some ⟨g2,0,none⟩) 1 1 1 [.int .i64 sz]/\Rd w A zs.length c 1 (ints .u8 zs)) (chN zs.length sz.toNat)
  (λk=>[.slice (iY A (k*sz.toNat) c 1) (min sz.toNat (zs.length-k*sz.toNat)) (min sz.toNat (zs.length-k*sz.toNat))]):=by
 have h:=aBb (g1:=g1) (g2:=g2) (A:=A) (c:=c) (n:=sz.toNat) (zs:=zs) G G px;rw[ou G] at h;exact h
theorem aGw {B:Nat} {w0:World} {R:List Row} {l:Nat} {k:IntKind} {xs:List Int} (hr:RdC B w0 R A m c 1 (ints k xs)) (h1:l<=m):RdC B w0 R (iY A l c 1) (min n (m-l)) (min n (m-l)) 1 (ints k ((xs.drop l).take n)):=by
 intro w hw;have hl:=(hr w hw).lenI;have h:=hr.cutI (l:=l) (h:=l+min n (m-l)) G G w hw;rw[show l+min n (m-l)-l=min n (m-l) by omega] at h
 have e:(xs.drop l).take (min n (m-l))=(xs.drop l).take n:=by
  rcases Nat.le_total n (m-l) with a|a
  ·rw[xu a]
  ·rw[Nat.min_eq_right a,bn (by rw[bg];omega),bn (by rw[bg];omega)]
 rw[e] at h;exact⟨h.len,h.max,dh _,h.at_⟩
end Go.Proofs.YtdbebmmhdefgdaaGreat
namespace Go.Proofs.YtdbebmmhdefgdaaGreat
open Go Go.Eng Go.Pure
open Tryz
set_option maxRecDepth 100000
variable {w w0:World} {ao:Option Addr} {ap an B:Nat} {u acc:List Int} {R:List Row} {k so od sz:Int}
theorem aBd {n:Int} (am:Rd w ao ap an 1 (ints .u8 u)) (hn:1<=n):
  Ct Tryz.prog 40 #[sl ao ap an,I n] w.heap.size w [] (λv R'=> ∃g1 g2,v= .func (.func 73) #[] #[PG g1,PG g2]/\R'=[(rc 22 1 g1 [sl ao u.length an]),(rc 3 1 g2 [I n])]):=by
 obtain rfl:=am.lenI;refine fn1 Tryz.func40 Z Z Z ?_;have pd:=am.max;refine wq<|wa (bY (sz:=1) Z Z) ?_;rintro _ _ ⟨al,rfl,rfl⟩;refine wa (bY (sz:=1) Z Z) ?_;rintro _ _ ⟨cv,rfl,rfl⟩;refine wn Z<|aG<|wq<|wy (aK (rdr 0 Z) ak Z Z Z)<|wy (Yl.f (eO Z Z))<|aA<|aL Z<|aJ<|wq<|wy (kQ Z Z)<|wn Z ?_;refine aT [1,0] 99 cC Z ?_;refine⟨_,Z,?_⟩;exact⟨_,_,Z,Z⟩
theorem xE {gl:Option Addr} {mc gn:Nat} {ef:List Value} {ws:List (List Int)} (jp:Rd w gl mc gn 1 ef) (nh:SlW .u8 w ef ws) (hN:ws.flatten.length<=1000000/\ws.length<=1000000) (e:ws.flatten=u):
  Ct Tryz.prog 38 #[sl gl mc gn] w.heap.size w [] (λv R'=> ∃A c,v=sl A u.length c/\R'=[(ru 5 A u.length c u)]):=by
 subst e;exact jL jp nh hN
theorem aTx {A:Option Addr} {c:Nat}:RdC B w0 R A 0 c 1 []:=λ_ _=>⟨rfl,G,G,λj v hv=>by simp at hv⟩
theorem aPx (h:acc=(([87,72,82,76]++[1,k%256,so%256,od%256])++bQ sz)++kN k od sz.toNat u (chN u.length sz.toNat)) (hs:0<=so/\so<=2) (ho:od=0\/od=1) (hk:0<=k/\k<256):
  ([]++[acc]++[bQ 0]++[bQ ((u.length:Nat):Int)]:List (List Int)).flatten=nR k so od sz u:=by
 rw[h,sj hk.1 hk.2,sj (a:=so) G G,sj (a:=od) G G];unfold nR;simp[chN,chK]
theorem aIt (h:acc=(([87,72,82,76]++[1,k%256,so%256,od%256])++bQ sz)++kN k od sz.toNat u (chN u.length sz.toNat)) (hs:0<=so/\so<=2) (ho:od=0\/od=1) (hk:0<=k/\k<256) (hu:aO u) (hN:u.length<=100000) (hz:0<=sz):aO acc:=by
 rw[h];intro x hx;rcases fw.1 hx with hx|hx
 ·rcases fw.1 hx with hx|hx
  ·simp only[jd,jb,jf,yf,or_false] at hx;omega
  ·exact eY hz x hx
 ·exact(lH hu hN _).2 x hx
theorem aEq (h:acc=(([87,72,82,76]++[1,k%256,so%256,od%256])++bQ sz)++kN k od sz.toNat u (chN u.length sz.toNat)) (hu:aO u) (hS:u.length<=400) (h1:1<=sz) (h2:sz<=16777216):acc.length<=400000:=by
 have e1:=(lH (t:=k) (o:=od) (n:=sz.toNat) hu G (chN u.length sz.toNat)).1;have e2:chN u.length sz.toNat<=u.length:=aBg G;have e3:(2*u.length+22)*chN u.length sz.toNat<=822*400:=Ex G G;have e4:=eF 4 sz G;have e5:=bz List.length h;rw[ah,ah] at e5;have e6:([87,72,82,76]++[1,k%256,so%256,od%256]:List Int).length=8:=rfl;omega
theorem aKa (am:RdC B w0 R ao ap an 1 (ints .u8 u)) (bl:ap=u.length) (ac:aO u) (hN:u.length<=100000) (hp:(0<=so/\so<=2)/\(od=0\/od=1)/\(1<=sz/\sz<=16777216)) (hk:k=0\/k=1\/k=2):
  Ct Tryz.prog 41 #[sl ao ap an,sl none 0 0, .agg #[I k,I so,I od,I sz]] B w0 R (λv R'=> ∃(A1:Option Addr) (c1:Nat),v=sl A1 (dM k od u).length c1/\R'=(ru 5 A1 ((dM k od u).length) c1 (dM k od u))::R):=by
 rcases hk with rfl|rfl|rfl
 ·exact aKd am bl ac hN hp
 ·exact aKc am bl ac hN hp
 ·exact aKb am bl ac hN hp
theorem aUu (am:RdC B w0 R ao ap an 1 (ints .u8 u)) (bl:ap=u.length) (ac:aO u) (hN:u.length<=100000) (hp:(0<=so/\so<=2)/\(od=0\/od=1)/\(1<=sz/\sz<=16777216)) (hk:k=0\/k=1\/k=2):
  Ct Tryz.prog 36 #[.agg #[sl ao ap an,sl none 0 0], .agg #[I k,I so,I od,I sz]] B w0 R (λv R'=>v=I 0/\R'=R):=by
 subst bl;rcases hk with rfl|rfl|rfl
 ·exact aUx am rfl ac hN hp
 ·exact aUw am rfl ac hN hp
 ·exact aUv am rfl ac hN hp
set_option maxHeartbeats 4000000 in
theorem aVu (am:Rd w ao ap an 1 (ints .u8 u)) (ac:aO u) (hS:u.length<=400) (hp:(0<=so/\so<=2)/\(od=0\/od=1)/\(1<=sz/\sz<=16777216)) (hk:k=0\/k=1\/k=2):
  Ct Tryz.prog 16 #[.agg #[sl ao u.length an,sl none 0 0], .agg #[I k,I so,I od,I sz]] w.heap.size w [] (λv R'=> ∃A c,v= .tuple #[sl A (nR k so od sz u).length c,I 0]/\R'=[(ru 5 A ((nR k so od sz u).length) c (nR k so od sz u))]):=by
 obtain rfl:=am.lenI;refine fnV Tryz.func16 Z Z ?_;have pd:=am.max;have hN:u.length<=100000:=G
 have hpz:=eF 4 sz G;have hpu:=eF 2 (u.length:Int) G;refine fP ?_;refine aM<|wa (bY (sz:=2) Z Z) ?_;rintro _ _ ⟨al,rfl,rfl⟩;refine iW (R1:=[(rc 25 2 al [sl ao u.length an,sl none 0 0])]) Z<|wa (bY (sz:=4) Z Z) ?_;rintro _ _ ⟨cv,rfl,rfl⟩;refine iW (R1:=[(rc 27 4 cv [I k,I so,I od,I sz]),(rc 25 2 al [sl ao u.length an,sl none 0 0])]) Z<|wg Z<|wn Z ?_;refine fP ?_;refine wq<|wy (dN (vs:=[sl ao u.length an,sl none 0 0]) (rdr 1 Z) ko Z AV Z Z (au Z) Z)<|wy (dN (vs:=[I k,I so,I od,I sz]) (rdr 0 Z) df Z gG Z Z (au Z) Z)<|wa (aF bDb Z (aUu (am.c _) (by first|rfl|(simp;done)|omega) ac hN hp hk)) ?_;rintro _ _ ⟨rfl,rfl⟩;refine wn Z<|wq<|wm Z<|wy (Yl.f (iZ Z Z) cC)<|aA<|aL Z<|aJ ?_;refine fP ?_;refine aM<|wa (bS .u8 [87,72,82,76] ai zs5 Z Z Z) ?_;rintro _ _ ⟨dy,rfl,rfl⟩;refine wa (bBl 0 Z Z ai cz Z Z) ?_;rintro _ _ ⟨rfl,rfl⟩;refine iW (R1:=[⟨5,1,(GG dy),4,4,ints .u8 ([87,72,82,76]),true⟩,(rc 27 4 cv [I k,I so,I od,I sz]),(rc 25 2 al [sl ao u.length an,sl none 0 0])]) Z<|wy (aB (off:=0) (m:=0) df Z sz3 Z Z Z)<|wy (aK (rdr 1 Z) ak Z Z Z)<|wy (iF ak cz Z)<|wy (aB (off:=1) (m:=1) df Z sz3 Z Z Z)<|wy (aK (rdr 1 Z) ak Z Z Z)<|wy (iF ak cz Z)<|wy (aB (off:=2) (m:=2) df Z sz3 Z Z Z)<|wy (aK (rdr 1 Z) ak Z Z Z)<|wy (iF ak cz Z)<|wa (bS .u8 [1,k%256,so%256,od%256] ai zs5 Z Z Z) ?_;rintro _ _ ⟨fm,rfl,rfl⟩;refine wa (XK ai zb5 Z (rdr 1 Z) Z (rdr 0 Z) (by first|decide|(dsimp only;decide)) (by first|decide|(dsimp only;decide)) (by first|decide|(dsimp only;decide)) (by first|decide|(dsimp only;decide)) (by first|decide|(dsimp only;decide)) Z) ?_;rintro _ _ ⟨ft,dt,rfl,rfl⟩;refine iW (R1:=[(ru 5 (GG ft) 8 dt (([87,72,82,76])++([1,k%256,so%256,od%256]))),(ru 5 (GG fm) 4 4 ([1,k%256,so%256,od%256])),⟨5,1,(GG dy),4,4,ints .u8 ([87,72,82,76]),true⟩,(rc 27 4 cv [I k,I so,I od,I sz]),(rc 25 2 al [sl ao u.length an,sl none 0 0])]) Z<|bN (v:=sl (GG ft) 8 dt) Z<|wa (iH (sz:=1) bBv Z) ?_;rintro _ _ ⟨md,rfl,rfl⟩;refine iW (R1:=[(rc 22 1 md [sl none 0 0]),(ru 5 (GG ft) 8 dt (([87,72,82,76])++([1,k%256,so%256,od%256]))),(ru 5 (GG fm) 4 4 ([1,k%256,so%256,od%256])),⟨5,1,(GG dy),4,4,ints .u8 ([87,72,82,76]),true⟩,(rc 27 4 cv [I k,I so,I od,I sz]),(rc 25 2 al [sl ao u.length an,sl none 0 0])]) Z<|bX (bA 0 Z Z Z dO Z Z Z Z (au Z)) ?_;rintro _ _ rfl;refine iW (R1:=[(rc 22 1 md [sl (GG ft) 8 dt]),(ru 5 (GG ft) 8 dt (([87,72,82,76])++([1,k%256,so%256,od%256]))),(ru 5 (GG fm) 4 4 ([1,k%256,so%256,od%256])),⟨5,1,(GG dy),4,4,ints .u8 ([87,72,82,76]),true⟩,(rc 27 4 cv [I k,I so,I od,I sz]),(rc 25 2 al [sl ao u.length an,sl none 0 0])]) Z<|aA ?_;refine fP ?_;refine bT mixed<|wD 0 Z (aK (rdr 0 Z) ai Z Z Z)<|wD 1 Z (aB (off:=3) (m:=3) df Z sz3 Z Z Z)<|wD 2 Z (aK (rdr 4 Z) ak Z Z Z)<|wC 3 Z (aF KW Z (Ct.fresh (λw hw=>kJ G))) ?_;rintro _ _ ⟨_,rfl,bc,bh,rfl,rfl⟩;refine⟨.inr λ_ h=>h.right (R':=[_]),?_⟩;refine wC 4 Z (bE 2 Z ai zb5 Z Z Z (rdr 0 Z)) ?_;rintro _ _ ⟨fz,ge,rfl,rfl⟩;refine⟨.inl cA,?_⟩;refine xQ (R1:=[(ru 5 bc ((bQ sz).length) bh (bQ sz)),(rc 22 1 md [sl (GG ft) 8 dt]),(ru 5 fz (8+((bQ sz).length)) ge ((([87,72,82,76])++([1,k%256,so%256,od%256]))++(bQ sz))),(ru 5 (GG fm) 4 4 ([1,k%256,so%256,od%256])),⟨5,1,(GG dy),4,4,ints .u8 ([87,72,82,76]),true⟩,(rc 27 4 cv [I k,I so,I od,I sz]),(rc 25 2 al [sl ao u.length an,sl none 0 0])]) Z<|CK (v:=sl fz (8+((bQ sz).length)) ge) Z<|pQ 5 Z cA (bA 1 Z Z Z dO Z Z Z Z (au Z)) ?_;rintro _ _ rfl;refine⟨.inl cA,?_⟩;refine xQ (R1:=[(ru 5 bc ((bQ sz).length) bh (bQ sz)),(rc 22 1 md [sl fz (8+((bQ sz).length)) ge]),(ru 5 fz (8+((bQ sz).length)) ge ((([87,72,82,76])++([1,k%256,so%256,od%256]))++(bQ sz))),(ru 5 (GG fm) 4 4 ([1,k%256,so%256,od%256])),⟨5,1,(GG dy),4,4,ints .u8 ([87,72,82,76]),true⟩,(rc 27 4 cv [I k,I so,I od,I sz]),(rc 25 2 al [sl ao u.length an,sl none 0 0])]) Z<|wN ?_;refine fP ?_;refine bT mixed<|wD 0 Z (aB (off:=0) (m:=0) ko Z dO Z Z Z)<|wD 1 Z (aK (rdr 6 Z) ai Z Z Z)<|wD 2 Z (aB (off:=1) (m:=1) ko Z wP Z Z Z)<|wD 3 Z (aK (rdr 6 Z) gp Z Z Z)<|wC 4 Z (aF bGw Z (WV)) ?_;rintro _ _ ⟨pt,pv,rfl,rfl⟩;refine⟨.inr λ_ h=>h,?_⟩;refine wC 5 Z (aF KV Z (Ct.fresh (λw hw=>xE (u:=([]:List Int)) (aTx w hw) (jA _ _) ⟨cC,cC⟩ rfl))) ?_;rintro _ _ ⟨_,rfl,gd,gg,rfl,rfl⟩;refine⟨.inr λ_ h=>h.right (R':=[_]),?_⟩;refine wC 6 Z (nN [Value.slice ao u.length an,Value.slice gd ((([]:List Int)).length) gg] gp xK Z Z Z Z) ?_;rintro _ _ ⟨jn,rfl,rfl⟩;refine⟨.inr λ_ h=>h.right (R':=[_]),?_⟩;refine wC 7 Z (aF KV Z (Ct.fresh (λw hw=>xE (u:=u) ((rdr 0 Z) w hw) (((jA _ _).snoc ((am.c _) w hw) (λx hx=>fH (ac x hx)) G).snoc ((rdr 1 Z) w hw) (λx hx=>fH ((show aO [] from λ_ h=>nomatch h) x hx)) cC) ⟨cG,cD⟩ cD))) ?_;rintro _ _ ⟨_,rfl,en,ew,rfl,rfl⟩;refine⟨.inr λ_ h=>h.right (R':=[_]),?_⟩;refine wD 8 Z (bP Z)<|wN ?_;refine fP ?_;refine aM<|wy (aB (off:=3) (m:=3) df Z sz3 Z Z Z)<|wy (aK (rdr 8 Z) ak Z Z Z)<|wn Z ?_;refine fP ?_;refine wq<|wy (aB (off:=0) (m:=0) df Z sz3 Z Z Z)<|wy (aK (rdr 8 Z) ak Z Z Z)<|wy (Yl.f (bC Z Z))<|aA<|aL Z<|aJ ?_;refine aCn ?_;refine fP ?_;refine aM<|wm Z<|wm Z<|wa (aF bGv Z (Ct.fresh (λw hw=>aBd ((rdr 0 Z) w hw) G))) ?_;rintro _ _ ⟨_,rfl,Kc,tc,rfl,rfl⟩;refine aA ?_;refine EC ?_;refine RG Z bGm (WU (A:=en) (c:=ew) (zs:=u) (sz:=sz) G G G) Z (λ_=>Z) Gd.refl (λ(kr:Nat) (A1:Option Addr) (n1:Nat) (c1:Nat) (acc:List Int)=>[(rc 22 1 Kc [sl en ((u).length) ew]),(rc 3 1 tc [I sz]),(ru 5 en ((u).length) ew u),⟨22,1,(GG jn),2,2,[Value.slice ao u.length an,Value.slice gd ((([]:List Int)).length) gg],false⟩,(ru 5 gd ((([]:List Int)).length) gg ([]:List Int)),(ru 5 bc ((bQ sz).length) bh (bQ sz)),(rc 22 1 md [sl A1 n1 c1]),(ru 5 A1 n1 c1 acc),(ru 5 (GG fm) 4 4 ([1,k%256,so%256,od%256])),⟨5,1,(GG dy),4,4,ints .u8 ([87,72,82,76]),true⟩,(rc 27 4 cv [I k,I so,I od,I sz]),(rc 25 2 al [sl ao u.length an,sl none 0 0])]) (λkr A1 n1 c1 acc=>(n1=acc.length)/\(acc=(([87,72,82,76]++[1,k%256,so%256,od%256])++bQ sz)++kN k od sz.toNat u kr)) ?_ ?_ ?_ ?_
 ·exact⟨fz,8+((bQ sz).length),ge,(([87,72,82,76])++([1,k%256,so%256,od%256]))++(bQ sz),⟨(by rw[ah];rfl),(by rw[zU,jo])⟩,λ_ h=>h⟩
 ·intro kr A1 n1 c1 acc w ⟨dd,bb⟩ hw;exact⟨(rdr 0 Z) w hw,(rdr 1 Z) w hw,(rdr 2 Z) w hw⟩
 ·intro lr kr A1 n1 c1 acc Wd Lc ⟨dd,bb⟩ Oj;have Pb:kr*sz.toNat<u.length:=(aBf G).1 cF;have Rl:kr<=400:=sw (Nat.le_mul_of_pos_right kr (show 0<sz.toNat by omega)) G;have wb:=bz List.length bb;rw[ah,ah,ah] at wb;have xt:=lH (t:=k) (o:=od) (n:=sz.toNat) ac hN kr;have Tp:(2*u.length+22)*kr<=822*400:=Ex G Rl;have s8:=JQ (t:=k) (o:=od) (b:=(u.drop (kr*sz.toNat)).take sz.toNat) ((ac.drop _).take _) (by rw[ax,bg];omega);have hbk3:((u.drop (kr*sz.toNat)).take sz.toNat).length<=u.length:=by rw[ax,bg];omega
  have h8:([87,72,82,76]:List Int).length=4:=rfl;have h9:([1,k%256,so%256,od%256]:List Int).length=4:=rfl;refine aM<|wn Z ?_;intro Nm xp;refine aI<|bT mixed<|wD 0 Z (aK (rdr 6 Z) ai Z Z Z)<|wD 1 Z (aN Z)<|wD 2 Z (aB (off:=1) (m:=1) ko Z wP Z Z Z)<|wD 3 Z (aK (rdr 11 Z) gp Z Z Z)<|wD 4 Z (dN (vs:=[I k,I so,I od,I sz]) (rdr 10 Z) df Z gG Z Z (au Z) Z)<|wC 5 Z (aF bGu Z (aKa (aGw (l:=kr*sz.toNat) (n:=sz.toNat) (rdr 2 Z) cH) (by rw[ax,bg]) ((ac.drop _).take _) (by rw[ax,bg];omega) hp hk)) ?_;rintro _ _ ⟨ot,ov,rfl,rfl⟩;refine⟨.inr λ_ h=>h.right (R':=[_]),?_⟩;refine wC 6 Z (bE 8 Z ai zb5 Z Z Z (rdr 0 Z)) ?_;rintro _ _ ⟨sq,sr,rfl,rfl⟩;refine⟨.inl cA,?_⟩;refine xQ (R1:=[(ru 5 ot ((dM k od ((u.drop (kr*sz.toNat)).take sz.toNat)).length) ov (dM k od ((u.drop (kr*sz.toNat)).take sz.toNat))),(rc 22 1 Kc [sl en ((u).length) ew]),(rc 3 1 tc [I sz]),(ru 5 en ((u).length) ew u),⟨22,1,(GG jn),2,2,[Value.slice ao u.length an,Value.slice gd ((([]:List Int)).length) gg],false⟩,(ru 5 gd ((([]:List Int)).length) gg ([]:List Int)),(ru 5 bc ((bQ sz).length) bh (bQ sz)),(rc 22 1 md [sl A1 n1 c1]),(ru 5 sq (n1+((dM k od ((u.drop (kr*sz.toNat)).take sz.toNat)).length)) sr (acc++(dM k od ((u.drop (kr*sz.toNat)).take sz.toNat)))),(ru 5 (GG fm) 4 4 ([1,k%256,so%256,od%256])),⟨5,1,(GG dy),4,4,ints .u8 ([87,72,82,76]),true⟩,(rc 27 4 cv [I k,I so,I od,I sz]),(rc 25 2 al [sl ao u.length an,sl none 0 0])]) Z<|CK (v:=sl sq (n1+((dM k od ((u.drop (kr*sz.toNat)).take sz.toNat)).length)) sr) Z<|pQ 7 Z cA (bA 7 Z Z Z dO Z Z Z Z (au Z)) ?_;rintro _ _ rfl;refine⟨.inl cA,?_⟩;refine xQ (R1:=[(ru 5 ot ((dM k od ((u.drop (kr*sz.toNat)).take sz.toNat)).length) ov (dM k od ((u.drop (kr*sz.toNat)).take sz.toNat))),(rc 22 1 Kc [sl en ((u).length) ew]),(rc 3 1 tc [I sz]),(ru 5 en ((u).length) ew u),⟨22,1,(GG jn),2,2,[Value.slice ao u.length an,Value.slice gd ((([]:List Int)).length) gg],false⟩,(ru 5 gd ((([]:List Int)).length) gg ([]:List Int)),(ru 5 bc ((bQ sz).length) bh (bQ sz)),(rc 22 1 md [sl sq (n1+((dM k od ((u.drop (kr*sz.toNat)).take sz.toNat)).length)) sr]),(ru 5 sq (n1+((dM k od ((u.drop (kr*sz.toNat)).take sz.toNat)).length)) sr (acc++(dM k od ((u.drop (kr*sz.toNat)).take sz.toNat)))),(ru 5 (GG fm) 4 4 ([1,k%256,so%256,od%256])),⟨5,1,(GG dy),4,4,ints .u8 ([87,72,82,76]),true⟩,(rc 27 4 cv [I k,I so,I od,I sz]),(rc 25 2 al [sl ao u.length an,sl none 0 0])]) Z<|wN ?_;exact⟨sq,n1+((dM k od ((u.drop (kr*sz.toNat)).take sz.toNat)).length),sr,acc++(dM k od ((u.drop (kr*sz.toNat)).take sz.toNat)),⟨(by rw[ah,dd]),(by rw[zV,<-ig,<-bb])⟩,λ_=>λ_ h=>h.sel [1,2,3,4,5,6,7,8,9,10,11,12] cC Z⟩
 intro No Wc A1 n1 c1 acc ⟨dd,bb⟩ Hs vb;refine aCp ?_;refine aSp ?_;refine v_w ?_;refine aG<|bT mixed<|wD 0 Z (aK (rdr 6 Z) ai Z Z Z)<|wD 2 Z (aN Z)<|wD 3 Z (aQ ai Z)<|wC 1 Z (aF KW Z (Ct.fresh (λw hw=>kJ cC))) ?_;rintro _ _ ⟨_,rfl,Ju,Jy,rfl,rfl⟩;refine⟨.inr λ_ h=>h.right (R':=[_]),?_⟩;refine wC 4 Z (aF KW Z (Ct.fresh (λw hw=>kJ G))) ?_;rintro _ _ ⟨_,rfl,Sj,Sm,rfl,rfl⟩;refine⟨.inr λ_ h=>h.right (R':=[_]),?_⟩;refine wC 5 Z (nN [Value.slice A1 n1 c1,Value.slice Ju ((bQ 0).length) Jy,Value.slice Sj ((bQ (((u).length:Nat):Int)).length) Sm] gp xK Z Z Z Z) ?_;rintro _ _ ⟨Zn,rfl,rfl⟩;refine⟨.inr λ_ h=>h.right (R':=[_]),?_⟩;refine wC 6 Z (aF KV Z (Ct.fresh (λw hw=>xE (u:=(nR k so od sz u)) ((rdr 0 Z) w hw) ((((jA _ _).snoc ((rdr 10 Z) w hw) (λx hx=>fH ((aIt bb hp.1 hp.2.1 G ac hN G) x hx)) (by have:=aEq bb ac hS G G;omega)).snoc ((rdr 2 Z) w hw) (λx hx=>fH ((eY G) x hx)) cC).snoc ((rdr 1 Z) w hw) (λx hx=>fH ((eY G) x hx)) G) ⟨by have:=aEq bb ac hS G G;simp only[si,jb,jd,kv,qi,xg,Hq];have h0:(bQ 0).length=1:=rfl;omega,cD⟩ (aPx bb hp.1 hp.2.1 G)))) ?_;rintro _ _ ⟨_,rfl,Yx,Zc,rfl,rfl⟩;refine⟨.inr λ_ h=>h.right (R':=[_]),?_⟩;refine wD 7 Z (bP Z)<|wD 8 Z (bP Z)<|wN<|aT [0] 99 cC Z ?_;refine aPr Z vb ⟨_,_,Z,Z,?_⟩;exact⟨_,_,Z,Z⟩
variable {w:World} {k so od sz:Int} {ao:Option Addr} {ap an:Nat} {u:List Int}
theorem aJw (nj: ¬((0<=k/\k<=3)/\(0<=so/\so<=2)/\(od=0\/od=1)/\(1<=sz/\sz<=16777216))):
  Ct Tryz.prog 23 #[.agg #[I k,I so,I od,I sz]] w.heap.size w [] (λv R'=>v=bf):=by
 refine fn1 Tryz.func23 Z Z Z ?_;refine wq<|wa (bY (sz:=4) Z Z) ?_;rintro _ _ ⟨al,rfl,rfl⟩;refine wn Z<|wq<|wy (aB (off:=0) (m:=0) df Z sz3 Z Z Z)<|wy (aK (rdr 0 Z) ak Z Z Z)<|wy (jF Z Z)<|wm Z<|dQ 4 [(1,PG al),(10, .bool (decide ((0<=k)/\(k<=3))))] [(rc 27 4 al [I k,I so,I od,I sz])] ?_ ?_
 ·refine cK 6 Z (λaq=> ?_) (λaq=> ?_)
  ·refine aC Z Z<|wy (aB (off:=0) (m:=0) df Z sz3 Z Z Z)<|aC Z Z<|wy (aK (rdr 0 Z) ak Z Z Z)<|aC Z Z<|wy (vT Z Z)<|wy (aY Z Z)<|aA ?_;exact⟨SA,λ_ h=>h⟩
  ·refine aP Z Z Z Z<|aP Z Z Z Z<|aP Z Z Z Z<|wy (aR Z Z)<|aA ?_;exact⟨SA,λ_ h=>h⟩
 refine wm Z<|dQ 4 [(1,PG al),(15, .bool (decide (((0<=k)/\(k<=3))/\(0<=so))))] [(rc 27 4 al [I k,I so,I od,I sz])] ?_ ?_
 ·refine cK 11 Z (λcr=> ?_) (λcr=> ?_)
  ·refine aC Z Z<|wy (aB (off:=1) (m:=1) df Z sz3 Z Z Z)<|aC Z Z<|wy (aK (rdr 0 Z) ak Z Z Z)<|aC Z Z<|wy (jF Z Z)<|wy (aY Z Z)<|aA ?_;exact⟨SA,λ_ h=>h⟩
  ·refine aP Z Z Z Z<|aP Z Z Z Z<|aP Z Z Z Z<|wy (aR Z Z)<|aA ?_;exact⟨SA,λ_ h=>h⟩
 refine wm Z<|dQ 4 [(1,PG al),(20, .bool (decide ((((0<=k)/\(k<=3))/\(0<=so))/\(so<3))))] [(rc 27 4 al [I k,I so,I od,I sz])] ?_ ?_
 ·refine cK 16 Z (λfd=> ?_) (λfd=> ?_)
  ·refine aC Z Z<|wy (aB (off:=1) (m:=1) df Z sz3 Z Z Z)<|aC Z Z<|wy (aK (rdr 0 Z) ak Z Z Z)<|aC Z Z<|wL Z Z<|wy (aY Z Z)<|aA ?_;exact⟨SA,λ_ h=>h⟩
  ·refine aP Z Z Z Z<|aP Z Z Z Z<|aP Z Z Z Z<|wy (aR Z Z)<|aA ?_;exact⟨SA,λ_ h=>h⟩
 refine wm Z<|dQ 9 [(1,PG al),(30, .bool (decide (((((0<=k)/\(k<=3))/\(0<=so))/\(so<3))/\((od=0)\/(od=1)))))] [(rc 27 4 al [I k,I so,I od,I sz])] ?_ ?_
 ·refine cK 21 Z (λka=> ?_) (λka=> ?_)
  ·refine aC Z Z<|wy (aB (off:=2) (m:=2) df Z sz3 Z Z Z)<|aC Z Z<|wy (aK (rdr 0 Z) ak Z Z Z)<|aC Z Z<|wy (bC Z Z)<|aC Z Z<|wm Z<|dQ 4 [(1,PG al),(21,bt),(29, .bool (decide ((od=0)\/(od=1))))] [(rc 27 4 al [I k,I so,I od,I sz])] ?_ ?_
   ·refine cK 25 Z (λkj=> ?_) (λkj=> ?_)
    ·refine aP Z Z Z Z<|aP Z Z Z Z<|aP Z Z Z Z<|aC Z Z<|wy (aY Z Z)<|aA ?_;exact⟨SA,λ_ h=>h⟩
    ·refine aC Z Z<|wy (aB (off:=2) (m:=2) df Z sz3 Z Z Z)<|aC Z Z<|wy (aK (rdr 0 Z) ak Z Z Z)<|aC Z Z<|wy (bC Z Z)<|aC Z Z<|wy (aR Z Z)<|aA ?_;exact⟨SA,λ_ h=>h⟩
   refine wy (aY Z Z)<|aA ?_;exact⟨SA,λ_ h=>h⟩
  ·refine aP Z Z Z Z<|aP Z Z Z Z<|aP Z Z Z Z<|aP Z Z Z Z<|eZ Z Z Z<|eZ Z Z Z<|eZ Z Z Z<|aP Z Z Z Z<|wy (aR Z Z)<|aA ?_;exact⟨SA,λ_ h=>h⟩
 refine wm Z<|dQ 4 [(1,PG al),(35, .bool (decide ((((((0<=k)/\(k<=3))/\(0<=so))/\(so<3))/\((od=0)\/(od=1)))/\(1<=sz))))] [(rc 27 4 al [I k,I so,I od,I sz])] ?_ ?_
 ·refine cK 31 Z (λxi=> ?_) (λxi=> ?_)
  ·refine aC Z Z<|wy (aB (off:=3) (m:=3) df Z sz3 Z Z Z)<|aC Z Z<|wy (aK (rdr 0 Z) ak Z Z Z)<|aC Z Z<|wy (jF Z Z)<|wy (aY Z Z)<|aA ?_;exact⟨SA,λ_ h=>h⟩
  ·refine aP Z Z Z Z<|aP Z Z Z Z<|aP Z Z Z Z<|wy (aR Z Z)<|aA ?_;exact⟨SA,λ_ h=>h⟩
 refine wm Z<|dQ 4 [(40, .bool (decide (((((((0<=k)/\(k<=3))/\(0<=so))/\(so<3))/\((od=0)\/(od=1)))/\(1<=sz))/\(sz<=16777216))))] [(rc 27 4 al [I k,I so,I od,I sz])] ?_ ?_
 ·refine cK 36 Z (λDd=> ?_) (λDd=> ?_)
  ·refine aC Z Z<|wy (aB (off:=3) (m:=3) df Z sz3 Z Z Z)<|aC Z Z<|wy (aK (rdr 0 Z) ak Z Z Z)<|aC Z Z<|wy (vT Z Z)<|wy (aY Z Z)<|aA ?_;exact⟨SA,λ_ h=>h⟩
  ·refine aP Z Z Z Z<|aP Z Z Z Z<|aP Z Z Z Z<|wy (aR Z Z)<|aA ?_;exact⟨SA,λ_ h=>h⟩
 refine wn Z<|aT [] 99 cC Z ?_;refine⟨_,Z,?_⟩;exact bz Value.bool (ol G)
theorem aUt (am:Rd w ao ap an 1 (ints .u8 u)) (nj: ¬((0<=k/\k<=3)/\(0<=so/\so<=2)/\(od=0\/od=1)/\(1<=sz/\sz<=16777216))):
  Ct Tryz.prog 36 #[.agg #[sl ao u.length an,sl none 0 0], .agg #[I k,I so,I od,I sz]] w.heap.size w [] (λv R'=>v=I 1):=by
 obtain rfl:=am.lenI;refine fn1 Ga Z Z Z ?_;have pd:=am.max;refine wq<|wa (bY (sz:=2) Z Z) ?_;rintro _ _ ⟨al,rfl,rfl⟩;refine wa (bY (sz:=4) Z Z) ?_;rintro _ _ ⟨dq,rfl,rfl⟩;refine wn Z<|wq<|wn Z<|wq<|wy (aB (off:=0) (m:=0) df Z sz3 Z Z Z)<|wy (aK (rdr 0 Z) ak Z Z Z)<|wy (bC Z Z)<|wn Z<|aG<|aG ?_;refine aM<|wy (dN (vs:=[I k,I so,I od,I sz]) (rdr 0 Z) df Z gG Z Z (au Z) Z)<|wa (aF aQd Z (Ct.quiet (λw hw=>aJw nj))) ?_;rintro _ _ ⟨rfl,rfl⟩;refine wy (dI Z)<|wm Z<|aP Z Z Z Z<|aP Z Z Z Z<|aP Z Z Z Z<|eZ Z Z Z<|eZ Z Z Z<|eZ Z Z Z<|eZ Z Z Z<|aP Z Z Z Z<|wy (aY Z Z)<|wm Z<|aP Z Z Z Z<|aP Z Z Z Z<|eZ Z Z Z ?_;refine eZ Z Z Z<|eZ Z Z Z<|eZ Z Z Z<|aP Z Z Z Z<|wy (aY Z Z)<|wm Z<|aP Z Z Z Z<|aP Z Z Z Z<|aP Z Z Z Z<|aP Z Z Z Z<|wy (aY Z Z)<|aA<|bO Z<|wq ?_;refine wn Z<|aT [] 99 cC Z ?_;refine⟨_,Z,?_⟩;rfl
theorem aVv (am:Rd w ao ap an 1 (ints .u8 u)) (nj: ¬((0<=k/\k<=3)/\(0<=so/\so<=2)/\(od=0\/od=1)/\(1<=sz/\sz<=16777216))):
  Ct Tryz.prog 16 #[.agg #[sl ao u.length an,sl none 0 0], .agg #[I k,I so,I od,I sz]] w.heap.size w [] (λv R'=>v= .tuple #[sl none 0 0,I 1]):=by
 obtain rfl:=am.lenI;refine fnV Tryz.func16 Z Z ?_;have pd:=am.max;refine fP ?_;refine aM<|wa (bY (sz:=2) Z Z) ?_;rintro _ _ ⟨al,rfl,rfl⟩;refine wa (bY (sz:=4) Z Z) ?_;rintro _ _ ⟨dq,rfl,rfl⟩;refine wg Z<|wn Z ?_;refine fP ?_;refine wq<|wy (dN (vs:=[sl ao u.length an,sl none 0 0]) (rdr 1 Z) ko Z AV Z Z (au Z) Z)<|wy (dN (vs:=[I k,I so,I od,I sz]) (rdr 0 Z) df Z gG Z Z (au Z) Z)<|wa (aF bDb Z (Ct.quiet (λw hw=>aUt ((am.c _) w hw) nj))) ?_;rintro _ _ ⟨rfl,rfl⟩;refine wn Z<|wq<|wm Z<|wy (Yl.t (iZ Z Z) cC)<|aA<|bO Z<|wq<|wm Z<|wg Z<|wn Z<|aT [] 99 cC Z ?_;refine aPr Z Gd.refl ⟨_,_,Z,Z,?_⟩;rfl
end Go.Proofs.YtdbebmmhdefgdaaGreat
namespace Go.Eng
open Go Go.RowKit Go.Pure
variable {B e m c k:Nat} {w0 w:World} {R:List Row} {A:Option Addr} {l:List (Int × Int)}
theorem Hp.shrinkP (h:Hp B w0 w (⟨e,2,A,m,c,prs l,false⟩::R)) (hk:k<m):Hp B w0 w (⟨e,2,A,k,c,prs (l.take k),false⟩::R):=by
 have hA:A≠none:=by
  rintro rfl;have h1:=Row.lies_w (h.own _ (.head _)) rfl;rcases h1.2 with⟨_,hn⟩|⟨g,cap,cur,hv,_⟩
  ·simp only at hn;omega
  ·simp at hv
 have:=h.cut (k:=k) G hA;rwa[aNg] at this
theorem Hp.dropLast {x:Int × Int} (h:Hp B w0 w (⟨e,2,A,m,c,prs (l++[x]),false⟩::R)) (hm:m=l.length+1):Hp B w0 w (⟨e,2,A,l.length,c,prs l,false⟩::R):=by
 have:=h.shrinkP (k:=l.length) G;rwa[Aq] at this
theorem kI (l:List (Int × Int)) (m:Int × Int):rdp (l++[m]) (l.length:Int)=m:=by
 unfold rdp;rw[az,af,iy (dh _),Bc];rfl
theorem sV {P:Program} {n:Nd} {L:Env} {ty:TypeId} {x:Operand} {t tf:TypeId} {fs:Array Field} {st off:Nat} {i:Int} (hu:P.underlying t=some (.struct fs)) (hf:(fs[k]?).map (λf=>(f.offset,f.type))=some (off,tf)) (ee:(P.info? tf).map (·.size)=some st) (u6:Nat.blt 0 st=true)
  (hx:ev L x=some (.pointer (pat A (i.toNat*2)))) (hr:RdC B w0 R A m c 2 (prs l)) (h0:0<=i) (h1:i<l.length):Yl P n B w0 (.fieldAddr t x k) ty L R (.pointer (pat A (i.toNat*2+off))):=by
 obtain⟨f,Ov,he⟩:=ib.1 hf;simp only[xh] at he;obtain⟨rfl,rfl⟩:=he;intro a w o ho xo hs hp;obtain⟨a0,rfl,_⟩:=(hr w hp).at_ _ _ (aDp h0 h1);have:=sW (P:=P) (n:=n) (B:=B) (w0:=w0) (R:=R) (ty:=ty) hu Ov ee u6 (show ev L x=some (.pointer (some (a0.add (i.toNat*2)))) from hx) a w o ho xo hs hp;rw[add_add] at this;exact this
end Go.Eng
namespace Go.Proofs.YtdbebmmhdefgdaaGreat
open Go Go.Eng Go.Pure
open Tryz
set_option maxRecDepth 100000
variable {B g nt ct np cp:Nat} {w0:World} {R:List Row} {At Ap:Option Addr} {l:List (Int × Int)} {k:Int} {s:List Int}
theorem UF {w:World}:
  Ct Tryz.prog 29 #[] w.heap.size w [] (λv R'=> ∃g,v=PG g/\R'=[(rc 102 2 g [sl none 0 0,sl none 0 0]),(ru 5 none 0 0 ([])),⟨106,2,none,0,0,prs ([]),false⟩]):=by
 refine fn1 Tryz.func29 Z Z Z ?_;refine wq<|wn Z<|wq<|wy (dU (v:= .agg #[sl none 0 0,sl none 0 0]) Z (λw=>cA))<|wa (bY (sz:=2) rfl rfl) ?_;rintro _ _ ⟨al,rfl,rfl⟩;refine dH (R1:=[(rc 102 2 al [sl none 0 0,sl none 0 0]),(ru 5 none 0 0 ([])),⟨106,2,none,0,0,prs ([]),false⟩]) (Sub.refl _) (λ_ h=>((h.nilP 106).nil 5 1).sel [2,0,1] cC Z)<|wn Z<|bR (R1:=[(rc 102 2 al [sl none 0 0,sl none 0 0]),(ru 5 none 0 0 ([])),⟨106,2,none,0,0,prs ([]),false⟩]) (λ_ h=>h) ?_;refine⟨_,Z,?_⟩;exact⟨_,Z,Z⟩
theorem vP {A2:Option Addr} {n2 c2:Nat} {at_:Int} (fa:np=l.length) (hl:l.length<=1000000):
  Ct Tryz.prog 59 #[PG g,sl A2 n2 c2, .agg #[I k,I at_]] B w0 ((rc 102 2 g [sl At nt ct,sl Ap np cp])::⟨106,2,Ap,np,cp,prs l,false⟩::R) (λv R'=> ∃(A7:Option Addr) (c7:Nat),v=I 0/\R'=(rc 102 2 g [sl A2 n2 c2,sl A7 ((l++[(k,at_)]).length) c7])::⟨106,2,A7,(l++[(k,at_)]).length,c7,prs (l++[(k,at_)]),false⟩::R):=by
 subst fa;refine fn1 Tryz.func59 Z Z Z ?_;refine wq<|wa (bY (sz:=2) Z Z) ?_;rintro _ _ ⟨al,rfl,rfl⟩;refine wn Z<|wq<|wm Z<|wm Z<|wy (aD Z)<|wy (aB (off:=0) (m:=0) gy Z dO Z Z Z)<|bX (bA 1 Z Z Z dO Z Z Z Z (au Z)) ?_;rintro _ _ rfl;refine aA<|aG<|bT mixed<|wD 0 Z (aN Z)<|wD 1 Z (aN Z)<|wD 2 Z (aD Z)<|wD 3 Z (aB (off:=1) (m:=1) gy Z fT Z Z Z)<|wD 4 Z (aK (rdr 1 Z) gu Z Z Z)<|wD 5 Z (dN (vs:=[I k,I at_]) (rdr 0 Z) qw Z jW Z Z (au Z) Z)<|wC 6 Z (aSf gu bBz Z) ?_;rintro _ _ ⟨dq,rfl,rfl⟩;refine⟨.inr λ_ h=>h.right (R':=[_]),?_⟩;refine wC 7 Z (CB 3 Z gu bCc Z Z Z Z (rdr 0 Z) G) ?_;rintro _ _ ⟨kd,km,rfl,rfl⟩;refine⟨.inl cA,?_⟩;refine CK (v:=sl kd (l.length+1) km) Z<|wD 8 Z (aD Z)<|wD 9 Z (aB (off:=1) (m:=1) gy Z fT Z Z Z)<|pQ 10 Z cA (bA 2 Z Z Z fT Z Z Z Z (au Z)) ?_;rintro _ _ rfl;refine⟨.inl cA,?_⟩;refine wN<|wq<|wn Z<|aT [2,3] 4 cC Z ?_;refine⟨_,Z,?_⟩;have e:l.length+1=(l++[(k,at_)]).length:=by rw[ah];rfl
 rw[e];exact⟨_,_,Z,Z⟩
theorem RZ (fb:nt=s.length) (fa:np=l.length) (bm:aO s) (hN:s.length<=100000) (hl:l.length<=1000):
  Ct Tryz.prog 58 #[PG g,I 1] B w0 ((rc 102 2 g [sl At nt ct,sl Ap np cp])::(ru 5 At nt ct s)::⟨106,2,Ap,np,cp,prs l,false⟩::R) (λv R'=> ∃b:List Int,(b.Perm (iota s.length)/\b.Pairwise (bU s))/\ ∃(A8:Option Addr) (c8:Nat) (A7:Option Addr) (c7:Nat),v=I 0/\R'=(rc 102 2 g [sl A8 ((ofL s b).length) c8,sl A7 ((l++[(0,zat b)]).length) c7])::(ru 5 A8 ((ofL s b).length) c8 (ofL s b))::⟨106,2,A7,(l++[(0,zat b)]).length,c7,prs (l++[(0,zat b)]),false⟩::R):=by
 subst fb;subst fa;refine fn1 Iz Z Z Z ?_;refine wq<|wn Z<|aG<|wq<|wm Z<|aA<|aI<|wq<|wy (Yl.t (bC Z Z) cC)<|wn Z ?_;refine bO Z<|wq<|wm Z<|wy (aD Z)<|wy (aB (off:=0) (m:=0) gy Z dO Z Z Z)<|wy (aK (rdr 0 Z) ai Z Z Z)<|wa (aF bFn Z (Ct.fresh (λw hw=>aRn ((rdr 1 Z) w hw) bm hN))) ?_;rintro _ _ ⟨_,rfl,a1,bx,br,rfl,yi,o3,rfl⟩;refine wm Z<|wX Z Z<|wX Z Z<|wX Z Z<|wg Z<|wg Z<|wn Z<|wq<|wm Z<|wm Z<|wm Z<|wy (dU (v:= .agg #[I 0,I (zat a1)]) Z (λw=>cA))<|wa (aF aVx rfl (Ct.pick [1,3,0,2] 4 cC rfl (vP rfl G))) ?_;rintro _ _ ⟨kd,km,rfl,rfl⟩;refine wn Z<|aT [0,2,1] 4 cC Z ?_;refine⟨_,Z,?_⟩;exact⟨a1,⟨yi,o3⟩,_,_,_,_,Z,Z⟩
theorem RY (fb:nt=s.length) (fa:np=l.length) (bm:aO s) (hN:s.length<=100000) (hl:l.length<=1000):
  Ct Tryz.prog 58 #[PG g,I 2] B w0 ((rc 102 2 g [sl At nt ct,sl Ap np cp])::(ru 5 At nt ct s)::⟨106,2,Ap,np,cp,prs l,false⟩::R) (λv R'=> ∃T:List (Int × Int),(T.Perm (iI (bws s) (bws s).length)/\T.Pairwise (pR (bws s)))/\ ∃(A8:Option Addr) (c8:Nat) (A7:Option Addr) (c7:Nat),v=I 0/\R'=(rc 102 2 g [sl A8 T.length c8,sl A7 ((l++[(1,0)]).length) c7])::(ru 5 A8 T.length c8 (T.map (lastB (bws s))))::⟨106,2,A7,(l++[(1,0)]).length,c7,prs (l++[(1,0)]),false⟩::R):=by
 subst fb;subst fa;refine fn1 Iz Z Z Z ?_;refine wq<|wn Z<|aG<|wq<|wm Z<|aA<|aI<|wq<|wy (Yl.f (bC Z Z) cC)<|wn Z ?_;refine aL Z<|wq<|wy (Yl.t (bC Z Z) cC)<|wn Z<|bO Z<|wq<|wm Z<|wy (aD Z)<|wy (aB (off:=0) (m:=0) gy Z dO Z Z Z)<|wy (aK (rdr 0 Z) ai Z Z Z)<|wa (aF aYr Z (Ct.fresh (λw hw=>JR ((rdr 1 Z) w hw) bm hN))) ?_;rintro _ _ ⟨_,rfl,l1,bx,br,rfl,mt,re,rfl⟩;refine wm Z<|wX Z Z<|wX Z Z<|wg Z<|wn Z<|wq<|wm Z<|wm Z<|wy (dU (v:= .agg #[I 1,I 0]) Z (λw=>cA))<|wa (aF aVx rfl (Ct.pick [1,3,0,2] 4 cC rfl (vP rfl G))) ?_;rintro _ _ ⟨kd,km,rfl,rfl⟩;refine wn Z<|aT [0,2,1] 4 cC Z ?_;refine⟨_,Z,?_⟩;exact⟨l1,⟨mt,re⟩,_,_,_,_,Z,Z⟩
theorem RX (fb:nt=s.length) (fa:np=l.length) (hk:k≠1/\k≠2):
  Ct Tryz.prog 58 #[PG g,I k] B w0 ((rc 102 2 g [sl At nt ct,sl Ap np cp])::(ru 5 At nt ct s)::⟨106,2,Ap,np,cp,prs l,false⟩::R) (λv R'=>v=I 1/\R'=(rc 102 2 g [sl At nt ct,sl Ap np cp])::(ru 5 At nt ct s)::⟨106,2,Ap,np,cp,prs l,false⟩::R):=by
 subst fb;subst fa;refine fn1 Iz Z Z Z ?_;refine wq<|wn Z<|aG<|wq<|wm Z<|aA<|aI<|wq<|wy (Yl.f (bC Z Z) (hk.1))<|wn Z ?_;refine aL Z<|wq<|wy (Yl.f (bC Z Z) (hk.2))<|wn Z<|aL Z<|aJ<|wq<|wn Z<|bR (R1:=((rc 102 2 g [sl At s.length ct,sl Ap l.length cp])::(ru 5 At s.length ct s)::⟨106,2,Ap,l.length,cp,prs l,false⟩::R)) (λ_ h=>h) ?_;refine⟨_,Z,?_⟩;exact⟨Z,Z⟩
theorem xD (fb:nt=s.length) (fa:np=l.length):
  Ct Tryz.prog 33 #[PG g] B w0 ((rc 102 2 g [sl At nt ct,sl Ap np cp])::(ru 5 At nt ct s)::⟨106,2,Ap,np,cp,prs l,false⟩::R) (λv R'=>v=I ((l.length:Nat):Int)/\R'=(rc 102 2 g [sl At nt ct,sl Ap np cp])::(ru 5 At nt ct s)::⟨106,2,Ap,np,cp,prs l,false⟩::R):=by
 subst fb;subst fa;refine fn1 Tryz.func33 Z Z Z ?_;refine wq<|wn Z<|aG<|wq<|wm Z<|wy (dA mf Z Z)<|aA<|aL Z<|aJ<|wq<|wm Z ?_;refine wy (aD Z)<|wy (aB (off:=1) (m:=1) gy Z fT Z Z Z)<|wy (aK (rdr 0 Z) gu Z Z Z)<|wy (aQ gu Z)<|wn Z<|bR (R1:=((rc 102 2 g [sl At s.length ct,sl Ap l.length cp])::(ru 5 At s.length ct s)::⟨106,2,Ap,l.length,cp,prs l,false⟩::R)) (λ_ h=>h) ?_;refine⟨_,Z,?_⟩;exact⟨Z,Z⟩
theorem AR (fb:nt=s.length) (fa:np=l.length) (hN:s.length<=1000000):
  Ct Tryz.prog 32 #[PG g] B w0 ((rc 102 2 g [sl At nt ct,sl Ap np cp])::(ru 5 At nt ct s)::⟨106,2,Ap,np,cp,prs l,false⟩::R) (λv R'=> ∃(A9:Option Addr) (c9:Nat),v=sl A9 s.length c9/\R'=(ru 5 A9 s.length c9 s)::(rc 102 2 g [sl At nt ct,sl Ap np cp])::(ru 5 At nt ct s)::⟨106,2,Ap,np,cp,prs l,false⟩::R):=by
 subst fb;subst fa;refine fn1 Tryz.func32 Z Z Z ?_;refine wq<|wn Z<|aG<|wq<|wm Z<|wy (dA mf Z Z)<|aA<|aL Z<|aJ<|wq<|wm Z ?_;refine wy (aD Z)<|wy (aB (off:=0) (m:=0) gy Z dO Z Z Z)<|wy (aK (rdr 0 Z) ai Z Z Z)<|wa (aF VK Z (Ct.fresh (λw hw=>lG ((rdr 1 Z) w hw) hN))) ?_;rintro _ _ ⟨_,rfl,bx,br,rfl,rfl⟩;refine wn Z<|bR (R1:=((ru 5 bx s.length br s)::(rc 102 2 g [sl At s.length ct,sl Ap l.length cp])::(ru 5 At s.length ct s)::⟨106,2,Ap,l.length,cp,prs l,false⟩::R)) (λ_ h=>h) ?_;refine⟨_,Z,?_⟩;exact⟨_,_,Z,Z⟩
variable {w w0:World} {bp At Ap d5:Option Addr} {eh bo B g nt ct np cp ur d6:Nat} {s ks s0:List Int} {x at_:Int} {R:List Row} {l:List (Int × Int)}
theorem aIe (ba:Rd w bp eh bo 1 (ints .i64 s)) (hN:s.length<=1000000):
  Ct Tryz.prog 181 #[sl bp eh bo,I x] w.heap.size w [] (λv R'=> ∃j:Int,v=I j/\(0<=j↔x∈s)):=by
 obtain rfl:=ba.lenI;refine fn1 Tryz.func181 Z Z Z ?_;have ub:=ba.max;refine wq<|wn Z<|aG<|wq<|wm Z<|wy (aQ aa Z)<|wm Z<|aA<|aI ?_;refine pX (λ(i:Int)=>[(0,sl bp s.length bo),(1,I x),(7,I ((s.length:Nat):Int)),(8,I i)]) (λi=>[]) (λi=>(0<=i)/\(i<=s.length)/\(∀q:Int,0<=q->q<i->rd s q≠x)) (λi=>(s.length-i).toNat) ?_ ?_
 ·exact⟨0,⟨G,G,(λq h1 h2=>G)⟩,SA,λ_ h=>h⟩
 intro i ⟨ar,ia,hn⟩;refine wq<|wL Z Z<|aA<|aG<|bJ Z (λaq=> ?_) (λaq=> ?_)
 ·refine aJ<|aG<|aI<|wq<|wm Z<|wn Z<|wq<|wm Z<|wm Z<|wm Z<|wy (aH aa sz3 Z Z (ba.c _))<|wy (aX ak Z Z (ba.c _)) ?_;refine wy (bC Z Z)<|aA<|bJ Z (λcr=> ?_) (λcr=> ?_)
  ·refine wq<|wm Z<|wn Z<|dF ?_;refine⟨_,Z,?_⟩;exact⟨i,Z,⟨λ_=>by rw[(by assumption:x=rd s i)];exact bH ar G,λ_=>ar⟩⟩
  ·refine aJ<|aM<|wA Z Z<|wm Z<|aA ?_
   exact⟨i+1,⟨G,G,(λq h1 h2 e=>by
     rcases ay q i with h|h
     ·exact hn q h1 h e
     ·obtain rfl:q=i:=G
      exact absurd e.symm cF)⟩,G,SA,λ_ h=>h⟩
 ·refine aZ<|wq<|wn Z<|dF ?_;refine⟨_,Z,?_⟩;exact⟨-1,Z,⟨λh=>absurd h cC,λhm=>absurd (YY hm) (hn _ (sG hm).1 (by have:=(sG hm).2;omega))⟩⟩
theorem lY (ba:Rd w bp eh bo 1 (ints .i64 s)) (hN:s.length<=1000000):
  Ct Tryz.prog 108 #[sl bp eh bo,I x] w.heap.size w [] (λv R'=>v= .bool (decide (x∈s))):=by
 obtain rfl:=ba.lenI;refine fn1 Tryz.func108 Z Z Z ?_;have ub:=ba.max;refine wq<|wn Z<|wq<|wm Z<|wm Z<|wa (aF bEv Z (Ct.quiet (λw hw=>aIe ((ba.c _) w hw) hN))) ?_;rintro _ _ ⟨rfl,jx,rfl,hjx⟩;refine wy (jF Z Z)<|wn Z<|dF ?_;refine⟨_,Z,?_⟩;exact bz Value.bool (zl.2 hjx)
set_option maxHeartbeats 1000000 in
theorem RN (fb:nt=s.length) (t8:RdC B w0 R d5 ur d6 1 (ints .i64 ks)) (n5:ur=ks.length) (fa:np=(l++[(0,at_)]).length) (cm:(0:Int)∈ks) (hl:l.length<=1000/\ks.length<=10) (bm:aO s) (hN:s.length<=100000) (cx:aKl s at_) (hb:lI s at_=s0):
  Ct Tryz.prog 62 #[PG g,sl d5 ur d6] B w0 ((rc 102 2 g [sl At nt ct,sl Ap ((l++[(0,at_)]).length) cp])::(ru 5 At nt ct s)::⟨106,2,Ap,np,cp,prs (l++[(0,at_)]),false⟩::R) (λv R'=> ∃(A8:Option Addr) (c8:Nat),v=I 0/\R'=(rc 102 2 g [sl A8 s0.length c8,sl Ap l.length cp])::(ru 5 A8 s0.length c8 s0)::⟨106,2,Ap,l.length,cp,prs l,false⟩::R):=by
 subst fb;subst fa;subst n5;have qn:(l++[((0:Int),at_)]).length=l.length+1:=by rw[ah];rfl
 refine fn1 Cg Z Z Z ?_;refine wq<|wn Z<|wq<|wm Z<|wy (aD Z)<|wy (aB (off:=1) (m:=1) gy Z fT Z Z Z)<|wy (aK (rdr 0 Z) gu Z Z Z)<|wy (aQ gu Z)<|wy (Yl.is (jE Z Z) (show _=Value.int .i64 ((l.length:Nat):Int) from by rw[qn];congr 1;omega))<|wn rfl<|aG ?_;refine wq<|wm Z<|wy (Yl.f (eO Z Z))<|wm Z<|aC Z Z<|wm Z<|aC Z Z<|wm Z<|aC Z Z<|wy (aD Z)<|aC Z Z<|wy (aB (off:=1) (m:=1) gy Z fT Z Z Z)<|aC Z Z<|wy (aK (rdr 0 Z) gu Z Z Z) ?_;refine aC Z Z<|wm Z<|aC Z Z<|wy (gV gu jW Z Z (rdr 2 Z) Z)<|aC Z Z<|wy (sV (off:=0) qw Z sz3 Z Z (rdr 2 Z) G G)<|aC Z Z<|wy (Yl.is (EU ak Z Z (rdr 2 Z)) (show _=Value.int .i64 0 from by rw[kI]))<|aC rfl rfl<|wa (aF VR rfl (Ct.quiet (λw hw=>lY ((RdC.right t8 [_,_,_]) w hw) G))) ?_;rintro _ _ ⟨rfl,rfl⟩;refine kK 28 Z (cm)<|aC Z Z<|wy (dI Z)<|wy (aR Z Z)<|aA<|aL Z<|aJ<|wq<|wm Z<|wy (aD Z)<|wy (aB (off:=1) (m:=1) gy Z fT Z Z Z)<|wy (aK (rdr 0 Z) gu Z Z Z)<|wm Z<|wy (gV gu jW Z Z (rdr 2 Z) Z) ?_;refine wy (Yl.is (EW qw Z jW Z (rdr 2 Z)) (show _=Value.agg #[I 0,I at_] from by rw[kI]))<|wa (iH (sz:=2) aCe rfl) ?_;rintro _ _ ⟨al,rfl,rfl⟩;refine bX (fQ (vs:=[I 0,I at_]) 0 Z jW Z Z Z (by intro v hv;simp at hv;rcases hv with rfl|rfl<;>rfl) Z) ?_;rintro _ _ rfl;refine aA<|aG<|wq<|wy (aB (off:=0) (m:=0) qw Z sz3 Z Z Z)<|wy (aK (rdr 0 Z) ak Z Z Z)<|aA<|aI<|wq<|wy (Yl.t (bC Z Z) cC)<|wn Z<|bO Z<|bT mixed ?_;refine wD 0 Z (aN Z)<|wD 1 Z (aN Z)<|wD 2 Z (aD Z)<|wD 3 Z (aB (off:=0) (m:=0) gy Z dO Z Z Z)<|wD 4 Z (aK (rdr 1 Z) ai Z Z Z)<|wD 5 Z (aB (off:=1) (m:=1) qw Z sz3 Z Z Z)<|wD 6 Z (aK (rdr 0 Z) ak Z Z Z)<|wC 7 Z (aF aYo Z (Ct.fresh (λw hw=>XC ((rdr 2 Z) w hw) bm cx hN))) ?_;rintro _ _ ⟨_,rfl,dj,dp,rfl,rfl⟩;refine⟨.inr λ_ h=>h.right (R':=[_]),?_⟩;refine wD 8 Z (aN Z)<|wD 9 Z (jM Z Z)<|wD 10 Z (jM Z Z)<|wD 11 Z (aD Z)<|wD 12 Z (aB (off:=0) (m:=0) gy Z dO Z Z Z)<|pQ 13 Z cA (bA 2 Z Z Z dO Z Z Z Z (au Z)) ?_;rintro _ _ rfl;refine⟨.inl cA,?_⟩;refine wN<|wq<|wm Z<|wm Z<|wy (aD Z)<|wy (aB (off:=1) (m:=1) gy Z fT Z Z Z)<|wy (aK (rdr 2 Z) gu Z Z Z)<|wm Z<|wy (gD gu jW Z Z (rdr 4 Z))<|wy (aD Z)<|wy (aB (off:=1) (m:=1) gy Z fT Z Z Z)<|bX (bA 2 Z Z Z fT Z Z Z Z (au Z)) ?_;rintro _ _ rfl;refine aA<|wq<|wn Z<|bR (R1:=(rc 102 2 g [sl dj s.length dp,sl Ap l.length cp])::(ru 5 dj s.length dp (lI s at_))::⟨106,2,Ap,l.length,cp,prs l,false⟩::R) (λ_ h=>Hp.pickT (R:=⟨106,2,Ap,l.length,cp,prs l,false⟩::(rc 102 2 g [sl dj s.length dp,sl Ap l.length cp])::(ru 5 dj s.length dp (lI s at_))::R) (Hp.dropLast (h.pickT [4,2,0] 5 cC Z) (by rw[ah];rfl)) [1,2,0] 3 cC Z) ?_;refine⟨_,Z,?_⟩;have e:s.length=s0.length:=by rw[<-hb,rH]
 rw[hb,e];exact⟨_,_,Z,Z⟩
set_option maxHeartbeats 1000000 in
theorem RL (fb:nt=s.length) (t8:RdC B w0 R d5 ur d6 1 (ints .i64 ks)) (n5:ur=ks.length) (fa:np=(l++[(1,at_)]).length) (cm:(1:Int)∈ks) (hl:l.length<=1000/\ks.length<=10) (bm:aO s) (hN:s.length<=100000) (hb:backL s (dX (fsL s))=s0):
  Ct Tryz.prog 62 #[PG g,sl d5 ur d6] B w0 ((rc 102 2 g [sl At nt ct,sl Ap ((l++[(1,at_)]).length) cp])::(ru 5 At nt ct s)::⟨106,2,Ap,np,cp,prs (l++[(1,at_)]),false⟩::R) (λv R'=> ∃(A8:Option Addr) (c8:Nat),v=I 0/\R'=(rc 102 2 g [sl A8 s0.length c8,sl Ap l.length cp])::(ru 5 A8 s0.length c8 s0)::⟨106,2,Ap,l.length,cp,prs l,false⟩::R):=by
 subst fb;subst fa;subst n5;have qn:(l++[((1:Int),at_)]).length=l.length+1:=by rw[ah];rfl
 refine fn1 Cg Z Z Z ?_;refine wq<|wn Z<|wq<|wm Z<|wy (aD Z)<|wy (aB (off:=1) (m:=1) gy Z fT Z Z Z)<|wy (aK (rdr 0 Z) gu Z Z Z)<|wy (aQ gu Z)<|wy (Yl.is (jE Z Z) (show _=Value.int .i64 ((l.length:Nat):Int) from by rw[qn];congr 1;omega))<|wn rfl<|aG ?_;refine wq<|wm Z<|wy (Yl.f (eO Z Z))<|wm Z<|aC Z Z<|wm Z<|aC Z Z<|wm Z<|aC Z Z<|wy (aD Z)<|aC Z Z<|wy (aB (off:=1) (m:=1) gy Z fT Z Z Z)<|aC Z Z<|wy (aK (rdr 0 Z) gu Z Z Z) ?_;refine aC Z Z<|wm Z<|aC Z Z<|wy (gV gu jW Z Z (rdr 2 Z) Z)<|aC Z Z<|wy (sV (off:=0) qw Z sz3 Z Z (rdr 2 Z) G G)<|aC Z Z<|wy (Yl.is (EU ak Z Z (rdr 2 Z)) (show _=Value.int .i64 1 from by rw[kI]))<|aC rfl rfl<|wa (aF VR rfl (Ct.quiet (λw hw=>lY ((RdC.right t8 [_,_,_]) w hw) G))) ?_;rintro _ _ ⟨rfl,rfl⟩;refine kK 28 Z (cm)<|aC Z Z<|wy (dI Z)<|wy (aR Z Z)<|aA<|aL Z<|aJ<|wq<|wm Z<|wy (aD Z)<|wy (aB (off:=1) (m:=1) gy Z fT Z Z Z)<|wy (aK (rdr 0 Z) gu Z Z Z)<|wm Z<|wy (gV gu jW Z Z (rdr 2 Z) Z) ?_;refine wy (Yl.is (EW qw Z jW Z (rdr 2 Z)) (show _=Value.agg #[I 1,I at_] from by rw[kI]))<|wa (iH (sz:=2) aCe rfl) ?_;rintro _ _ ⟨al,rfl,rfl⟩;refine bX (fQ (vs:=[I 1,I at_]) 0 Z jW Z Z Z (by intro v hv;simp at hv;rcases hv with rfl|rfl<;>rfl) Z) ?_;rintro _ _ rfl;refine aA<|aG<|wq<|wy (aB (off:=0) (m:=0) qw Z sz3 Z Z Z)<|wy (aK (rdr 0 Z) ak Z Z Z)<|aA<|aI<|wq<|wy (Yl.f (bC Z Z) cC)<|wn Z<|aL Z<|aG ?_;refine aM<|wy (Yl.t (bC Z Z) cC)<|wn Z<|bO Z<|aM<|wm Z<|wm Z<|wy (aD Z)<|wy (aB (off:=0) (m:=0) gy Z dO Z Z Z)<|wy (aK (rdr 1 Z) ai Z Z Z)<|wa (aF aYn Z (Ct.fresh (λw hw=>JS ((rdr 2 Z) w hw) bm hN))) ?_;rintro _ _ ⟨_,rfl,dj,dp,rfl,rfl⟩;refine wm Z<|wX Z Z<|wX Z Z<|wy (aD Z)<|wy (aB (off:=0) (m:=0) gy Z dO Z Z Z)<|bX (bA 2 Z Z Z dO Z Z Z Z (au Z)) ?_;rintro _ _ rfl;refine aA<|wq<|wm Z<|wm Z<|wy (aD Z)<|wy (aB (off:=1) (m:=1) gy Z fT Z Z Z)<|wy (aK (rdr 2 Z) gu Z Z Z)<|wm Z<|wy (gD gu jW Z Z (rdr 4 Z))<|wy (aD Z)<|wy (aB (off:=1) (m:=1) gy Z fT Z Z Z)<|bX (bA 2 Z Z Z fT Z Z Z Z (au Z)) ?_;rintro _ _ rfl;refine aA<|wq<|wn Z<|bR (R1:=(rc 102 2 g [sl dj ((backL s (dX (fsL s))).length) dp,sl Ap l.length cp])::(ru 5 dj ((backL s (dX (fsL s))).length) dp (backL s (dX (fsL s))))::⟨106,2,Ap,l.length,cp,prs l,false⟩::R) (λ_ h=>Hp.pickT (R:=⟨106,2,Ap,l.length,cp,prs l,false⟩::(rc 102 2 g [sl dj ((backL s (dX (fsL s))).length) dp,sl Ap l.length cp])::(ru 5 dj ((backL s (dX (fsL s))).length) dp (backL s (dX (fsL s))))::R) (Hp.dropLast (h.pickT [4,2,0] 5 cC Z) (by rw[ah];rfl)) [1,2,0] 3 cC Z) ?_;refine⟨_,Z,?_⟩;rw[hb];exact⟨_,_,Z,Z⟩
set_option maxHeartbeats 1000000 in
theorem RJ (fb:nt=s.length) (t8:RdC B w0 R d5 ur d6 1 (ints .i64 ks)) (n5:ur=ks.length) (fa:np=(l++[(2,at_)]).length) (cm:(2:Int)∈ks) (hl:l.length<=1000/\ks.length<=10) (bm:aO s) (hN:s.length<=100000) (hb:jV aS s=s0):
  Ct Tryz.prog 62 #[PG g,sl d5 ur d6] B w0 ((rc 102 2 g [sl At nt ct,sl Ap ((l++[(2,at_)]).length) cp])::(ru 5 At nt ct s)::⟨106,2,Ap,np,cp,prs (l++[(2,at_)]),false⟩::R) (λv R'=> ∃(A8:Option Addr) (c8:Nat),v=I 0/\R'=(rc 102 2 g [sl A8 s0.length c8,sl Ap l.length cp])::(ru 5 A8 s0.length c8 s0)::⟨106,2,Ap,l.length,cp,prs l,false⟩::R):=by
 subst fb;subst fa;subst n5;have qn:(l++[((2:Int),at_)]).length=l.length+1:=by rw[ah];rfl
 refine fn1 Cg Z Z Z ?_;refine wq<|wn Z<|wq<|wm Z<|wy (aD Z)<|wy (aB (off:=1) (m:=1) gy Z fT Z Z Z)<|wy (aK (rdr 0 Z) gu Z Z Z)<|wy (aQ gu Z)<|wy (Yl.is (jE Z Z) (show _=Value.int .i64 ((l.length:Nat):Int) from by rw[qn];congr 1;omega))<|wn rfl<|aG ?_;refine wq<|wm Z<|wy (Yl.f (eO Z Z))<|wm Z<|aC Z Z<|wm Z<|aC Z Z<|wm Z<|aC Z Z<|wy (aD Z)<|aC Z Z<|wy (aB (off:=1) (m:=1) gy Z fT Z Z Z)<|aC Z Z<|wy (aK (rdr 0 Z) gu Z Z Z) ?_;refine aC Z Z<|wm Z<|aC Z Z<|wy (gV gu jW Z Z (rdr 2 Z) Z)<|aC Z Z<|wy (sV (off:=0) qw Z sz3 Z Z (rdr 2 Z) G G)<|aC Z Z<|wy (Yl.is (EU ak Z Z (rdr 2 Z)) (show _=Value.int .i64 2 from by rw[kI]))<|aC rfl rfl<|wa (aF VR rfl (Ct.quiet (λw hw=>lY ((RdC.right t8 [_,_,_]) w hw) G))) ?_;rintro _ _ ⟨rfl,rfl⟩;refine kK 28 Z (cm)<|aC Z Z<|wy (dI Z)<|wy (aR Z Z)<|aA<|aL Z<|aJ<|wq<|wm Z<|wy (aD Z)<|wy (aB (off:=1) (m:=1) gy Z fT Z Z Z)<|wy (aK (rdr 0 Z) gu Z Z Z)<|wm Z<|wy (gV gu jW Z Z (rdr 2 Z) Z) ?_;refine wy (Yl.is (EW qw Z jW Z (rdr 2 Z)) (show _=Value.agg #[I 2,I at_] from by rw[kI]))<|wa (iH (sz:=2) aCe rfl) ?_;rintro _ _ ⟨al,rfl,rfl⟩;refine bX (fQ (vs:=[I 2,I at_]) 0 Z jW Z Z Z (by intro v hv;simp at hv;rcases hv with rfl|rfl<;>rfl) Z) ?_;rintro _ _ rfl;refine aA<|aG<|wq<|wy (aB (off:=0) (m:=0) qw Z sz3 Z Z Z)<|wy (aK (rdr 0 Z) ak Z Z Z)<|aA<|aI<|wq<|wy (Yl.f (bC Z Z) cC)<|wn Z<|aL Z<|aG ?_;refine aM<|wy (Yl.f (bC Z Z) cC)<|wn Z<|aL Z<|wq<|wy (Yl.t (bC Z Z) cC)<|wn Z<|bO Z<|aM<|wm Z<|wm Z<|wy (aD Z) ?_;refine wy (aB (off:=0) (m:=0) gy Z dO Z Z Z)<|wy (aK (rdr 1 Z) ai Z Z Z)<|wa (aF aYm Z (Ct.fresh (λw hw=>OC ((rdr 2 Z) w hw) bm G))) ?_;rintro _ _ ⟨_,rfl,dj,dp,rfl,rfl⟩;refine wy (aD Z)<|wy (aB (off:=0) (m:=0) gy Z dO Z Z Z)<|bX (bA 2 Z Z Z dO Z Z Z Z (au Z)) ?_;rintro _ _ rfl;refine aA<|wq<|wm Z<|wm Z<|wy (aD Z)<|wy (aB (off:=1) (m:=1) gy Z fT Z Z Z)<|wy (aK (rdr 2 Z) gu Z Z Z)<|wm Z<|wy (gD gu jW Z Z (rdr 4 Z))<|wy (aD Z)<|wy (aB (off:=1) (m:=1) gy Z fT Z Z Z)<|bX (bA 2 Z Z Z fT Z Z Z Z (au Z)) ?_;rintro _ _ rfl;refine aA<|wq<|wn Z<|bR (R1:=(rc 102 2 g [sl dj ((s).length) dp,sl Ap l.length cp])::(ru 5 dj ((s).length) dp (jV aS s))::⟨106,2,Ap,l.length,cp,prs l,false⟩::R) (λ_ h=>Hp.pickT (R:=⟨106,2,Ap,l.length,cp,prs l,false⟩::(rc 102 2 g [sl dj ((s).length) dp,sl Ap l.length cp])::(ru 5 dj ((s).length) dp (jV aS s))::R) (Hp.dropLast (h.pickT [4,2,0] 5 cC Z) (by rw[ah];rfl)) [1,2,0] 3 cC Z) ?_;refine⟨_,Z,?_⟩;have e:s.length=s0.length:=by rw[<-hb,vD]
 rw[hb,e];exact⟨_,_,Z,Z⟩
set_option maxHeartbeats 1000000 in
theorem RI {k so od sz:Int} (fb:nt=s.length) (t8:RdC B w0 R d5 ur d6 1 (ints .i64 ks)) (n5:ur=ks.length) (fa:np=(l++[(3,at_)]).length) (cm:(3:Int)∈ks) (hl:l.length<=1000/\ks.length<=10) (bm:aO s) (hN:s.length<=100000) (hu:s=nR k so od sz s0) (ux:aO s0) (hS:s0.length<=400) (hk:k=0\/k=1\/k=2) (hp:(0<=so/\so<=2)/\(od=0\/od=1)/\(1<=sz/\sz<=16777216)):
  Ct Tryz.prog 62 #[PG g,sl d5 ur d6] B w0 ((rc 102 2 g [sl At nt ct,sl Ap ((l++[(3,at_)]).length) cp])::(ru 5 At nt ct s)::⟨106,2,Ap,np,cp,prs (l++[(3,at_)]),false⟩::R) (λv R'=> ∃(A8:Option Addr) (c8:Nat),v=I 0/\R'=(rc 102 2 g [sl A8 s0.length c8,sl Ap l.length cp])::(ru 5 A8 s0.length c8 s0)::⟨106,2,Ap,l.length,cp,prs l,false⟩::R):=by
 subst fb;subst fa;subst n5;have qn:(l++[((3:Int),at_)]).length=l.length+1:=by rw[ah];rfl
 refine fn1 Cg Z Z Z ?_;refine wq<|wn Z<|wq<|wm Z<|wy (aD Z)<|wy (aB (off:=1) (m:=1) gy Z fT Z Z Z)<|wy (aK (rdr 0 Z) gu Z Z Z)<|wy (aQ gu Z)<|wy (Yl.is (jE Z Z) (show _=Value.int .i64 ((l.length:Nat):Int) from by rw[qn];congr 1;omega))<|wn rfl<|aG ?_;refine wq<|wm Z<|wy (Yl.f (eO Z Z))<|wm Z<|aC Z Z<|wm Z<|aC Z Z<|wm Z<|aC Z Z<|wy (aD Z)<|aC Z Z<|wy (aB (off:=1) (m:=1) gy Z fT Z Z Z)<|aC Z Z<|wy (aK (rdr 0 Z) gu Z Z Z) ?_;refine aC Z Z<|wm Z<|aC Z Z<|wy (gV gu jW Z Z (rdr 2 Z) Z)<|aC Z Z<|wy (sV (off:=0) qw Z sz3 Z Z (rdr 2 Z) G G)<|aC Z Z<|wy (Yl.is (EU ak Z Z (rdr 2 Z)) (show _=Value.int .i64 3 from by rw[kI]))<|aC rfl rfl<|wa (aF VR rfl (Ct.quiet (λw hw=>lY ((RdC.right t8 [_,_,_]) w hw) G))) ?_;rintro _ _ ⟨rfl,rfl⟩;refine kK 28 Z (cm)<|aC Z Z<|wy (dI Z)<|wy (aR Z Z)<|aA<|aL Z<|aJ<|wq<|wm Z<|wy (aD Z)<|wy (aB (off:=1) (m:=1) gy Z fT Z Z Z)<|wy (aK (rdr 0 Z) gu Z Z Z)<|wm Z<|wy (gV gu jW Z Z (rdr 2 Z) Z) ?_;refine wy (Yl.is (EW qw Z jW Z (rdr 2 Z)) (show _=Value.agg #[I 3,I at_] from by rw[kI]))<|wa (iH (sz:=2) aCe rfl) ?_;rintro _ _ ⟨al,rfl,rfl⟩;refine bX (fQ (vs:=[I 3,I at_]) 0 Z jW Z Z Z (by intro v hv;simp at hv;rcases hv with rfl|rfl<;>rfl) Z) ?_;rintro _ _ rfl;refine aA<|aG<|wq<|wy (aB (off:=0) (m:=0) qw Z sz3 Z Z Z)<|wy (aK (rdr 0 Z) ak Z Z Z)<|aA<|aI<|wq<|wy (Yl.f (bC Z Z) cC)<|wn Z<|aL Z<|aG ?_;refine aM<|wy (Yl.f (bC Z Z) cC)<|wn Z<|aL Z<|wq<|wy (Yl.f (bC Z Z) cC)<|wn Z<|aL Z<|wq<|wm Z<|wy (aD Z) ?_;refine wy (aB (off:=0) (m:=0) gy Z dO Z Z Z)<|wy (aK (rdr 1 Z) ai Z Z Z)<|wa (aF bGz Z (Ct.fresh (λw hw=>aVy (w:=s0) (k:=k) (so:=so) (od:=od) (sz:=sz) ((rdr 2 Z) w hw) bm G hu ux hS hk hp G (.inl G)))) ?_;rintro _ _ ⟨_,rfl,dj,dp,rfl,rfl⟩;refine wm Z<|wX Z Z<|wX Z Z<|wX Z Z<|wa (iH (sz:=2) bBu Z) ?_;rintro _ _ ⟨fm,rfl,rfl⟩;refine wa (iH (sz:=4) bBt Z) ?_;rintro _ _ ⟨Nu,rfl,rfl⟩;refine bX (fQ (vs:=[sl dj ((s0).length) dp,sl none 0 0]) 1 Z AV Z Z Z (by intro v hv;simp at hv;rcases hv with rfl|rfl<;>rfl) Z) ?_;rintro _ _ rfl;refine bX (fQ (vs:=[I k,I so,I od,I sz]) 0 Z gG Z Z Z (by intro v hv;simp at hv;rcases hv with rfl|rfl|rfl|rfl<;>rfl) Z) ?_;rintro _ _ rfl;refine wn Z<|aM<|wm Z<|wy (aB (off:=0) (m:=0) ko Z dO Z Z Z)<|wy (aK (rdr 1 Z) ai Z Z Z)<|wy (aD Z)<|wy (aB (off:=0) (m:=0) gy Z dO Z Z Z)<|bX (bA 4 Z Z Z dO Z Z Z Z (au Z)) ?_;rintro _ _ rfl;refine aA<|wq<|wm Z<|wm Z<|wy (aD Z)<|wy (aB (off:=1) (m:=1) gy Z fT Z Z Z)<|wy (aK (rdr 4 Z) gu Z Z Z)<|wm Z<|wy (gD gu jW Z Z (rdr 6 Z))<|wy (aD Z)<|wy (aB (off:=1) (m:=1) gy Z fT Z Z Z)<|bX (bA 4 Z Z Z fT Z Z Z Z (au Z)) ?_;rintro _ _ rfl;refine aA<|wq<|wn Z<|bR (R1:=(rc 102 2 g [sl dj ((s0).length) dp,sl Ap l.length cp])::(ru 5 dj ((s0).length) dp s0)::⟨106,2,Ap,l.length,cp,prs l,false⟩::R) (λ_ h=>Hp.pickT (R:=⟨106,2,Ap,l.length,cp,prs l,false⟩::(rc 102 2 g [sl dj ((s0).length) dp,sl Ap l.length cp])::(ru 5 dj ((s0).length) dp s0)::R) (Hp.dropLast (h.pickT [6,4,2] 7 cC Z) (by rw[ah];rfl)) [1,2,0] 3 cC Z) ?_;refine⟨_,Z,?_⟩;exact⟨_,_,Z,Z⟩
theorem tF {K:Int} (fb:nt=s.length) (t8:RdC B w0 R d5 ur d6 1 (ints .i64 ks)) (n5:ur=ks.length) (fa:np=(l++[(K,at_)]).length) (cm:K∉ks) (hl:l.length<=1000/\ks.length<=10):
  Ct Tryz.prog 62 #[PG g,sl d5 ur d6] B w0 ((rc 102 2 g [sl At nt ct,sl Ap ((l++[(K,at_)]).length) cp])::(ru 5 At nt ct s)::⟨106,2,Ap,np,cp,prs (l++[(K,at_)]),false⟩::R) (λv R'=>v=I 6/\R'=(rc 102 2 g [sl At nt ct,sl Ap np cp])::(ru 5 At nt ct s)::⟨106,2,Ap,np,cp,prs (l++[(K,at_)]),false⟩::R):=by
 subst fb;subst fa;subst n5;have qn:(l++[(K,at_)]).length=l.length+1:=by rw[ah];rfl
 refine fn1 Cg Z Z Z ?_;refine wq<|wn Z<|wq<|wm Z<|wy (aD Z)<|wy (aB (off:=1) (m:=1) gy Z fT Z Z Z)<|wy (aK (rdr 0 Z) gu Z Z Z)<|wy (aQ gu Z)<|wy (Yl.is (jE Z Z) (show _=Value.int .i64 ((l.length:Nat):Int) from by rw[qn];congr 1;omega))<|wn rfl<|aG ?_;refine wq<|wm Z<|wy (Yl.f (eO Z Z))<|wm Z<|aC Z Z<|wm Z<|aC Z Z<|wm Z<|aC Z Z<|wy (aD Z)<|aC Z Z<|wy (aB (off:=1) (m:=1) gy Z fT Z Z Z)<|aC Z Z<|wy (aK (rdr 0 Z) gu Z Z Z) ?_;refine aC Z Z<|wm Z<|aC Z Z<|wy (gV gu jW Z Z (rdr 2 Z) Z)<|aC Z Z<|wy (sV (off:=0) qw Z sz3 Z Z (rdr 2 Z) G G)<|aC Z Z<|wy (Yl.is (EU ak Z Z (rdr 2 Z)) (show _=Value.int .i64 K from by rw[kI]))<|aC rfl rfl<|wa (aF VR rfl (Ct.quiet (λw hw=>lY ((RdC.right t8 [_,_,_]) w hw) G))) ?_;rintro _ _ ⟨rfl,rfl⟩;refine vB 28 Z (cm)<|aC Z Z<|wy (dI Z)<|wy (aR Z Z)<|aA<|bO Z<|wq<|wn Z<|bR (R1:=((rc 102 2 g [sl At s.length ct,sl Ap ((l++[(K,at_)]).length) cp])::(ru 5 At s.length ct s)::⟨106,2,Ap,(l++[(K,at_)]).length,cp,prs (l++[(K,at_)]),false⟩::R)) (λ_ h=>h) ?_;refine⟨_,Z,?_⟩;exact⟨Z,Z⟩
theorem tH (t8:RdC B w0 R d5 ur d6 1 (ints .i64 ks)) (n5:ur=ks.length):
  Ct Tryz.prog 62 #[PG g,sl d5 ur d6] B w0 ((rc 102 2 g [sl At nt ct,sl Ap 0 cp])::(ru 5 At nt ct s)::⟨106,2,Ap,0,cp,prs ([]),false⟩::R) (λv R'=>v=I 6/\R'=(rc 102 2 g [sl At nt ct,sl Ap 0 cp])::(ru 5 At nt ct s)::⟨106,2,Ap,0,cp,prs ([]),false⟩::R):=by
 subst n5;refine fn1 Cg Z Z Z ?_;refine wq<|wn Z<|wq<|wm Z<|wy (aD Z)<|wy (aB (off:=1) (m:=1) gy Z fT Z Z Z)<|wy (aK (rdr 0 Z) gu Z Z Z)<|wy (aQ gu Z)<|wy (Yl.is (jE Z Z) Z)<|wn Z<|aG ?_;refine wq<|wm Z<|wy (Yl.t (eO Z Z) cC)<|wm Z<|aP Z Z Z Z<|aP Z Z Z Z<|aP Z Z Z Z<|aP Z Z Z Z<|aP Z Z Z Z<|aP Z Z Z Z<|aP Z Z Z Z<|aP Z Z Z Z<|aP Z Z Z Z<|aP Z Z Z Z ?_;refine aP Z Z Z Z<|wy (aY Z Z)<|aA<|bO Z<|wq<|wn Z<|bR (R1:=((rc 102 2 g [sl At nt ct,sl Ap 0 cp])::(ru 5 At nt ct s)::⟨106,2,Ap,0,cp,prs ([]),false⟩::R)) (λ_ h=>h) ?_;refine⟨_,Z,?_⟩;exact⟨Z,Z⟩
end Go.Proofs.YtdbebmmhdefgdaaGreat
