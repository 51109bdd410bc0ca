/- Own work. -/
import Derived.Shelf.Abstract
import Derived.WalkKit
import Derived.OwnWalkIn
import Derived.TacticsInMore
import Derived.LoopNIn
import Derived.LoopIn
import Derived.Test.YtdbebmmhdefgdaaGreatProg
import Derived.Ground.NamesProg
import Derived.Ground.Names2Prog
import Derived.Shelf.Sort.Plain
import Derived.Shelf.Slices.SearchI
import Derived.Shelf.Slices.In.SortNone
import Derived.Shelf.Slices.Empties
import Derived.Lib.SlKeysI
import Derived.Shelf.Bits.Mul64
import Derived.Ground.SlsfProg
import Derived.Shelf.SlSortCmp.WholeK
import Derived.Test.YtdbebmmhdefgdaaGreatA3
set_option linter.unusedVariables false
set_option linter.unusedSimpArgs false
namespace Go.Proofs.YtdbebmmhdefgdaaGreat
open Go Go.Eng Go.Pure
open Tryz
set_option maxRecDepth 100000
variable {w:World} {n i j k:Int} {A_s:Option Addr} {n_s c_s:Nat} {s:List Int}
theorem kX {r:Int} (hr:0≤r∧r≤2) (hn:0≤n∧n≤1000000):
  Ct Tryz.prog 293 #[I n,I r] w.heap.size w [] (fun v R'=> ∃A c,v= .slice A (plc n.toNat r.toNat).length c∧R'=[(ri 3 A ((plc n.toNat r.toNat).length) c (plc n.toNat r.toNat))]):=by
 refine fn1 Tryz.func293 Z Z Z ?_
 refine wq<|wn Z<|wq<|dH (R1:=[(ri 3 none 0 0 ([]))]) (Sub.refl _) (fun _ h=>h.nil 3 1)<|wn Z<|aG<|wq<|wm Z<|wn Z ?_
 refine aI ?_
 refine nU (fun(A1:Option Addr) (n1:Nat) (c1:Nat) (a1:List Int) (i:Int) (k:Nat)=>[(0,I n),(5, .slice A1 n1 c1),(6,I i)]) (fun A1 n1 c1 a1 i k=>[(ri 3 A1 n1 c1 a1)]) (fun A1 n1 c1 a1 i k=>(n1=a1.length)∧(i=r+3*k)∧(a1=KP r.toNat k)∧(r+3*(k:Int)<n+3)) (fun A1 n1 c1 a1 i k=>(n-i).toNat) ?_ ?_
 ·exact⟨none,0,0,[],r,0,⟨(Z),by omega,(Z),by omega⟩,(G3 Z Z Z),fun _ h=>h⟩
 intro A1 n1 c1 a1 i k ⟨hn1,hi,hacc,hk⟩
 have hal:=congrArg List.length hacc
 rw[TG] at hal
 refine aG<|wq<|wm Z<|wm Z<|wL Z Z<|aA<|bM Z (fun hc1=> ?_) (fun hc1=> ?_)
 ·refine aK<|aG<|aI<|aM<|wm Z<|wm Z<|wa (bS .i64 [i] underlying52 zs3 Z Z Z) ?_
  rintro _ _ ⟨g_2,rfl,rfl⟩
  refine wa (bE 1 Z underlying52 zb3 Z Z Z (rdr 0 Z)) ?_
  rintro _ _ ⟨A_3,c_4,rfl,rfl⟩
  refine bN (v:= .slice A_3 (n1+1) c_4) Z<|wn Z<|aM<|wm Z<|wA Z Z<|wn Z ?_
  exact⟨A_3,n1+1,c_4,a1++([i]),i+3,(k+1),⟨(by simp only[List.length_append,hn1];try rfl),by omega,(by rw[aGq,←hacc,show((r.toNat:Nat):Int)+3*(k:Int)=i by omega]),by omega⟩,by omega,(G3 Z Z Z),fun _ h=>h.sel [1] (by decide) Z⟩
 ·refine aZ<|wq<|wm Z<|wn Z<|aT [0] 99 (by decide) Z ?_
  refine⟨_,Z,?_⟩
  obtain rfl:k=(n.toNat+2-r.toNat)/3:=by omega
  subst hacc
  obtain rfl:=hn1
  exact⟨_,_,Z,Z⟩
theorem SN (hn:0≤n∧n≤100000):
  Ct Tryz.prog 322 #[I n] w.heap.size w [] (fun v R'=> ∃A c,v= .slice A (smp n.toNat).length c∧R'=[(ri 3 A ((smp n.toNat).length) c (smp n.toNat))]):=by
 refine fn1 Tryz.func322 Z Z Z ?_
 refine wq<|wn Z<|aG<|wq<|wm Z<|wL Z Z<|wm Z<|dS 3 [(0,I n),(8, .bool (decide ((n<0)∨(100000<n))))] [] ?_ ?_
 ·refine dC 5 Z (fun hc1=> ?_) (fun hc1=> ?_)
  ·refine aP Z Z Z Z<|aP Z Z Z Z<|wy (bA Z Z)<|aA ?_
   exact⟨(sc Z (Sub.to Z mtA Sub.nil)),fun _ h=>h⟩
  ·refine aC Z Z<|wm Z<|aC Z Z<|wy (dV Z Z)<|wy (aS Z Z)<|aA ?_
   exact⟨(sc Z (Sub.to Z mbA Sub.nil)),fun _ h=>h⟩
 refine uX 8 Z (by omega)<|aA<|aL Z<|aK<|wq<|wm Z<|wa (aF NN Z (Ct.fresh (fun w hw=>kX (by first|assumption|omega|decide) (by omega)))) ?_
 rintro _ _ ⟨_,rfl,A_1,c_2,rfl,rfl⟩
 refine iW (R1:=[(ri 3 A_1 ((plc n.toNat 1).length) c_2 (plc n.toNat 1))]) Z<|bN (v:= .slice A_1 ((plc n.toNat 1).length) c_2) Z<|wm Z<|wa (aF NN Z (Ct.fresh (fun w hw=>kX (by first|assumption|omega|decide) (by omega)))) ?_
 rintro _ _ ⟨_,rfl,A_4,c_5,rfl,rfl⟩
 refine iW (R1:=[(ri 3 A_4 ((plc n.toNat 2).length) c_5 (plc n.toNat 2)),(ri 3 A_1 ((plc n.toNat 1).length) c_2 (plc n.toNat 1))]) Z<|bN (v:= .slice A_4 ((plc n.toNat 2).length) c_5) Z<|wa (bE 1 Z underlying52 zb3 Z Z Z (rdr 0 Z) (by have:=iX n.toNat 1;have:=iX n.toNat 2;omega)) ?_
 rintro _ _ ⟨A_7,c_8,rfl,rfl⟩
 refine iW (R1:=[(ri 3 A_4 ((plc n.toNat 2).length) c_5 (plc n.toNat 2)),(ri 3 A_7 (((plc n.toNat 1).length)+((plc n.toNat 2).length)) c_8 ((plc n.toNat 1)++(plc n.toNat 2)))]) Z<|bN (v:= .slice A_7 (((plc n.toNat 1).length)+((plc n.toNat 2).length)) c_8) Z<|wn Z<|aT [1] 99 (by decide) Z ?_
 refine⟨_,Z,?_⟩
 have e:(plc n.toNat 1).length+(plc n.toNat 2).length=(smp n.toNat).length:=(List.length_append ..).symm
 rw[e]
 exact⟨_,_,Z,Z⟩
theorem uG {s:List Int} (h_s:Rd w A_s n_s c_s 1 (ints .i64 s)) (hi:0≤i) (hs: ∀x∈s,0≤x∧x≤1000000):
  Ct Tryz.prog 324 #[.slice A_s n_s c_s,I i] w.heap.size w [] (fun v R'=>v=I (gT s i)):=by
 obtain rfl:=h_s.lenI
 refine fn1 Tryz.func324 Z Z Z ?_
 have m_s:=h_s.max
 refine wq<|wn Z<|aG<|wq<|wm Z<|wm Z<|wy (aQ underlying52 Z)<|wy (jG Z Z)<|aA<|bM Z (fun hc1=> ?_) (fun hc1=> ?_)
 ·refine wq<|wn Z<|dJ ?_
  refine⟨_,Z,?_⟩
  exact congrArg (Value.int .i64) (by unfold gT;rw[if_pos (by omega)])
 ·have hm:=hs _ (bH (L:=s) hi (by omega))
  refine aK<|wq<|wm Z<|wm Z<|wy (aH underlying52 sz3 Z Z (h_s.c _))<|wy (aX underlying3 Z Z (h_s.c _))<|wA Z Z<|wn Z<|dJ ?_
  refine⟨_,Z,?_⟩
  exact congrArg (Value.int .i64) (by unfold gT;rw[if_neg (by omega)])
theorem NC {s:List Int} {b:Int} (h_s:Rd w A_s n_s c_s 1 (ints .i64 s)) (hb:0≤b∧b≤2) (hs: ∀x∈s,0≤x∧x≤1000000) (hN:s.length≤1000000):
  Ct Tryz.prog 295 #[.slice A_s n_s c_s,I b] w.heap.size w [] (fun v R'=> ∃A c,v= .slice A (s.length) c∧R'=[(ri 3 A s.length c (fA s b))]):=by
 obtain rfl:=h_s.lenI
 refine fn1 Tryz.func295 Z Z Z ?_
 have m_s:=h_s.max
 refine wq<|wn Z<|wq<|wm Z<|wy (aQ underlying52 Z)<|wa (dE underlying52 zb3 Z Z) ?_
 rintro _ _ ⟨g_1,rfl,rfl⟩
 refine bN (v:= .slice (GG g_1) s.length s.length) Z<|wn Z<|aG<|wq<|wm Z<|wy (aQ underlying52 Z)<|wm Z<|aA<|aI ?_
 refine dR (fun(i:Int) (V:List Int)=>[(0, .slice A_s s.length c_s),(1,I b),(5, .slice (GG g_1) s.length s.length),(11,I ((s.length:Nat):Int)),(12,I i)]) (fun i V=>[(ri 3 (GG g_1) s.length s.length V)]) (fun i V=>(0≤i)∧(i≤s.length)∧(V.length=s.length)∧(∀j:Int,0≤j→j<i→rd V j=gT s (j+b))) (fun i V=>(s.length-i).toNat) ?_ ?_
 ·exact⟨0,List.replicate s.length (0:Int),⟨by omega,by omega,(by rw[List.length_replicate]),(fun j h1 h2=>by omega)⟩,(G5 rfl rfl rfl rfl rfl),fun _ h=>h⟩
 intro i V ⟨hi0,hi1,hVl,hV⟩
 refine wq<|wL Z Z<|aA<|aG<|bM Z (fun hc1=> ?_) (fun hc1=> ?_)
 ·refine aK<|aG<|aI<|wq<|wm Z<|wn Z<|aM<|wm Z<|wm Z<|wm Z<|wm Z<|wm Z<|wA Z Z ?_
  refine wa (aF VF Z (Ct.quiet (fun w hw=>uG ((h_s.c _) w hw) (by omega) (by first|assumption|omega|decide)))) ?_
  rintro _ _ ⟨rfl,rfl⟩
  refine wy (aH underlying52 sz3 Z Z (rdr 0 Z))<|bY (bG 0 Z sz3 Z Z) ?_
  rintro _ _ rfl
  refine aA<|aM<|wA Z Z<|wm Z<|aA ?_
  exact⟨i+1,upd V i (gT s (i+b)),⟨by omega,by omega,(by rw[aV];exact hVl),(eH (f:=fun j=>gT s (j+b)) hi0 (by omega) hV Z)⟩,by omega,(G5 Z Z Z Z Z),fun _ h=>h⟩
 ·refine aZ<|wq<|wm Z<|wn Z<|aT [0] 99 (by decide) Z ?_
  refine⟨_,Z,?_⟩
  obtain rfl:V=fA s b:=aOf hVl (fun j h1 h2=>hV j h1 (by omega))
  exact⟨_,_,Z,Z⟩
theorem aBl {s:List Int} (h_s:Rd w A_s n_s c_s 1 (ints .i64 s)) (hi:0≤i∧i≤1000000) (hj:0≤j∧j≤1000000) (hs: ∀x∈s,0≤x∧x≤1000000):
  Ct Tryz.prog 323 #[.slice A_s n_s c_s,I i,I j] w.heap.size w [] (fun v R'=>v= .bool (decide (KY s i j))):=by
 obtain rfl:=h_s.lenI
 refine fn1 Tryz.func323 Z Z Z ?_
 have m_s:=h_s.max
 refine wq<|wn Z<|aG<|wq<|wm Z<|aA<|aI ?_
 refine rT (fun(b:Int)=>[(0, .slice A_s s.length c_s),(1,I i),(2,I j),(8,I b)]) (fun b=>[]) (fun b=>(0≤b)∧(b≤3)∧(∀c:Int,0≤c→c<b→gT s (i+c)=gT s (j+c))) (fun b=>(3-b).toNat) ?_ ?_
 ·exact⟨0,⟨by omega,by omega,(fun c h1 h2=>by omega)⟩,(G4 rfl rfl rfl rfl),fun _ h=>h⟩
 intro b ⟨hb0,hb3,hk⟩
 refine wq<|wL Z Z<|aA<|aG<|bM Z (fun hc1=> ?_) (fun hc1=> ?_)
 ·refine aK<|aG<|aI<|wq<|wm Z<|wn Z<|wq<|wm Z<|wm Z<|wm Z<|wA Z Z<|wa (aF VF Z (Ct.quiet (fun w hw=>uG ((h_s.c _) w hw) (by omega) (by first|assumption|omega|decide)))) ?_
  rintro _ _ ⟨rfl,rfl⟩
  refine wm Z<|wm Z<|wm Z<|wA Z Z<|wa (aF VF Z (Ct.quiet (fun w hw=>uG ((h_s.c _) w hw) (by omega) (by first|assumption|omega|decide)))) ?_
  rintro _ _ ⟨rfl,rfl⟩
  refine wy (jA Z Z)<|aA<|bM Z (fun hc2=> ?_) (fun hc2=> ?_)
  ·refine wq<|wn Z<|dJ ?_
   refine⟨_,Z,?_⟩
   exact congrArg Value.bool (decide_eq_false (aRn hb0 (by omega) hc2)).symm
  ·refine aK<|aM<|wA Z Z<|wm Z<|aA ?_
   exact⟨b+1,⟨by omega,by omega,(fun c h1 h2=>(Int.lt_or_le c b).elim (hk c h1) fun g=>by rw[show c=b by omega];exact Decidable.not_not.1 hc2)⟩,by omega,(G4 rfl rfl rfl rfl),fun _ h=>h⟩
 ·refine aZ<|wq<|wn Z<|dJ ?_
  refine⟨_,Z,?_⟩
  exact congrArg Value.bool (decide_eq_true (aWc fun c h1 h2=>hk c h1 (by omega))).symm
theorem aHf {s:List Int} {A_rk:Option Addr} {n_rk c_rk:Nat} {rk:List Int} {o:List Int} (h_s:Rd w A_s n_s c_s 1 (ints .i64 s)) (h_rk:Rd w A_rk n_rk c_rk 1 (ints .i64 rk)) (hR:RkO s o rk) (hi:(0≤i∧i<s.length)∧i%3≠0) (hj:(0≤j∧j<s.length)∧j%3=0) (hs: ∀x∈s,0≤x∧x≤1000000) (hN:s.length≤1000000):
  Ct Tryz.prog 296 #[.slice A_s n_s c_s, .slice A_rk n_rk c_rk,I i,I j] w.heap.size w [] (fun v R'=>v= .bool (decide (cmpL (s.drop i.toNat) (s.drop j.toNat)<0))):=by
 obtain rfl:=h_s.lenI
 obtain rfl:=h_rk.lenI
 refine fn1 Tryz.func296 Z Z Z ?_
 have m_s:=h_s.max
 have m_rk:=h_rk.max
 have nn:Nn s:=fun x hx=>(hs x hx).1
 refine wq<|wn Z<|aI ?_
 refine fU (fun(p:Int) (q:Int) (c:Nat)=>[(0, .slice A_s s.length c_s),(1, .slice A_rk rk.length c_rk),(2,I p),(3,I q)]) (fun p q c=>[]) (fun p q c=>(p=i+c)∧(q=j+c)∧(EqH c (eu s i.toNat) (eu s j.toNat))∧(c=0∨c=1∧i%3=2)) (fun p q c=>2-c) ?_ ?_
 ·exact⟨i,j,0,⟨by omega,by omega,(fun d hd=>by omega),(.inl rfl)⟩,(G4 rfl rfl rfl rfl),fun _ h=>h⟩
 intro p q c ⟨hp,hq,he,hc⟩
 have hcc:c≤1:=by omega
 have hVl:=hR.len
 refine aI<|aG<|wq<|wm Z<|wm Z<|wa (aF VF Z (Ct.quiet (fun w hw=>uG ((h_s.c _) w hw) (by omega) (by first|assumption|omega|decide)))) ?_
 rintro _ _ ⟨rfl,rfl⟩
 refine wm Z<|wm Z<|wa (aF VF Z (Ct.quiet (fun w hw=>uG ((h_s.c _) w hw) (by omega) (by first|assumption|omega|decide)))) ?_
 rintro _ _ ⟨rfl,rfl⟩
 refine wg Z<|wn Z<|wq<|wm Z<|wm Z<|wy (jA Z Z)<|aA<|bM Z (fun hc1=> ?_) (fun hc1=> ?_)
 ·refine wq<|wm Z<|wm Z<|wL Z Z<|wn Z<|dJ ?_
  refine⟨_,Z,?_⟩
  exact congrArg Value.bool (decide_eq_decide.2 (by subst hp hq;rw[gY];exact aNx nn hi.1.1 hj.1.1 he hc1))
 ·have he2:=aUq nn hi.1.1 hj.1.1 he (by rw[←hp,←hq];exact Decidable.not_not.1 hc1)
  refine aK<|wq<|wm Z<|wA Z Z<|wm Z<|wA Z Z<|wg Z<|wn Z<|wq<|wm Z<|wy (BU Z Z)<|wy (jA Z Z) ?_
  refine wm Z<|dS 4 [(0, .slice A_s s.length c_s),(1, .slice A_rk rk.length c_rk),(2,I (p+1)),(3,I (q+1)),(34, .bool (decide ((((p+1)%3)≠0)∧(((q+1)%3)≠0))))] [] ?_ ?_
  ·refine dC 30 Z (fun hc2=> ?_) (fun hc2=> ?_)
   ·refine aC Z Z<|wm Z<|aC Z Z<|wy (BU Z Z)<|aC Z Z<|wy (jA Z Z)<|wy (bA Z Z)<|aA ?_
    exact⟨(sc Z (sc Z (sc Z (sc Z (Sub.to Z mbA Sub.nil))))),fun _ h=>h⟩
   ·refine aP Z Z Z Z<|aP Z Z Z Z<|aP Z Z Z Z<|wy (aS Z Z)<|aA ?_
    exact⟨(sc Z (sc Z (sc Z (sc Z (Sub.to Z mfA Sub.nil))))),fun _ h=>h⟩
  refine aA<|bM Z (fun hc3=> ?_) (fun hc3=> ?_)
  ·have hlr:=aHe hR hi.1 hj.1 (by omega) he2 (by omega) (by omega)
   rw[show i+((c+1:Nat):Int)=p+1 by omega,show j+((c+1:Nat):Int)=q+1 by omega] at hlr
   refine aG<|bT mixed<|wD 0 Z (aN Z)<|wD 1 Z (aN Z)<|wD 2 Z (aN Z)<|wD 3 Z (aQ underlying52 Z)<|wD 4 Z (vQ Z Z)<|wD 5 Z (aH underlying52 sz3 Z Z (h_rk.c _))<|wD 6 Z (aX underlying3 Z Z (h_rk.c _))<|wD 7 Z (aN Z)<|wD 8 Z (aN Z)<|wD 9 Z (aN Z)<|wD 10 Z (aQ underlying52 Z)<|wD 11 Z (vQ Z Z)<|wD 12 Z (aH underlying52 sz3 Z Z (h_rk.c _)) ?_
   refine wD 13 Z (aX underlying3 Z Z (h_rk.c _))<|wD 14 Z (eP Z Z)<|wD 15 Z (bQ Z)<|wN<|dJ ?_
   refine⟨_,Z,?_⟩
   exact congrArg Value.bool (decide_eq_decide.2 (by rw[gY,Int.min_eq_left hlr.1.1,Int.min_eq_left hlr.1.2];exact hlr.2))
  ·refine aK ?_
   exact⟨p+1,q+1,(c+1),⟨by omega,by omega,(he2),by omega⟩,by omega,(G4 Z Z Z Z),fun _ h=>h⟩
set_option maxHeartbeats 4000000 in
theorem KO {w:World} {s:List Int} (h_s:Rd w A_s n_s c_s 1 (ints .i64 s)) (IH: ∀ {w:World} {A_t:Option Addr} {n_t c_t:Nat} {t:List Int} {j:Int},Rd w A_t n_t c_t 1 (ints .i64 t)→t.length<s.length→((0≤j∧j≤1000000)∧ ∀x∈t,0≤x∧x<j)→t.length≤100000→Ct Tryz.prog 266 #[.slice A_t n_t c_t,I j] w.heap.size w [] (fun v R'=> ∃(b:List Int) (A:Option Addr) (c:Nat),v= .slice A t.length c∧b.Perm (iota t.length)∧b.Pairwise (bU t)∧R'=[(ri 3 A t.length c b)])) (hok:(0≤k∧k≤1000000)∧ ∀x∈s,0≤x∧x<k) (hN:s.length≤100000) (h2:2≤s.length):
  Ct Tryz.prog 294 #[.slice A_s n_s c_s,I k] w.heap.size w [] (fun v R'=> ∃(o V:List Int) (A A':Option Addr) (c c' m:Nat),v= .tuple #[.slice A o.length c, .slice A' m c']∧m=V.length∧RkO s o V∧(∀(B:Nat) (w0 w:World),Hp B w0 w R'→Rd w A o.length c 1 (ints .i64 o))∧ ∀(B:Nat) (w0 w:World),Hp B w0 w R'→Rd w A' V.length c' 1 (ints .i64 V)):=by
 obtain rfl:=h_s.lenI
 refine fn2 Tryz.func294 Z Z Z ?_
 have m_s:=h_s.max
 have nn:Nn s:=fun x hx=>(hok.2 x hx).1
 have hs1: ∀x∈s,0≤x∧x≤1000000:=fun x hx=>by have:=hok.2 x hx;omega
 have lp1:=iX s.length 1
 have lp2:=iX s.length 2
 have lsm:=xX s.length
 refine wq<|dH (R1:=((ri 3 none 0 0 ([]))::[])) (Sub.refl _) (fun _ h=>h.nil 3 1)<|wg Z<|wn Z<|wq<|wm Z<|wy (aQ underlying52 Z)<|wa (aF bCr Z (Ct.fresh (fun w hw=>SN (by omega)))) ?_
 rintro _ _ ⟨_,rfl,A_1,c_2,rfl,rfl⟩
 refine bN (v:= .slice A_1 ((smp s.length).length) c_2) Z<|wn Z<|wq<|wm Z<|wn Z<|aG<|wq<|wn Z<|aI ?_
 refine aKh (fun(b:Int) (A1:Option Addr) (n1:Nat) (c1:Nat) (O:List Int) (A6:Option Addr) (n6:Nat) (c6:Nat) (j:Nat) (Rs:List Row)=>[(0, .slice A_s s.length c_s),(1,I k),(4, .slice A1 n1 c1),(6, .slice A6 n6 c6),(7,I b)]) (fun b A1 n1 c1 O A6 n6 c6 j Rs=>((ri 3 none 0 0 ([]))::Rs)) (fun b A1 n1 c1 O A6 n6 c6 j Rs=>(b=2-j)∧(j≤3)∧(O=aYm s k j)∧(n1=O.length)∧(n6=(smp s.length).length)∧(∀(B:Nat) (w0 w:World),Hp B w0 w Rs→Rd w A1 n1 c1 1 (ints .i64 O))∧(∀(B:Nat) (w0 w:World),Hp B w0 w Rs→Rd w A6 n6 c6 1 (ints .i64 (smp s.length)))) (fun b A1 n1 c1 O A6 n6 c6 j Rs=>(b+1).toNat) ?_ ?_
 ·exact⟨2,A_1,(smp s.length).length,c_2,(smp s.length),A_1,(smp s.length).length,c_2,0,((ri 3 A_1 ((smp s.length).length) c_2 (smp s.length))::[]),⟨by omega,by omega,(Z),(Z),(Z),(fun B w0 w h=>rdr 0 Z w h),(fun B w0 w h=>rdr 0 Z w h)⟩,(G5 Z Z Z Z Z),fun _ h=>h.selR (F:=[_,_]) (F':=[_,_]) [1,0] (by decide) Z⟩
 intro b A1 n1 c1 O A6 n6 c6 j Rs ⟨hj,hj3,hO,hn1,hn6,h4,h6⟩
 have hOp:=zY hok.2 hok.1.1 j hj3
 rw[←hO] at hOp
 have hOl:=hOp.length_eq
 rw[xX] at hOl
 refine aG<|wq<|wm Z<|wy (jG Z Z)<|aA<|bM Z (fun hc1=> ?_) (fun hc1=> ?_)
 ·have hb2:0≤b∧b≤2:=by omega
  have hpl:O.length=(bW O (fA s b) (k+1).toNat).length:=((oD hok.2 hok.1.1 hb2.1 (fun x hx=>mK (hOp.subset hx))).length_eq).symm
  refine aK<|aG<|aI<|aM<|wm Z<|wm Z<|wm Z<|wa (aF aXf Z (Ct.fresh (fun w hw=>NC ((h_s.c _) w hw) (by omega) hs1 (by omega)))) ?_
  rintro _ _ ⟨_,rfl,A_3,c_4,rfl,rfl⟩
  refine wm Z<|wA Z Z<|wa (aF IX Z (Ct.fresh (fun w hw=>rY ((fun _ h=>h4 _ _ _ (h.right (R':=[_,_]))) w hw) ((rdr 0 Z) w hw) (by omega) (UI hok.2 hok.1.1 (by omega)) (fun x hx=>by have:=mK (hOp.subset hx);rw[BH];omega) (by omega)))) ?_
  rintro _ _ ⟨_,rfl,A_5,c_6,rfl,rfl⟩
  refine wm Z<|wX Z Z<|wX Z Z<|wn Z<|aM<|wm Z<|wS Z Z<|wn Z ?_
  exact⟨b-1,A_5,(O).length,c_6,(bW O (fA s b) (k+1).toNat),A6,n6,c6,(j+1),((ri 3 A_5 ((O).length) c_6 (bW O (fA s b) ((k+1)).toNat))::Rs),⟨by omega,by omega,(by rw[hO,hj];rfl),(hpl),(hn6),(fun B w0 w h=>rdr 0 Z w h),(fun B w0 w h=>h6 B w0 w h.tail)⟩,by omega,(G5 Z Z Z Z Z),fun _ h=>h.selR (F:=[_,_,_]) (F':=[_,_]) [2,0] (by decide) Z⟩
 ·have hO3:O=aYn s k:=by rw[hO,show j=3 by omega];rfl
  have hOs:=XR hok.2 hok.1.1
  rw[←hO3] at hOs
  refine aZ<|wq<|wm Z<|wy (aQ underlying52 Z)<|wA Z Z<|wa (dE underlying52 zb3 Z Z) ?_
  rintro _ _ ⟨g_9,rfl,rfl⟩
  refine bN (v:= .slice (GG g_9) ((((s.length:Nat):Int)+3).toNat) ((((s.length:Nat):Int)+3).toNat)) Z<|wn Z<|wq<|wn Z<|aG<|wq<|wm Z<|wy (aQ underlying52 Z)<|wm Z<|aA<|aI ?_
  refine fU (fun(q:Int) (n:Int) (V:List Int)=>[(0, .slice A_s s.length c_s),(4, .slice A1 n1 c1),(5, .slice (GG g_9) ((((s.length:Nat):Int)+3).toNat) ((((s.length:Nat):Int)+3).toNat)),(6, .slice A6 n6 c6),(8,I n),(43, .slice A1 n1 c1),(44,I ((n1:Nat):Int)),(45,I q)]) (fun q n V=>((ri 3 (GG g_9) ((((s.length:Nat):Int)+3).toNat) ((((s.length:Nat):Int)+3).toNat) V)::(ri 3 none 0 0 ([]))::Rs)) (fun q n V=>(0≤q)∧(q≤O.length)∧(RkI s O V q n)) (fun q n V=>(O.length-q).toNat) ?_ ?_
  ·exact⟨0,0,List.replicate ((((s.length:Nat):Int)+3).toNat) (0:Int),⟨by omega,by omega,(by rw[show(((s.length:Nat):Int)+3).toNat=s.length+3 by omega];exact aLt)⟩,(G8 Z Z Z Z Z Z Z Z),fun _ h=>h⟩
  intro q n V ⟨hq0,hq1,hI⟩
  have hVl:=hI.len
  have hnq:=hI.nq
  have hn0:=hI.n0
  refine wq<|wL Z Z<|aA<|aG<|bM Z (fun hc2=> ?_) (fun hc2=> ?_)
  ·have hOq:0≤q→ ∀p:Int,0≤p→p<O.length→0≤rd O p∧rd O p<s.length:=fun _ p a b=>mK (hOp.subset (bH a b))
   refine aK<|aG<|aI<|wq<|wm Z<|wy (aH underlying52 sz3 Z Z (fun _ h=>h4 _ _ _ (h.right (R':=[_,_]))))<|wy (aX underlying3 Z Z (fun _ h=>h4 _ _ _ (h.right (R':=[_,_]))))<|wg Z<|wn Z<|aG<|wq<|wm Z ?_
   refine wy (bC Z Z)<|wm Z<|dS 10 [(0, .slice A_s s.length c_s),(4, .slice A1 n1 c1),(5, .slice (GG g_9) ((((s.length:Nat):Int)+3).toNat) ((((s.length:Nat):Int)+3).toNat)),(6, .slice A6 n6 c6),(8,I n),(10,I (rd O q)),(43, .slice A1 n1 c1),(44,I ((n1:Nat):Int)),(45,I q),(62, .bool (decide ((q=0)∨(¬(KY s (rd O (q-1)) (rd O q))))))] ((ri 3 (GG g_9) ((((s.length:Nat):Int)+3).toNat) ((((s.length:Nat):Int)+3).toNat) V)::(ri 3 none 0 0 ([]))::Rs) ?_ ?_
   ·refine dC 52 Z (fun hc3=> ?_) (fun hc3=> ?_)
    ·refine aP Z Z Z Z<|aP Z Z Z Z<|aP Z Z Z Z<|aP Z Z Z Z<|aP Z Z Z Z<|aP Z Z Z Z<|aP Z Z Z Z<|aP Z Z Z Z<|aP Z Z Z Z<|wy (bA Z Z)<|aA ?_
     exact⟨(sc Z (sc Z (sc Z (sc Z (sc Z (sc Z (sc Z (sc Z (sc Z (Sub.to Z mtA Sub.nil)))))))))),fun _ h=>h⟩
    ·refine aC Z Z<|wm Z<|aC Z Z<|wm Z<|aC Z Z<|wm Z<|aC Z Z<|wS Z Z<|aC Z Z<|wy (aH underlying52 sz3 Z Z (fun _ h=>h4 _ _ _ (h.right (R':=[_,_]))))<|aC Z Z<|wy (aX underlying3 Z Z (fun _ h=>h4 _ _ _ (h.right (R':=[_,_]))))<|aC Z Z<|wm Z<|aC Z Z ?_
     refine wa (aF bCq Z (Ct.quiet (fun w hw=>aBl ((h_s.c _) w hw) (by have:=hOq hq0 (q-1) (by omega) (by omega);omega) (by have:=hOq hq0 q (by omega) (by omega);omega) hs1))) ?_
     rintro _ _ ⟨rfl,rfl⟩
     refine aC Z Z<|wy (EO Z)<|wy (aS Z Z)<|aA ?_
     exact⟨(sc Z (sc Z (sc Z (sc Z (sc Z (sc Z (sc Z (sc Z (sc Z (Sub.to Z mbA Sub.nil)))))))))),fun _ h=>h⟩
   refine aA<|bM Z (fun hc4=> ?_) (fun hc4=> ?_)
   ·refine aM<|wm Z<|wA Z Z<|wn Z<|aM<|wm Z<|wm Z<|wm Z<|wy (aH underlying52 sz3 Z Z (rdr 0 Z) (by have:=hOq hq0 q (by omega) (by omega);omega) (by have:=hOq hq0 q (by omega) (by omega);omega)) ?_
    refine bY (bG 0 Z sz3 Z Z (by have:=hOq hq0 q (by omega) (by omega);omega) (by have:=hOq hq0 q (by omega) (by omega);omega)) ?_
    rintro _ _ rfl
    refine aA<|aM<|wA Z Z<|wm Z<|aA ?_
    exact⟨q+1,n+1,upd V (rd O q) (n+1),⟨by omega,by omega,(hI.step hOp hq0 (by omega) (.inl ⟨Z,aZn nn hOp hOs hq0 (by omega) hc4⟩))⟩,by omega,(G8 Z Z Z Z Z Z Z Z),fun _ h=>h⟩
   ·refine aK<|aM<|wm Z<|wm Z<|wm Z<|wy (aH underlying52 sz3 Z Z (rdr 0 Z) (by have:=hOq hq0 q (by omega) (by omega);omega) (by have:=hOq hq0 q (by omega) (by omega);omega)) ?_
    refine bY (bG 0 Z sz3 Z Z (by have:=hOq hq0 q (by omega) (by omega);omega) (by have:=hOq hq0 q (by omega) (by omega);omega)) ?_
    rintro _ _ rfl
    refine aA<|aM<|wA Z Z<|wm Z<|aA ?_
    exact⟨q+1,n,upd V (rd O q) n,⟨by omega,by omega,(hI.step hOp hq0 (by omega) (.inr ⟨Z,aZl nn hOp hq0 (by omega) hc4⟩))⟩,by omega,(G8 Z Z Z Z Z Z Z Z),fun _ h=>h⟩
  ·have hIe:RkI s O V O.length n:=by have e:q=O.length:=(by omega);rw[←e];exact hI
   refine aZ<|aG<|wq<|wm Z<|wm Z<|wy (aQ underlying52 Z)<|wy (bC Z Z)<|aA<|bM Z (fun hc5=> ?_) (fun hc5=> ?_)
   ·refine wq<|wm Z<|wm Z<|wg Z<|wn Z<|aT [0] 2 (by decide) Z ?_
    refine⟨_,_,Z,Z,?_⟩
    obtain rfl:=hn1
    have hVm:(((s.length:Nat):Int)+3).toNat=V.length:=by have:=hIe.len;omega
    exact⟨O,V,_,_,_,_,_,Z,hVm,hIe.all hOp (by omega),fun B w0 w h=>h4 B w0 w h.tail,fun B w0 w h=>by rw[←hVm];exact rdr 0 rfl w h⟩
   ·have hF:=hIe.done hOp
    have h4l:4≤s.length:=Nat.not_lt.1 fun g=>hc5 (by have:=hIe.short hOp h2 (by omega);omega)
    refine aK<|wq<|wm Z<|wy (aQ underlying52 Z)<|wa (aF NN Z (Ct.fresh (fun w hw=>kX (by first|assumption|omega|decide) (by omega)))) ?_
    rintro _ _ ⟨_,rfl,A_10,c_11,rfl,rfl⟩
    refine bN (v:= .slice A_10 ((plc s.length 1).length) c_11) Z<|wn Z<|wq<|dH (R1:=((ri 3 none 0 0 ([]))::(ri 3 A_10 ((plc s.length 1).length) c_11 (plc s.length 1))::(ri 3 (GG g_9) ((((s.length:Nat):Int)+3).toNat) ((((s.length:Nat):Int)+3).toNat) V)::(ri 3 none 0 0 ([]))::Rs)) (Sub.refl _) (fun _ h=>h.nil 3 1)<|wn Z<|aG<|wq<|wm Z<|wy (aQ underlying52 Z)<|wm Z<|aA ?_
    refine aI ?_
    refine jP (fun(A2:Option Addr) (n2:Nat) (c2:Nat) (a2:List Int) (i:Int)=>[(0, .slice A_s s.length c_s),(5, .slice (GG g_9) ((((s.length:Nat):Int)+3).toNat) ((((s.length:Nat):Int)+3).toNat)),(6, .slice A6 n6 c6),(8,I n),(11, .slice A_10 ((plc s.length 1).length) c_11),(12, .slice A2 n2 c2),(79, .slice A_10 ((plc s.length 1).length) c_11),(80,I (((plc s.length 1).length:Nat):Int)),(81,I i)]) (fun A2 n2 c2 a2 i=>((ri 3 A2 n2 c2 a2)::(ri 3 A_10 ((plc s.length 1).length) c_11 (plc s.length 1))::(ri 3 (GG g_9) ((((s.length:Nat):Int)+3).toNat) ((((s.length:Nat):Int)+3).toNat) V)::(ri 3 none 0 0 ([]))::Rs)) (fun A2 n2 c2 a2 i=>(n2=a2.length)∧(0≤i)∧(i≤(plc s.length 1).length)∧(a2=((plc s.length 1).take i.toNat).map (rd V))) (fun A2 n2 c2 a2 i=>((plc s.length 1).length-i).toNat) ?_ ?_
    ·exact⟨none,0,0,[],0,⟨(Z),by omega,by omega,(Z)⟩,(G9 Z Z Z Z Z Z Z Z Z),fun _ h=>h⟩
    intro A2 n2 c2 a2 i ⟨hn2,hi0,hi1,hac2⟩
    have hal2:=congrArg List.length hac2
    rw[List.length_map,List.length_take] at hal2
    refine wq<|wL Z Z<|aA<|aG<|bM Z (fun hc6=> ?_) (fun hc6=> ?_)
    ·have hpi:=(jD (n:=s.length) (r:=1) (by omega)).1 (bH (L:=plc s.length 1) hi0 (by omega))
     refine aK<|aG<|aI<|wq<|wy (aH underlying52 sz3 Z Z (rdr 1 Z))<|wy (aX underlying3 Z Z (rdr 1 Z))<|wn Z<|aM<|wm Z<|wm Z<|wm Z<|wy (aH underlying52 sz3 Z Z (rdr 2 Z))<|wy (aX underlying3 Z Z (rdr 2 Z)) ?_
     refine wa (bS .i64 [rd V (rd (plc s.length 1) i)] underlying52 zs3 Z Z Z) ?_
     rintro _ _ ⟨g_13,rfl,rfl⟩
     refine wa (bE 1 Z underlying52 zb3 Z Z Z (rdr 0 Z)) ?_
     rintro _ _ ⟨A_14,c_15,rfl,rfl⟩
     refine bN (v:= .slice A_14 (n2+1) c_15) Z<|wn Z<|aM<|wA Z Z<|wm Z<|aA ?_
     exact⟨A_14,n2+1,c_15,a2++([rd V (rd (plc s.length 1) i)]),i+1,⟨(by simp only[List.length_append,hn2];try rfl),by omega,by omega,(by rw[dD hi0 (by omega),List.map_append,hac2];rfl)⟩,by omega,(G9 Z Z Z Z Z Z Z Z Z),fun _ h=>h.selR (F:=[_,_,_,_,_]) (F':=[_,_,_,_]) [1,2,3,4] (by decide) Z⟩
    ·refine aZ<|wq<|wm Z<|wa (bS .i64 [0] underlying52 zs3 Z Z Z) ?_
     rintro _ _ ⟨g_17,rfl,rfl⟩
     refine wa (bE 1 Z underlying52 zb3 Z Z Z (rdr 0 Z)) ?_
     rintro _ _ ⟨A_18,c_19,rfl,rfl⟩
     refine bN (v:= .slice A_18 (n2+1) c_19) Z<|wn Z<|aG<|wq<|wm Z<|wy (aQ underlying52 Z)<|wa (aF NN Z (Ct.fresh (fun w hw=>kX (by first|assumption|omega|decide) (by omega)))) ?_
     rintro _ _ ⟨_,rfl,A_20,c_21,rfl,rfl⟩
     refine bN (v:= .slice A_20 ((plc s.length 2).length) c_21) Z<|wy (aQ underlying52 Z)<|wm Z<|aA<|aI ?_
     refine jP (fun(A3:Option Addr) (n3:Nat) (c3:Nat) (a3:List Int) (u:Int)=>[(5, .slice (GG g_9) ((((s.length:Nat):Int)+3).toNat) ((((s.length:Nat):Int)+3).toNat)),(6, .slice A6 n6 c6),(8,I n),(11, .slice A_10 ((plc s.length 1).length) c_11),(12, .slice A3 n3 c3),(98, .slice A_20 ((plc s.length 2).length) c_21),(99,I (((plc s.length 2).length:Nat):Int)),(100,I u)]) (fun A3 n3 c3 a3 u=>((ri 3 A_20 ((plc s.length 2).length) c_21 (plc s.length 2))::(ri 3 (GG g_17) 1 1 ([0]))::(ri 3 A3 n3 c3 a3)::(ri 3 A_10 ((plc s.length 1).length) c_11 (plc s.length 1))::(ri 3 (GG g_9) ((((s.length:Nat):Int)+3).toNat) ((((s.length:Nat):Int)+3).toNat) V)::(ri 3 none 0 0 ([]))::Rs)) (fun A3 n3 c3 a3 u=>(n3=a3.length)∧(0≤u)∧(u≤(plc s.length 2).length)∧(a3=((plc s.length 1).map (rd V)++[0])++((plc s.length 2).take u.toNat).map (rd V))) (fun A3 n3 c3 a3 u=>((plc s.length 2).length-u).toNat) ?_ ?_
     ·exact⟨A_18,n2+1,c_19,a2++([0]),0,⟨(by simp only[List.length_append,hn2];try rfl),by omega,by omega,(by rw[hac2,List.take_of_length_le (by omega)];simp)⟩,(G8 Z Z Z Z Z Z Z Z),fun _ h=>h⟩
     intro A3 n3 c3 a3 u ⟨hn3,hk0,hk1,hac3⟩
     have hal3:=congrArg List.length hac3
     rw[List.length_append,List.length_append,List.length_map,List.length_map,List.length_take,List.length_singleton] at hal3
     refine wq<|wL Z Z<|aA<|aG<|bM Z (fun hc7=> ?_) (fun hc7=> ?_)
     ·have hpi:=(jD (n:=s.length) (r:=2) (by omega)).1 (bH (L:=plc s.length 2) hk0 (by omega))
      refine aK<|aG<|aI<|wq<|wy (aH underlying52 sz3 Z Z (rdr 0 Z))<|wy (aX underlying3 Z Z (rdr 0 Z))<|wn Z<|aM<|wm Z<|wm Z<|wm Z<|wy (aH underlying52 sz3 Z Z (rdr 4 Z))<|wy (aX underlying3 Z Z (rdr 4 Z)) ?_
      refine wa (bS .i64 [rd V (rd (plc s.length 2) u)] underlying52 zs3 Z Z Z) ?_
      rintro _ _ ⟨g_23,rfl,rfl⟩
      refine wa (bE 3 Z underlying52 zb3 Z Z Z (rdr 0 Z)) ?_
      rintro _ _ ⟨A_24,c_25,rfl,rfl⟩
      refine bN (v:= .slice A_24 (n3+1) c_25) Z<|wn Z<|aM<|wA Z Z<|wm Z<|aA ?_
      exact⟨A_24,n3+1,c_25,a3++([rd V (rd (plc s.length 2) u)]),u+1,⟨(by simp only[List.length_append,hn3];try rfl),by omega,by omega,(by rw[dD hk0 (by omega),List.map_append,hac3,List.append_assoc];rfl)⟩,by omega,(G8 Z Z Z Z Z Z Z Z),fun _ h=>h.selR (F:=[_,_,_,_,_,_,_]) (F':=[_,_,_,_,_,_]) [1,2,3,4,5,6] (by decide) Z⟩
     ·have hbl:a3=blw s V:=by rw[hac3,List.take_of_length_le (by omega)];rfl
      refine aZ<|wq<|wn Z<|aG<|wq<|wm Z<|wm Z<|wA Z Z<|wa (aF aXi Z (Ct.fresh (fun w hw=>IH ((rdr 2 Z) w hw) (by rw[hbl,sK];omega) ⟨by omega,by rw[hbl];exact aRe hF hI.n0⟩ (by rw[hbl,sK];omega)))) ?_
      rintro _ _ ⟨_,rfl,b1,A_26,c_27,rfl,hp_b1,hs_b1,rfl⟩
      refine wy (aQ underlying52 Z)<|wm Z<|aA<|aI ?_
      refine jP (fun(A4:Option Addr) (n4:Nat) (c4:Nat) (a4:List Int) (m:Int)=>[(4, .slice A4 n4 c4),(5, .slice (GG g_9) ((((s.length:Nat):Int)+3).toNat) ((((s.length:Nat):Int)+3).toNat)),(6, .slice A6 n6 c6),(11, .slice A_10 ((plc s.length 1).length) c_11),(115, .slice A_26 a3.length c_27),(116,I ((a3.length:Nat):Int)),(117,I m)]) (fun A4 n4 c4 a4 m=>((ri 3 A_26 a3.length c_27 b1)::(ri 3 A_20 ((plc s.length 2).length) c_21 (plc s.length 2))::(ri 3 (GG g_17) 1 1 ([0]))::(ri 3 A3 n3 c3 a3)::(ri 3 A_10 ((plc s.length 1).length) c_11 (plc s.length 1))::(ri 3 (GG g_9) ((((s.length:Nat):Int)+3).toNat) ((((s.length:Nat):Int)+3).toNat) V)::(ri 3 A4 n4 c4 a4)::Rs)) (fun A4 n4 c4 a4 m=>(n4=a4.length)∧(0≤m)∧(m≤b1.length)∧(a4=ofB s (b1.take m.toNat))) (fun A4 n4 c4 a4 m=>(b1.length-m).toNat) ?_ ?_
      ·exact⟨none,0,0,[],0,⟨(Z),by omega,by omega,(Z)⟩,(G7 Z Z Z Z Z Z Z),fun _ h=>h⟩
      intro A4 n4 c4 a4 m ⟨hn4,hm0,hm1,hac4⟩
      have hbl1:b1.length=a3.length:=by rw[hp_b1.length_eq,bF]
      have hal4:=congrArg List.length hac4
      have hal5:=aTw (s:=s) (b1.take m.toNat)
      rw[List.length_take] at hal5
      refine wq<|wL Z Z<|aA<|aG<|bM Z (fun hc8=> ?_) (fun hc8=> ?_)
      ·have hbm:=aW.1 (hp_b1.subset (bH (L:=b1) hm0 (by omega)))
       rw[hbl,sK] at hbm
       refine aK<|aG<|aI<|wq<|wy (aH underlying52 sz3 Z Z (rdr 0 Z))<|wy (aX underlying3 Z Z (rdr 0 Z))<|wn Z<|aI<|wq<|wm Z<|wm Z<|wy (aQ underlying52 Z) ?_
       refine wL Z Z<|wn Z<|bM Z (fun hc9=> ?_) (fun hc9=> ?_)
       ·refine aM<|wm Z<|wm Z<|wm Z<|wy (aH underlying52 sz3 Z Z (rdr 4 Z))<|wy (aX underlying3 Z Z (rdr 4 Z))<|wa (bS .i64 [rd (plc s.length 1) (rd b1 m)] underlying52 zs3 Z Z Z) ?_
        rintro _ _ ⟨g_30,rfl,rfl⟩
        refine wa (bE 7 Z underlying52 zb3 Z Z Z (rdr 0 Z)) ?_
        rintro _ _ ⟨A_31,c_32,rfl,rfl⟩
        refine bN (v:= .slice A_31 (n4+1) c_32) Z<|wn Z<|aM<|wA Z Z<|wm Z<|aA ?_
        exact⟨A_31,n4+1,c_32,a4++([rd (plc s.length 1) (rd b1 m)]),m+1,⟨(by simp only[List.length_append,hn4];try rfl),by omega,by omega,(by rw[dD hm0 (by omega),TU (by omega),hac4,bAq hbm.1 (by omega)])⟩,by omega,(G7 Z Z Z Z Z Z Z),fun _ h=>h.selR (F:=[_,_,_,_,_,_,_,_]) (F':=[_,_,_,_,_,_,_]) [1,2,3,4,5,6,7] (by decide) Z⟩
       ·refine wq<|wm Z<|wm Z<|wy (aQ underlying52 Z)<|wy (dV Z Z)<|wn Z<|bM Z (fun hc10=> ?_) (fun hc10=> ?_)
        ·refine aM<|wm Z<|wm Z<|wm Z<|wS Z Z<|wy (aH underlying52 sz3 Z Z (fun _ h=>h6 _ _ _ (h.right (R':=[_,_,_,_,_,_,_]))))<|wy (aX underlying3 Z Z (fun _ h=>h6 _ _ _ (h.right (R':=[_,_,_,_,_,_,_]))))<|wa (bS .i64 [rd (smp s.length) ((rd b1 m)-1)] underlying52 zs3 Z Z Z) ?_
         rintro _ _ ⟨g_34,rfl,rfl⟩
         refine wa (bE 7 Z underlying52 zb3 Z Z Z (rdr 0 Z)) ?_
         rintro _ _ ⟨A_35,c_36,rfl,rfl⟩
         refine bN (v:= .slice A_35 (n4+1) c_36) Z<|wn Z<|aM<|wA Z Z<|wm Z<|aA ?_
         exact⟨A_35,n4+1,c_36,a4++([rd (smp s.length) ((rd b1 m)-1)]),m+1,⟨(by simp only[List.length_append,hn4];try rfl),by omega,by omega,(by rw[dD hm0 (by omega),TU (by omega),hac4,bAp (by omega) (by omega)])⟩,by omega,(G7 Z Z Z Z Z Z Z),fun _ h=>h.selR (F:=[_,_,_,_,_,_,_,_]) (F':=[_,_,_,_,_,_,_]) [1,2,3,4,5,6,7] (by decide) Z⟩
        ·refine aK<|aM<|wA Z Z<|wm Z<|aA ?_
         exact⟨A4,n4,c4,a4,m+1,⟨(by simp only[List.length_append,hn4];try rfl),by omega,by omega,(by rw[dD hm0 (by omega),TT (by omega),hac4])⟩,by omega,(G7 Z Z Z Z Z Z Z),fun _ h=>h⟩
      ·rw [hbl] at hp_b1 hs_b1
       have hof:a4=ofB s b1:=by rw[hac4,List.take_of_length_le (by omega)]
       have hop4:a4.Perm (smp s.length):=by rw[hof];exact aNi hp_b1
       have hos4:a4.Pairwise (bU s):=by rw[hof];exact ZA hF hI.n0 hp_b1 hs_b1
       refine aZ<|aG<|wq<|wm Z<|wy (aQ underlying52 Z)<|wm Z<|aA<|aI ?_
       refine dR (fun(z:Int) (V5:List Int)=>[(4, .slice A4 n4 c4),(5, .slice (GG g_9) ((((s.length:Nat):Int)+3).toNat) ((((s.length:Nat):Int)+3).toNat)),(147, .slice A4 n4 c4),(148,I ((n4:Nat):Int)),(149,I z)]) (fun z V5=>((ri 3 A_26 a3.length c_27 b1)::(ri 3 A_20 ((plc s.length 2).length) c_21 (plc s.length 2))::(ri 3 (GG g_17) 1 1 ([0]))::(ri 3 A3 n3 c3 a3)::(ri 3 A_10 ((plc s.length 1).length) c_11 (plc s.length 1))::(ri 3 (GG g_9) ((((s.length:Nat):Int)+3).toNat) ((((s.length:Nat):Int)+3).toNat) V5)::(ri 3 A4 n4 c4 a4)::Rs)) (fun z V5=>(0≤z)∧(z≤a4.length)∧(RkN s a4 V5 z)) (fun z V5=>(a4.length-z).toNat) ?_ ?_
       ·exact⟨0,V,⟨by omega,by omega,(hF.zero _)⟩,(G5 Z Z Z Z Z),fun _ h=>h⟩
       intro z V5 ⟨hz0,hz1,hN5⟩
       have hV5:=hN5.len
       refine wq<|wL Z Z<|aA<|aG<|bM Z (fun hc11=> ?_) (fun hc11=> ?_)
       ·have hzi:=mK (hop4.subset (bH (L:=a4) hz0 (by omega)))
        refine aK<|aG<|aI<|wq<|wm Z<|wy (aH underlying52 sz3 Z Z (rdr 6 Z))<|wy (aX underlying3 Z Z (rdr 6 Z))<|wg Z<|wn Z<|aM<|wm Z<|wm Z<|wm Z ?_
        refine wA Z Z<|wy (aH underlying52 sz3 Z Z (rdr 5 Z))<|bY (bG 5 Z sz3 Z Z) ?_
        rintro _ _ rfl
        refine aA<|aM<|wA Z Z<|wm Z<|aA ?_
        exact⟨z+1,upd V5 (rd a4 z) (z+1),⟨by omega,by omega,(hN5.step hop4 hz0 (by omega))⟩,by omega,(G5 Z Z Z Z Z),fun _ h=>h⟩
       ·refine aZ<|wq<|wm Z<|wm Z<|wg Z<|wn Z<|bR (R1:=[(ri 3 A4 n4 c4 a4),(ri 3 (GG g_9) ((((s.length:Nat):Int)+3).toNat) ((((s.length:Nat):Int)+3).toNat) V5)]) (fun _ h=>(h.selR (F:=[_,_,_,_,_,_,_]) (F':=[_,_]) [6,5] (by decide) Z).left (X:=[_,_])) ?_
        refine⟨_,_,Z,Z,?_⟩
        obtain rfl:=hn4
        have hVm:(((s.length:Nat):Int)+3).toNat=V5.length:=by have:=hN5.len;omega
        have hNe:RkN s a4 V5 a4.length:=by have e:z=a4.length:=(by omega);rw[←e];exact hN5
        exact⟨a4,V5,_,_,_,_,_,Z,hVm,hNe.done hop4 hos4,fun B w0 w h=>rdr 0 Z w h,fun B w0 w h=>by rw[←hVm];exact rdr 1 rfl w h⟩
theorem aMl {l:List Int} {a:Int} (h0:0≤a):rd (l.drop a.toNat) 0=rd l a:=by
 unfold rd
 rw[List.getD_eq_getElem?_getD,List.getD_eq_getElem?_getD,List.getElem?_drop]
 rfl
set_option maxHeartbeats 4000000 in
theorem DD {w:World} {s:List Int} (h_s:Rd w A_s n_s c_s 1 (ints .i64 s)) (IH: ∀ {w:World} {A_t:Option Addr} {n_t c_t:Nat} {t:List Int} {j:Int},Rd w A_t n_t c_t 1 (ints .i64 t)→t.length<s.length→((0≤j∧j≤1000000)∧ ∀x∈t,0≤x∧x<j)→t.length≤100000→Ct Tryz.prog 266 #[.slice A_t n_t c_t,I j] w.heap.size w [] (fun v R'=> ∃(b:List Int) (A:Option Addr) (c:Nat),v= .slice A t.length c∧b.Perm (iota t.length)∧b.Pairwise (bU t)∧R'=[(ri 3 A t.length c b)])) (hok:(0≤k∧k≤1000000)∧ ∀x∈s,0≤x∧x<k) (hN:s.length≤100000):
  Ct Tryz.prog 266 #[.slice A_s n_s c_s,I k] w.heap.size w [] (fun v R'=> ∃(b:List Int) (A:Option Addr) (c:Nat),v= .slice A s.length c∧b.Perm (iota s.length)∧b.Pairwise (bU s)∧R'=[(ri 3 A s.length c b)]):=by
 obtain rfl:=h_s.lenI
 refine fn1 Tryz.func266 Z Z Z ?_
 have m_s:=h_s.max
 have hs1: ∀x∈s,0≤x∧x≤1000000:=fun x hx=>by have:=hok.2 x hx;omega
 have lp0:=iX s.length 0
 have lsm:=xX s.length
 refine wq<|wn Z<|aG<|wq<|wm Z<|wy (aQ underlying52 Z)<|wL Z Z<|aA<|bM Z (fun hc1=> ?_) (fun hc1=> ?_)
 ·refine wq<|wm Z<|wy (aQ underlying52 Z)<|wa (aF NN Z (Ct.fresh (fun w hw=>kX (by first|assumption|omega|decide) (by omega)))) ?_
  rintro _ _ ⟨_,rfl,A_1,c_2,rfl,rfl⟩
  refine bN (v:= .slice A_1 ((plc s.length 0).length) c_2) Z<|wm Z<|wy (aQ underlying52 Z)<|wy (gD underlying52 sz3 Z Z (rdr 0 Z))<|wn Z<|bR (R1:=[(ri 3 A_1 ((plc s.length 0).length) c_2 (plc s.length 0))]) (fun _ h=>(h.selR (F:=[_]) (F':=[_]) [0] (by decide) Z).left (X:=[_])) ?_
  refine⟨_,Z,?_⟩
  rw[aGp (show s.length<2 by omega),bF]
  exact⟨_,_,_,Z, .refl _,aYz (by omega),Z⟩
 ·refine aK<|wq<|wm Z<|wm Z<|wa (aF bCz Z (Ct.fresh (fun w hw=>KO ((h_s.c _) w hw) IH hok hN (by omega)))) ?_
  rintro _ _ ⟨Rn,rfl,o1,V1,A_3,A_5,c_4,c_6,_,rfl,rfl,hRk,hr1,hr2⟩
  refine dH (R1:=(Rn)) (Sub.refl _) (fun _ h=>Hp.toTail0 (X:=[]) (Y:=[]) h)<|wm Z<|wX Z Z<|wX Z Z<|wg Z<|wn Z<|wq<|wm Z<|wy (aQ underlying52 Z)<|wa (aF NN Z (Ct.fresh (fun w hw=>kX (by first|assumption|omega|decide) (by omega)))) ?_
  rintro _ _ ⟨_,rfl,A_7,c_8,rfl,rfl⟩
  refine bN (v:= .slice A_7 ((plc s.length 0).length) c_8) Z<|wn Z<|wq<|wm Z<|wy (aQ underlying52 Z)<|wa (dE underlying52 zb3 Z Z) ?_
  rintro _ _ ⟨g_9,rfl,rfl⟩
  refine bN (v:= .slice (GG g_9) s.length s.length) Z<|wn Z<|aG<|wq<|wm Z<|wy (aQ underlying52 Z)<|wm Z<|aA<|aI ?_
  refine dR (fun(i:Int) (V:List Int)=>[(0, .slice A_s s.length c_s),(1,I k),(5, .slice A_3 o1.length c_4),(6, .slice A_5 V1.length c_6),(7, .slice A_7 ((plc s.length 0).length) c_8),(8, .slice (GG g_9) s.length s.length),(35,I ((s.length:Nat):Int)),(36,I i)]) (fun i V=>((ri 3 (GG g_9) s.length s.length V)::(ri 3 A_7 ((plc s.length 0).length) c_8 (plc s.length 0))::Rn)) (fun i V=>(0≤i)∧(i≤s.length)∧(V.length=s.length)∧(∀j:Int,0≤j→j<i→rd V j=rd V1 (j+1))) (fun i V=>(s.length-i).toNat) ?_ ?_
  ·exact⟨0,List.replicate s.length (0:Int),⟨by omega,by omega,(by rw[List.length_replicate]),(fun j h1 h2=>by omega)⟩,(G8 rfl rfl rfl rfl rfl rfl rfl rfl),fun _ h=>h⟩
  intro i V ⟨hi0,hi1,hVl,hV⟩
  refine wq<|wL Z Z<|aA<|aG<|bM Z (fun hc2=> ?_) (fun hc2=> ?_)
  ·have hV1:=hRk.len
   refine aK<|aG<|aI<|wq<|wm Z<|wn Z<|aM<|wm Z<|wm Z<|wm Z<|wm Z<|wA Z Z<|wy (aH underlying52 sz3 Z Z (fun _ h=>hr2 _ _ _ (h.right (R':=[_,_])))) ?_
   refine wy (aX underlying3 Z Z (fun _ h=>hr2 _ _ _ (h.right (R':=[_,_]))))<|wy (aH underlying52 sz3 Z Z (rdr 0 Z))<|bY (bG 0 Z sz3 Z Z) ?_
   rintro _ _ rfl
   refine aA<|aM<|wA Z Z<|wm Z<|aA ?_
   exact⟨i+1,upd V i (rd V1 (i+1)),⟨by omega,by omega,(by rw[aV];exact hVl),(eH (f:=fun j=>rd V1 (j+1)) hi0 (by omega) hV Z)⟩,by omega,(G8 Z Z Z Z Z Z Z Z),fun _ h=>h⟩
  ·have hB:V=bhd s V1:=bAt hVl (fun j h1 h2=>hV j h1 (by omega))
   have h1p:=aMw hRk
   have h2p:=GV hRk hok.2 hok.1.1
   have hos2:=YW hRk hok.2 hok.1.1
   have hol:=hRk.perm.length_eq
   refine aZ<|wq<|wm Z<|wm Z<|wm Z<|wy (aQ underlying52 Z)<|wA Z Z<|wa (aF IX Z (Ct.fresh (fun w hw=>rY ((rdr 1 Z) w hw) ((rdr 0 Z) w hw) (by omega) (by rw[hB];exact aRf hRk) (fun x hx=>by rw[jD (by omega)] at hx;omega) (by omega)))) ?_
   rintro _ _ ⟨_,rfl,A_10,c_11,rfl,rfl⟩
   generalize hg_ot1:bW (plc s.length 0) V ((((s.length:Nat):Int)+1)).toNat=ot1
   refine wm Z<|wX Z Z<|wX Z Z<|wn Z<|wq<|wm Z<|wm Z<|wa (aF aXf Z (Ct.fresh (fun w hw=>NC ((h_s.c _) w hw) (by omega) hs1 (by omega)))) ?_
   rintro _ _ ⟨_,rfl,A_12,c_13,rfl,rfl⟩
   refine wm Z<|wA Z Z<|wa (aF IX Z (Ct.fresh (fun w hw=>rY ((rdr 1 Z) w hw) ((rdr 0 Z) w hw) (by omega) (UI hok.2 hok.1.1 (by omega)) (fun x hx=>by rw[←hg_ot1,hB] at hx;have:=h1p.subset hx;rw[jD (by omega)] at this;rw[BH];omega) (by rw[←hg_ot1,hB,h1p.length_eq];omega)))) ?_
   rintro _ _ ⟨_,rfl,A_14,c_15,rfl,rfl⟩
   generalize hg_ot2:bW ot1 (fA s 0) ((k+1)).toNat=ot2
   have hot2:oth s V1 k=ot2:=by unfold oth;rw[←hB,hg_ot1,hg_ot2]
   rw[hot2] at h2p hos2
   have hl2:=h2p.length_eq
   have hl1:ot1.length=ot2.length:=by rw[hl2,←hg_ot1,hB,h1p.length_eq]
   refine wm Z<|wX Z Z<|wX Z Z<|wn Z<|wq<|dH (R1:=((ri 3 none 0 0 ([]))::(ri 3 A_14 ((ot1).length) c_15 ot2)::(ri 3 A_12 ((s).length) c_13 (fA s 0))::(ri 3 A_10 (((plc s.length 0)).length) c_11 ot1)::(ri 3 (GG g_9) s.length s.length V)::(ri 3 A_7 ((plc s.length 0).length) c_8 (plc s.length 0))::Rn)) (Sub.refl _) (fun _ h=>h.nil 3 1)<|wn Z<|aG<|wq<|wm Z<|wy (aQ underlying52 Z) ?_
   refine wm Z<|aA<|aI ?_
   refine OO (fun(q:Int) (x:Int) (AL:Option Addr) (nL:Nat) (cL:Nat) (acc:List Int) (AO:Option Addr) (nO:Nat) (cO:Nat)=>[(0, .slice A_s s.length c_s),(5, .slice AO nO cO),(6, .slice A_5 V1.length c_6),(10, .slice AL nL cL),(66, .slice A_14 ((ot1).length) c_15),(67,I (((ot1).length:Nat):Int)),(68,I q)]) (fun q x AL nL cL acc AO nO cO=>((ri 3 AL nL cL acc)::(ri 3 A_14 ((ot1).length) c_15 ot2)::(ri 3 A_12 ((s).length) c_13 (fA s 0))::(ri 3 A_10 (((plc s.length 0)).length) c_11 ot1)::(ri 3 (GG g_9) s.length s.length V)::(ri 3 A_7 ((plc s.length 0).length) c_8 (plc s.length 0))::Rn)) (fun q x AL nL cL acc AO nO cO=>(0≤q)∧(q≤ot2.length)∧(0≤x)∧(x≤o1.length)∧(MgI s o1 ot2 acc x q)∧(nL=acc.length)∧(nO=(o1.drop x.toNat).length)∧(∀(B:Nat) (w0 w:World),Hp B w0 w Rn→Rd w AO nO cO 1 (ints .i64 (o1.drop x.toNat)))) (fun q x AL nL cL acc AO nO cO=>(ot2.length-q).toNat) ?_ ?_
   ·exact⟨0,0,none,0,0,[],A_3,o1.length,c_4,⟨by omega,by omega,by omega,by omega,(aNp),(Z),(Z),(hr1)⟩,(G7 Z Z Z Z Z Z Z),fun _ h=>h⟩
   intro q x AL nL cL acc AO nO cO ⟨hq0,hq1,hx0,hx1,hM,hnL,hnO,h5⟩
   have hal:=hM.len hx0 hx1 hq0 hq1
   refine wq<|wL Z Z<|aA<|aG<|bM Z (fun hc3=> ?_) (fun hc3=> ?_)
   ·have hqq:q<ot2.length:=by omega
    have hqm:=(jD (by omega)).1 (h2p.subset (bH (L:=ot2) hq0 hqq))
    have hqj:(0≤rd ot2 q∧rd ot2 q<s.length)∧rd ot2 q%3=0:=by omega
    refine aK<|aG<|aI<|wq<|wy (aH underlying52 sz3 Z Z (rdr 1 Z))<|wy (aX underlying3 Z Z (rdr 1 Z))<|wn Z<|aG<|aI ?_
    refine DW (fun(y:Int) (AM:Option Addr) (nM:Nat) (cM:Nat) (ac2:List Int) (AP:Option Addr) (nP:Nat) (cP:Nat)=>[(0, .slice A_s s.length c_s),(5, .slice AP nP cP),(6, .slice A_5 V1.length c_6),(10, .slice AM nM cM),(12,I (rd ot2 q)),(66, .slice A_14 ((ot1).length) c_15),(67,I (((ot1).length:Nat):Int)),(68,I q)]) (fun y AM nM cM ac2 AP nP cP=>((ri 3 AM nM cM ac2)::(ri 3 A_14 ((ot1).length) c_15 ot2)::(ri 3 A_12 ((s).length) c_13 (fA s 0))::(ri 3 A_10 (((plc s.length 0)).length) c_11 ot1)::(ri 3 (GG g_9) s.length s.length V)::(ri 3 A_7 ((plc s.length 0).length) c_8 (plc s.length 0))::Rn)) (fun y AM nM cM ac2 AP nP cP=>(0≤y)∧(y≤o1.length)∧(MgI s o1 ot2 ac2 y q)∧(nM=ac2.length)∧(nP=(o1.drop y.toNat).length)∧(∀(B:Nat) (w0 w:World),Hp B w0 w Rn→Rd w AP nP cP 1 (ints .i64 (o1.drop y.toNat)))) (fun y AM nM cM ac2 AP nP cP=>(o1.length-y).toNat) ?_ ?_
    ·exact⟨x,AL,nL,cL,acc,AO,nO,cO,⟨by omega,by omega,(hM),(hnL),(hnO),(h5)⟩,(G8 Z Z Z Z Z Z Z Z),fun _ h=>h⟩
    intro y AM nM cM ac2 AP nP cP ⟨hy0,hy1,hM2,hnM,hnP,h6⟩
    have hal2:=hM2.len hy0 hy1 hq0 (by omega)
    have hnP2:=hnP
    rw[List.length_drop] at hnP2
    have e0:=aMl (l:=o1) hy0
    have hoi:y<o1.length→(0≤rd (o1.drop y.toNat) 0∧rd (o1.drop y.toNat) 0<s.length)∧rd (o1.drop y.toNat) 0%3≠0:=fun h=>by
     have:=kM.1 (hRk.perm.subset (bH hy0 h))
     rw[e0]
     omega
    refine aG<|wq<|wm Z<|wy (aQ underlying52 Z)<|wy (dV Z Z)<|wm Z<|dS 8 [(0, .slice A_s s.length c_s),(5, .slice AP nP cP),(6, .slice A_5 V1.length c_6),(10, .slice AM nM cM),(12,I (rd ot2 q)),(66, .slice A_14 ((ot1).length) c_15),(67,I (((ot1).length:Nat):Int)),(68,I q),(83, .bool (decide ((0<((nP:Nat):Int))∧(cmpL ((s).drop ((rd (o1.drop y.toNat) 0)).toNat) ((s).drop ((rd ot2 q)).toNat)<0))))] ((ri 3 AM nM cM ac2)::(ri 3 A_14 ((ot1).length) c_15 ot2)::(ri 3 A_12 ((s).length) c_13 (fA s 0))::(ri 3 A_10 (((plc s.length 0)).length) c_11 ot1)::(ri 3 (GG g_9) s.length s.length V)::(ri 3 A_7 ((plc s.length 0).length) c_8 (plc s.length 0))::Rn) ?_ ?_
    ·refine dC 75 Z (fun hc4=> ?_) (fun hc4=> ?_)
     ·refine aC Z Z<|wm Z<|aC Z Z<|wm Z<|aC Z Z<|wm Z<|aC Z Z<|wy (aH underlying52 sz3 Z Z (fun _ h=>h6 _ _ _ (h.right (R':=[_,_,_,_,_,_]))))<|aC Z Z<|wy (aX underlying3 Z Z (fun _ h=>h6 _ _ _ (h.right (R':=[_,_,_,_,_,_]))))<|aC Z Z<|wm Z<|aC Z Z<|wa (aF bCy Z (Ct.quiet (fun w hw=>aHf ((h_s.c _) w hw) ((fun _ h=>hr2 _ _ _ (h.right (R':=[_,_,_,_,_,_]))) w hw) hRk (hoi (by omega)) hqj hs1 (by omega)))) ?_
      rintro _ _ ⟨rfl,rfl⟩
      refine wy (bA Z Z)<|aA ?_
      exact⟨(sc Z (sc Z (sc Z (sc Z (sc Z (sc Z (sc Z (sc Z (Sub.to Z mbA Sub.nil))))))))),fun _ h=>h⟩
     ·refine aP Z Z Z Z<|aP Z Z Z Z<|aP Z Z Z Z<|aP Z Z Z Z<|aP Z Z Z Z<|aP Z Z Z Z<|aP Z Z Z Z<|wy (aS Z Z)<|aA ?_
      exact⟨(sc Z (sc Z (sc Z (sc Z (sc Z (sc Z (sc Z (sc Z (Sub.to Z mfA Sub.nil))))))))),fun _ h=>h⟩
    refine aA<|bM Z (fun hc5=> ?_) (fun hc5=> ?_)
    ·have hyl:y<o1.length:=by omega
     have hlo:=gY.1 hc5.2
     rw[e0] at hlo
     refine aK<|aI<|bT mixed<|wD 0 Z (aN Z)<|wD 1 Z (aN Z)<|wD 2 Z (aH underlying52 sz3 Z Z (fun _ h=>h6 _ _ _ (h.right (R':=[_,_,_,_,_,_]))))<|wD 3 Z (aX underlying3 Z Z (fun _ h=>h6 _ _ _ (h.right (R':=[_,_,_,_,_,_]))))<|wD 6 Z (aN Z)<|wD 7 Z (iP underlying52 sz3 Z Z)<|wC 4 Z (bS .i64 [rd (o1.drop y.toNat) 0] underlying52 zs3 Z Z Z) ?_
     rintro _ _ ⟨g_17,rfl,rfl⟩
     refine⟨.inr fun _ h=>h.right (R':=[_]),?_⟩
     refine wC 5 Z (bE 1 Z underlying52 zb3 Z Z Z (rdr 0 Z)) ?_
     rintro _ _ ⟨A_18,c_19,rfl,rfl⟩
     refine⟨.inl (by kernel_rfl),?_⟩
     refine CE (v:= .slice A_18 (nM+1) c_19) Z<|wD 8 Z (bQ Z)<|wD 9 Z (bQ Z)<|wN ?_
     exact⟨(y+1),A_18,nM+1,c_19,ac2++([rd (o1.drop y.toNat) 0]),iY AP (1:Int).toNat cP 1,nP-(1:Int).toNat,cP-(1:Int).toNat,⟨by omega,by omega,(by rw[e0];exact hM2.left hRk.sorted hos2 hy0 (by omega) hq0 hqq hlo),(by rw[List.length_append,hnM];rfl),(by rw[List.length_drop] at hnP ⊢;omega),(fun B w0 w h=>by
        have g:=RdC.fromI (l:=(1:Int).toNat) (h6 B w0) (by omega) w h
        rw[List.drop_drop,show y.toNat+(1:Int).toNat=(y+1).toNat by omega] at g
        exact g)⟩,by omega,(G8 Z Z Z Z Z Z Z Z),fun _ h=>h.selR (F:=[_,_,_,_,_,_,_]) (F':=[_,_,_,_,_,_]) [1,2,3,4,5,6] (by decide) Z⟩
    ·have hrt:y<o1.length→bU s (rd ot2 q) (rd o1 y):=fun h=>by
      have h1:=hoi h
      rw[e0] at h1 hc5
      rcases GY h1.1 hqj.1 (by omega) with g|g
      ·exact absurd ⟨by omega,gY.2 g⟩ hc5
      ·exact g
     refine aZ<|aM<|wm Z<|wm Z<|wa (bS .i64 [rd ot2 q] underlying52 zs3 Z Z Z) ?_
     rintro _ _ ⟨g_21,rfl,rfl⟩
     refine wa (bE 1 Z underlying52 zb3 Z Z Z (rdr 0 Z)) ?_
     rintro _ _ ⟨A_22,c_23,rfl,rfl⟩
     refine bN (v:= .slice A_22 (nM+1) c_23) Z<|wn Z<|aM<|wA Z Z<|wm Z<|aA ?_
     exact⟨q+1,y,A_22,nM+1,c_23,ac2++([rd ot2 q]),AP,nP,cP,⟨by omega,by omega,by omega,by omega,(hM2.right hRk.sorted hos2 hy0 hq0 (by omega) hrt),(by rw[List.length_append,hnM];rfl),(hnP),(h6)⟩,by omega,(G7 Z Z Z Z Z Z Z),fun _ h=>h.selR (F:=[_,_,_,_,_,_,_]) (F':=[_,_,_,_,_,_]) [1,2,3,4,5,6] (by decide) Z⟩
   ·refine aZ<|wq<|wm Z<|wm Z<|wa (bE 0 Z underlying52 zb3 Z Z Z (fun _ h=>h5 _ _ _ (h.right (R':=[_,_,_,_,_,_]))) (by have:=hnO;rw[List.length_drop] at this;omega)) ?_
    rintro _ _ ⟨A_24,c_25,rfl,rfl⟩
    refine bN (v:= .slice A_24 (nL+nO) c_25) Z<|wn Z<|bR (R1:=[(ri 3 A_24 (nL+nO) c_25 (acc++(o1.drop x.toNat)))]) (fun _ h=>(h.selR (F:=[_,_,_,_,_,_]) (F':=[_]) [0] (by decide) Z).left (X:=[_])) ?_
    refine⟨_,Z,?_⟩
    have hd:=hM.done hRk.sorted (by omega) hRk.perm h2p
    have e:nL+nO=s.length:=by have:=hd.1.length_eq;rw[bF,List.length_append] at this;omega
    rw[e]
    exact⟨_,_,_,Z,hd.1,hd.2,Z⟩
theorem SG (m:Nat): ∀ {w:World} {A_s:Option Addr} {n_s c_s:Nat} {s:List Int} {k:Int},Rd w A_s n_s c_s 1 (ints .i64 s)→s.length<m→((0≤k∧k≤1000000)∧ ∀x∈s,0≤x∧x<k)→s.length≤100000→
  Ct Tryz.prog 266 #[.slice A_s n_s c_s,I k] w.heap.size w [] (fun v R'=> ∃(b:List Int) (A:Option Addr) (c:Nat),v= .slice A s.length c∧b.Perm (iota s.length)∧b.Pairwise (bU s)∧R'=[(ri 3 A s.length c b)]):=by
 induction m with
 |zero=>intro w A n c s k _ h;omega
 |succ m ih=>
  intro w A n c s k h_s hm hok hN
  exact DD h_s (fun h1 h2 h3 h4=>ih h1 (by omega) h3 h4) hok hN
theorem KJ {s:List Int} (h_s:Rd w A_s n_s c_s 1 (ints .i64 s)) (hok:(0≤k∧k≤1000000)∧ ∀x∈s,0≤x∧x<k) (hN:s.length≤100000):
  Ct Tryz.prog 266 #[.slice A_s n_s c_s,I k] w.heap.size w [] (fun v R'=> ∃(b:List Int) (A:Option Addr) (c:Nat),v= .slice A s.length c∧b.Perm (iota s.length)∧b.Pairwise (bU s)∧R'=[(ri 3 A s.length c b)]):=SG (s.length+1) h_s (by omega) hok hN
set_option maxHeartbeats 600000 in
theorem KF {s:List Int} (h_s:Rd w A_s n_s c_s 1 (ints .i64 s)) (hs: ∀x∈s,0≤x∧x<1048576) (hN:s.length≤100000):
  Ct Tryz.prog 267 #[.slice A_s n_s c_s] w.heap.size w [] (fun v R'=> ∃(m:Int) (A:Option Addr) (c:Nat),v= .slice A s.length c∧(∀x∈s,0≤x∧x≤m)∧R'=[(ri 3 A s.length c (sqz s m))]):=by
 obtain rfl:=h_s.lenI
 refine fn1 Tryz.func267 Z Z Z ?_
 have m_s:=h_s.max
 refine wq<|wn Z<|wq<|wn Z<|aG<|wq<|wm Z<|wy (aQ underlying52 Z)<|wm Z<|aA ?_
 refine aI ?_
 refine dR (fun(i:Int) (m:Int)=>[(0, .slice A_s s.length c_s),(3,I m),(13, .slice A_s s.length c_s),(14,I ((s.length:Nat):Int)),(15,I i)]) (fun i m=>[]) (fun i m=>(0≤i)∧(i≤s.length)∧(0≤m)∧(m≤1048575)∧(∀x∈s.take i.toNat,x≤m)) (fun i m=>(s.length-i).toNat) ?_ ?_
 ·exact⟨0,0,⟨by omega,by omega,by omega,by omega,(fun x hx=>by cases hx)⟩,(G5 rfl rfl rfl rfl rfl),fun _ h=>h⟩
 intro i m ⟨hi0,hi1,hm0,hmk,hmx⟩
 refine wq<|wL Z Z<|aA<|aG<|bM Z (fun hc1=> ?_) (fun hc1=> ?_)
 ·have hsi:=hs _ (bH (L:=s) hi0 (by omega))
  refine aK<|aG<|aI<|wq<|wy (aH underlying52 sz3 Z Z (h_s.c _))<|wy (aX underlying3 Z Z (h_s.c _))<|wn Z<|aM<|wm Z<|wm Z<|wy (aKa Z Z)<|wn Z ?_
  refine aM<|wA Z Z<|wm Z<|aA ?_
  exact⟨i+1,max m (rd s i),⟨by omega,by omega,by omega,by omega,(fun x hx=>by
    rw[dD hi0 (by omega)] at hx
    rcases List.mem_append.1 hx with hx|hx
    ·have:=hmx x hx;omega
    ·rw[List.mem_singleton.1 hx];omega)⟩,by omega,(G5 rfl rfl rfl rfl rfl),fun _ h=>h⟩
 ·rw [List.take_of_length_le (by omega)] at hmx
  refine aZ<|wq<|wm Z<|wA Z Z<|wa (dE underlying52 zb3 Z Z) ?_
  rintro _ _ ⟨g_1,rfl,rfl⟩
  refine bN (v:= .slice (GG g_1) ((m+1).toNat) ((m+1).toNat)) Z<|wn Z<|aG<|wq<|wm Z<|wy (aQ underlying52 Z)<|wm Z<|aA<|aI ?_
  refine dR (fun(j:Int) (V:List Int)=>[(0, .slice A_s s.length c_s),(6, .slice (GG g_1) ((m+1).toNat) ((m+1).toNat)),(26, .slice A_s s.length c_s),(27,I ((s.length:Nat):Int)),(28,I j)]) (fun j V=>[(ri 3 (GG g_1) ((m+1).toNat) ((m+1).toNat) V)]) (fun j V=>(0≤j)∧(j≤s.length)∧(V=thr (s.take j.toNat) m)) (fun j V=>(s.length-j).toNat) ?_ ?_
  ·exact⟨0,List.replicate ((m+1).toNat) (0:Int),⟨by omega,by omega,((aSe m).symm)⟩,(G5 Z Z Z Z Z),fun _ h=>h⟩
  intro j V ⟨hj0,hj1,hV⟩
  refine wq<|wL Z Z<|aA<|aG<|bM Z (fun hc2=> ?_) (fun hc2=> ?_)
  ·have hsj:0≤rd s j∧rd s j≤m:=⟨(hs _ (bH (L:=s) hj0 (by omega))).1,hmx _ (bH (L:=s) hj0 (by omega))⟩
   have hVl:V.length=(m+1).toNat:=by rw[hV,jC]
   refine aK<|aG<|aI<|wq<|wy (aH underlying52 sz3 Z Z (h_s.c _))<|wy (aX underlying3 Z Z (h_s.c _))<|wn Z<|aM<|wm Z<|wm Z<|wy (aH underlying52 sz3 Z Z (rdr 0 Z))<|bY (bG 0 Z sz3 Z Z) ?_
   rintro _ _ rfl
   refine aA<|aM<|wA Z Z<|wm Z<|aA ?_
   exact⟨j+1,upd V (rd s j) 1,⟨by omega,by omega,(by rw[dD hj0 (by omega),←aKp hsj.1 hsj.2,←hV])⟩,by omega,(G5 Z Z Z Z Z),fun _ h=>h⟩
  ·have hVs:V=thr s m:=by rw[hV,List.take_of_length_le (by omega)]
   have hSl:(bZ V).length=(m+1).toNat:=by rw[eD,hVs,jC]
   refine aZ<|wq<|wm Z<|wa (aF aEg Z (Ct.fresh (fun w hw=>vB ((rdr 0 Z) w hw) (by rw[hVs];exact aKq s m) (by rw[hVs];have:=aSd s m;omega) (by rw[hVs,jC];omega)))) ?_
   rintro _ _ ⟨_,rfl,A_2,c_3,rfl,rfl⟩
   refine wn Z<|wq<|wm Z<|wy (aQ underlying52 Z)<|wa (dE underlying52 zb3 Z Z) ?_
   rintro _ _ ⟨g_5,rfl,rfl⟩
   refine bN (v:= .slice (GG g_5) s.length s.length) Z<|wn Z<|aG<|wq<|wm Z<|wy (aQ underlying52 Z)<|wm Z<|aA<|aI ?_
   refine dR (fun(z:Int) (U:List Int)=>[(9, .slice A_2 ((bZ V).length) c_3),(10, .slice (GG g_5) s.length s.length),(41, .slice A_s s.length c_s),(42,I ((s.length:Nat):Int)),(43,I z)]) (fun z U=>[(ri 3 (GG g_5) s.length s.length U),(ri 3 A_2 ((bZ V).length) c_3 (bZ V)),(ri 3 (GG g_1) ((m+1).toNat) ((m+1).toNat) V)]) (fun z U=>(0≤z)∧(z≤s.length)∧(U.length=s.length)∧(∀j:Int,0≤j→j<z→rd U j=rd (bZ (thr s m)) (rd s j))) (fun z U=>(s.length-z).toNat) ?_ ?_
   ·exact⟨0,List.replicate s.length (0:Int),⟨by omega,by omega,(by rw[List.length_replicate]),(fun j h1 h2=>by omega)⟩,(G5 rfl rfl rfl rfl rfl),fun _ h=>h⟩
   intro z U ⟨hz0,hz1,hUl,hU⟩
   refine wq<|wL Z Z<|aA<|aG<|bM Z (fun hc3=> ?_) (fun hc3=> ?_)
   ·have hsz:0≤rd s z∧rd s z≤m:=⟨(hs _ (bH (L:=s) hz0 (by omega))).1,hmx _ (bH (L:=s) hz0 (by omega))⟩
    refine aK<|aG<|aI<|wq<|wm Z<|wy (aH underlying52 sz3 Z Z (h_s.c _))<|wy (aX underlying3 Z Z (h_s.c _))<|wg Z<|wn Z<|aM<|wm Z<|wm Z<|wm Z ?_
    refine wm Z<|wy (aH underlying52 sz3 Z Z (rdr 1 Z))<|wy (aX underlying3 Z Z (rdr 1 Z))<|wy (aH underlying52 sz3 Z Z (rdr 0 Z))<|bY (bG 0 Z sz3 Z Z) ?_
    rintro _ _ rfl
    refine aA<|aM<|wA Z Z<|wm Z<|aA ?_
    exact⟨z+1,upd U z (rd (bZ V) (rd s z)),⟨by omega,by omega,(by rw[aV];exact hUl),(eH (f:=fun j=>rd (bZ (thr s m)) (rd s j)) hz0 (by omega) hU (by rw[hVs]))⟩,by omega,(G5 Z Z Z Z Z),fun _ h=>h⟩
   ·refine aZ<|wq<|wm Z<|wn Z<|aT [0] 99 (by decide) Z ?_
    refine⟨_,Z,?_⟩
    have hall: ∀x∈s,0≤x∧x≤m:=fun x hx=>⟨(hs x hx).1,hmx x hx⟩
    obtain rfl:U=sqz s m:=aYo hall hUl (fun j h1 h2=>hU j h1 (by omega))
    exact⟨m,_,_,Z,hall,Z⟩
theorem aOe {s:List Int} (h_s:Rd w A_s n_s c_s 1 (ints .i64 s)) (hok:(0≤k∧k≤1048576)∧ ∀x∈s,0≤x∧x<k) (hN:s.length≤100000):
  Ct Tryz.prog 220 #[.slice A_s n_s c_s,I k] w.heap.size w [] (fun v R'=> ∃(b:List Int) (A:Option Addr) (c:Nat),v= .tuple #[.slice A s.length c,I 0]∧b.Perm (iota s.length)∧b.Pairwise (bU s)∧R'=[(ri 3 A s.length c b)]):=by
 obtain rfl:=h_s.lenI
 refine fn2 Tryz.func220 Z Z Z ?_
 have m_s:=h_s.max
 refine wq<|wg Z<|wn Z<|aG<|wq<|wm Z<|wy (aQ underlying52 Z)<|wy (Yl.f (dV Z Z))<|aA<|aL Z<|aK<|aG ?_
 refine wq<|wm Z<|wm Z<|wa (aF VH Z (Ct.fresh (fun w hw=>nI ((h_s.c _) w hw) (by first|assumption|omega|decide)))) ?_
 rintro _ _ ⟨_,rfl,A_1,c_2,rfl,rfl⟩
 refine wm Z<|wX Z Z<|wX Z Z<|wg Z<|wn Z<|wq<|wm Z<|wy (dI Z)<|aA<|aL Z<|aK<|wq ?_
 refine wm Z<|wa (aF bDl Z (Ct.fresh (fun w hw=>KF ((h_s.c _) w hw) (fun x hx=>by have:=hok.2 x hx;omega) hN))) ?_
 rintro _ _ ⟨_,rfl,mq,A_4,c_5,rfl,hmq,rfl⟩
 refine wm Z<|wy (aQ underlying52 Z)<|wA Z Z<|wa (aF aXi Z (Ct.fresh (fun w hw=>KJ ((rdr 0 Z) w hw) ⟨by omega,fun x hx=>by have:=aYp hmq x hx;omega⟩ (by rw[EC];exact hN)))) ?_
 rintro _ _ ⟨_,rfl,b1,A_7,c_8,rfl,hp_b1,hs_b1,rfl⟩
 refine wg Z<|wn Z<|aT [0] 99 (by decide) Z ?_
 refine⟨_,_,Z,Z,?_⟩
 have ho:=aFp hmq hp_b1 hs_b1
 rw[EC]
 exact⟨b1,_,_,Z,ho.1,ho.2,Z⟩
theorem aHj {A_u:Option Addr} {n_u c_u:Nat} {u:List Int} (h_u:Rd w A_u n_u c_u 1 (ints .u8 u)) (bh_u:aO u) (hN:u.length≤100000):
  Ct Tryz.prog 147 #[.slice A_u n_u c_u] w.heap.size w [] (fun v R'=> ∃(b:List Int) (A:Option Addr) (c:Nat),v= .tuple #[.slice A u.length c,I 0]∧b.Perm (iota u.length)∧b.Pairwise (bU u)∧R'=[(ri 3 A u.length c b)]):=by
 obtain rfl:=h_u.lenI
 refine fn2 Tryz.func147 Z Z Z ?_
 have m_u:=h_u.max
 refine wq<|wg Z<|wn Z<|aG<|wq<|wm Z<|wy (aQ underlying22 Z)<|wy (Yl.f (dV Z Z))<|aA<|aL Z<|aK<|aG ?_
 refine aM<|wm Z<|wy (aQ underlying22 Z)<|wa (dE underlying52 zb3 Z Z) ?_
 rintro _ _ ⟨g_1,rfl,rfl⟩
 refine bN (v:= .slice (GG g_1) u.length u.length) Z<|wn Z<|aG<|wq<|wm Z<|wy (aQ underlying22 Z)<|wm Z<|aA<|aI ?_
 refine dR (fun(i:Int) (V:List Int)=>[(4, .slice (GG g_1) u.length u.length),(13, .slice A_u u.length c_u),(14,I ((u.length:Nat):Int)),(15,I i)]) (fun i V=>[(ri 3 (GG g_1) u.length u.length V)]) (fun i V=>(0≤i)∧(i≤u.length)∧(V.length=u.length)∧(∀j:Int,0≤j→j<i→rd V j=rd u j)) (fun i V=>(u.length-i).toNat) ?_ ?_
 ·exact⟨0,List.replicate u.length (0:Int),⟨by omega,by omega,(by rw[List.length_replicate]),(fun j h1 h2=>by omega)⟩,(G4 rfl rfl rfl rfl),fun _ h=>h⟩
 intro i V ⟨hi0,hi1,hVl,hV⟩
 refine wq<|wL Z Z<|aA<|aG<|bM Z (fun hc1=> ?_) (fun hc1=> ?_)
 ·have hbi:=bh_u.rd i
  refine aK<|aG<|aI<|wq<|wm Z<|wy (aH underlying22 sz5 Z Z (h_u.c _))<|wy (aX underlying5 Z Z (h_u.c _))<|wg Z<|wn Z<|aM<|wm Z<|wm Z<|wm Z ?_
  refine wy (iV underlying5 underlying3 Z)<|wy (aH underlying52 sz3 Z Z (rdr 0 Z))<|bY (bG 0 Z sz3 Z Z) ?_
  rintro _ _ rfl
  refine aA<|aM<|wA Z Z<|wm Z<|aA ?_
  exact⟨i+1,upd V i (rd u i),⟨by omega,by omega,(by rw[aV];exact hVl),(eH (f:=fun j=>rd u j) hi0 (by omega) hV Z)⟩,by omega,(G4 Z Z Z Z),fun _ h=>h⟩
 ·have hVu:V=u:=bI hVl (fun j h1 h2=>hV j h1 (by omega))
  refine aZ<|wq<|wm Z<|wa (aF bDu Z (Ct.fresh (fun w hw=>aOe ((rdr 0 Z) w hw) ⟨by omega,fun x hx=>by rw[hVu] at hx;have:=bh_u x hx;omega⟩ (by omega)))) ?_
  rintro _ _ ⟨_,rfl,b1,A_2,c_3,rfl,hp_b1,hs_b1,rfl⟩
  refine wX Z Z<|wX Z Z<|wg Z<|wn Z<|aT [0] 99 (by decide) Z ?_
  refine⟨_,_,Z,Z,?_⟩
  subst hVu
  exact⟨b1,_,_,Z,hp_b1,hs_b1,Z⟩
end Go.Proofs.YtdbebmmhdefgdaaGreat
namespace Go.Proofs.YtdbebmmhdefgdaaGreat
open Go Go.Eng Go.RowKit Go.Shelf Go.Proofs
variable {c j g:Nat} {xs:List Value} {zs:List Int} {A:Option Addr}
attribute [local go_sem] Oper.semAt_some
theorem gW {W:World} {a:Addr} {n:Nat} (h:Rd W (some a) n c 1 xs) (hj:j<xs.length):W.cell? (a.add j)=some (xs[j]'hj):=by
 obtain⟨b,h1,h2⟩:=h.at_ j _ (List.getElem?_eq_getElem hj)
 obtain rfl:=Option.some.inj h1
 exact h2
theorem _root_.Go.Eng.Iter.congr {P:Program} {gf:Nat} {lb:Array Value} {Rdy:World→Prop} {N:Nat} {f f':Nat→List Value} (it:Iter P gf lb Rdy N f) (h: ∀k,k<N→f k=f' k):Iter P gf lb Rdy N f':=
 fun l J W hR hD hY h0=>it l J W hR hD (fun k W hk hJ=>by rw[h k hk];exact hY k W hk hJ) h0
theorem NG {k:IntKind} (h:j<zs.length):(ints k zs)[j]?.getD undef= .int k (rd zs (j:Int)):=by
 have:=Go.Eng.ints_at (k:=k) (l:=zs) (i:=(j:Int)) (by omega) (by omega)
 rw[Int.toNat_natCast] at this
 rw[this,Option.getD_some]
set_option maxRecDepth 100000 in
set_option maxHeartbeats 2000000 in
theorem aRh (hmax:xs.length≤1000000):Iter Tryz.prog 240 #[.pointer (some ⟨g,0,none⟩)] (fun w=>Rd w (some ⟨g,0,none⟩) 1 1 1 [.slice A xs.length c]∧Rd w A xs.length c 1 xs) xs.length
  (fun k=>[.int .i64 (((xs.length-1-k:Nat):Int)),xs[xs.length-1-k]?.getD undef]):=by
 intro l J W hR _ hY h0
 rcases Nat.eq_zero_or_pos xs.length with hz|hpos
 ·have hc:W.cell? ⟨g,0,none⟩=some (.slice A xs.length c):=gW (hR _ _ h0).1 (j:=0) (by simp)
  rw[hz] at hc
  refine callsIn_of_wp Tryz.func240 rfl trivial ?_ rfl
  simp only[Tryz.ntmps240,List.size_toArray,List.length_cons,List.length_nil,Nat.reduceAdd,Nat.reduceSub,Array.replicate_succ,Array.replicate_zero,List.push_toArray,List.append_toArray,List.nil_append,List.cons_append]
  gi_wp2
  gi_loopw [3] (fun i wr=>i= .int .i64 (-1)∧J 0 wr) (fun _ _=>0)
  case atStart=>exact⟨rfl,h0⟩
  case round=>
   obtain⟨rfl,hJs⟩:=hrel
   gi_wp2
   go_end0
   exact⟨⟨_,rfl⟩,by rw[hz];exact hJs⟩
 ·obtain ⟨a,rfl⟩: ∃a,A=some a:=by
   obtain⟨a,h1,_⟩:=(hR _ _ h0).2.at_ 0 _ (List.getElem?_eq_getElem hpos)
   exact⟨a,h1⟩
  have hc:W.cell? ⟨g,0,none⟩=some (.slice (some a) xs.length c):=gW (hR _ _ h0).1 (j:=0) (by simp)
  refine callsIn_of_wp Tryz.func240 rfl trivial ?_ rfl
  simp only[Tryz.ntmps240,List.size_toArray,List.length_cons,List.length_nil,Nat.reduceAdd,Nat.reduceSub,Array.replicate_succ,Array.replicate_zero,List.push_toArray,List.append_toArray,List.nil_append,List.cons_append]
  gi_wp2
  gi_loopw [3] (fun i wr=>(∃k j:Nat,k+j+1=xs.length∧i= .int .i64 (j:Int)∧J k wr)∨(i= .int .i64 (-1)∧J xs.length wr)) (fun i _=>(intOf i+1).toNat)
  case atStart=>exact .inl ⟨0,xs.length-1,by omega,by rw[show((xs.length:Int)-1)=((xs.length-1:Nat):Int) by omega],h0⟩
  case round=>
   rcases hrel with⟨k,j,hkj,rfl,hJs⟩|⟨rfl,hJs⟩
   ·obtain ⟨fn,tmps,assign,body,hy,hRd⟩:=hY k wr (by omega) hJs
    rw[show xs.length-1-k=j by omega] at hy
    have hjl:j<xs.length:=by omega
    rw[List.getElem?_eq_getElem hjl] at hy
    simp only[Option.getD_some] at hy
    have hc1:wr.cell? ⟨g,0,none⟩=some (.slice (some a) xs.length c):=gW (hR _ _ hJs).1 (j:=0) (by simp)
    have hc2:=gW (hR _ _ hJs).2 hjl
    gi_wp2
    refine⟨rfl,hRd.mono ?_⟩
    rintro e W3 ⟨rfl,hJ3⟩
    gi_wp2
    go_roundw
    case rel=>
     rcases Nat.eq_zero_or_pos j with rfl|hj
     ·exact .inr ⟨by simp,by rw[←hkj];exact hJ3⟩
     ·exact .inl ⟨k+1,j-1,by omega,by rw[show((j:Int)-1)=((j-1:Nat):Int) by omega],hJ3⟩
    case measure=>simp[intOf]
   ·gi_wp2
    go_end0
    exact⟨⟨_,rfl⟩,hJs⟩
set_option maxRecDepth 100000 in
set_option maxHeartbeats 2000000 in
theorem aRi (hmax:xs.length≤1000000):Iter Tryz.prog 241 #[.pointer (some ⟨g,0,none⟩)] (fun w=>Rd w (some ⟨g,0,none⟩) 1 1 1 [.slice A xs.length c]∧Rd w A xs.length c 1 xs) xs.length
  (fun k=>[.int .i64 (((xs.length-1-k:Nat):Int)),xs[xs.length-1-k]?.getD undef]):=by
 intro l J W hR _ hY h0
 rcases Nat.eq_zero_or_pos xs.length with hz|hpos
 ·have hc:W.cell? ⟨g,0,none⟩=some (.slice A xs.length c):=gW (hR _ _ h0).1 (j:=0) (by simp)
  rw[hz] at hc
  refine callsIn_of_wp Tryz.func241 rfl trivial ?_ rfl
  simp only[Tryz.ntmps241,List.size_toArray,List.length_cons,List.length_nil,Nat.reduceAdd,Nat.reduceSub,Array.replicate_succ,Array.replicate_zero,List.push_toArray,List.append_toArray,List.nil_append,List.cons_append]
  gi_wp2
  gi_loopw [3] (fun i wr=>i= .int .i64 (-1)∧J 0 wr) (fun _ _=>0)
  case atStart=>exact⟨rfl,h0⟩
  case round=>
   obtain⟨rfl,hJs⟩:=hrel
   gi_wp2
   go_end0
   exact⟨⟨_,rfl⟩,by rw[hz];exact hJs⟩
 ·obtain ⟨a,rfl⟩: ∃a,A=some a:=by
   obtain⟨a,h1,_⟩:=(hR _ _ h0).2.at_ 0 _ (List.getElem?_eq_getElem hpos)
   exact⟨a,h1⟩
  have hc:W.cell? ⟨g,0,none⟩=some (.slice (some a) xs.length c):=gW (hR _ _ h0).1 (j:=0) (by simp)
  refine callsIn_of_wp Tryz.func241 rfl trivial ?_ rfl
  simp only[Tryz.ntmps241,List.size_toArray,List.length_cons,List.length_nil,Nat.reduceAdd,Nat.reduceSub,Array.replicate_succ,Array.replicate_zero,List.push_toArray,List.append_toArray,List.nil_append,List.cons_append]
  gi_wp2
  gi_loopw [3] (fun i wr=>(∃k j:Nat,k+j+1=xs.length∧i= .int .i64 (j:Int)∧J k wr)∨(i= .int .i64 (-1)∧J xs.length wr)) (fun i _=>(intOf i+1).toNat)
  case atStart=>exact .inl ⟨0,xs.length-1,by omega,by rw[show((xs.length:Int)-1)=((xs.length-1:Nat):Int) by omega],h0⟩
  case round=>
   rcases hrel with⟨k,j,hkj,rfl,hJs⟩|⟨rfl,hJs⟩
   ·obtain ⟨fn,tmps,assign,body,hy,hRd⟩:=hY k wr (by omega) hJs
    rw[show xs.length-1-k=j by omega] at hy
    have hjl:j<xs.length:=by omega
    rw[List.getElem?_eq_getElem hjl] at hy
    simp only[Option.getD_some] at hy
    have hc1:wr.cell? ⟨g,0,none⟩=some (.slice (some a) xs.length c):=gW (hR _ _ hJs).1 (j:=0) (by simp)
    have hc2:=gW (hR _ _ hJs).2 hjl
    gi_wp2
    refine⟨rfl,hRd.mono ?_⟩
    rintro e W3 ⟨rfl,hJ3⟩
    gi_wp2
    go_roundw
    case rel=>
     rcases Nat.eq_zero_or_pos j with rfl|hj
     ·exact .inr ⟨by simp,by rw[←hkj];exact hJ3⟩
     ·exact .inl ⟨k+1,j-1,by omega,by rw[show((j:Int)-1)=((j-1:Nat):Int) by omega],hJ3⟩
    case measure=>simp[intOf]
   ·gi_wp2
    go_end0
    exact⟨⟨_,rfl⟩,hJs⟩
theorem JR (hmax:zs.length≤1000000):Iter Tryz.prog 241 #[.pointer (some ⟨g,0,none⟩)] (fun w=>Rd w (some ⟨g,0,none⟩) 1 1 1 [.slice A zs.length c]∧Rd w A zs.length c 1 (ints .i64 zs)) zs.length
  (fun k=>[.int .i64 (((zs.length-1-k:Nat):Int)), .int .i64 (rd zs ((zs.length-1-k:Nat):Int))]):=by
 have h:=aRi (g:=g) (A:=A) (c:=c) (xs:=ints .i64 zs) (by rw[bV];exact hmax)
 rw[bV] at h
 exact h.congr fun k hk=>by rw[NG (by omega)]
set_option maxRecDepth 100000 in
set_option maxHeartbeats 2000000 in
theorem aKi:Iter Tryz.prog 346 #[.pointer (some ⟨g,0,none⟩)] (fun w=>Rd w (some ⟨g,0,none⟩) 1 1 1 [.slice A xs.length c]∧Rd w A xs.length c 1 xs) xs.length
  (fun k=>[xs[k]?.getD undef]):=by
 intro l J W hR _ hY h0
 have hmax:=(hR _ _ h0).2.max
 rcases Nat.eq_zero_or_pos xs.length with hz|hpos
 ·have hc:W.cell? ⟨g,0,none⟩=some (.slice A xs.length c):=gW (hR _ _ h0).1 (j:=0) (by simp)
  rw[hz] at hc
  refine callsIn_of_wp Tryz.func346 rfl trivial ?_ rfl
  simp only[Tryz.ntmps346,List.size_toArray,List.length_cons,List.length_nil,Nat.reduceAdd,Nat.reduceSub,Array.replicate_succ,Array.replicate_zero,List.push_toArray,List.append_toArray,List.nil_append,List.cons_append]
  gi_wp2
  gi_loopw [7] (fun i wr=>i= .int .i64 0∧J 0 wr) (fun _ _=>0)
  case atStart=>exact⟨rfl,h0⟩
  case round=>
   obtain⟨rfl,hJs⟩:=hrel
   gi_wp2
   go_end0
   exact⟨⟨_,rfl⟩,by rw[hz];exact hJs⟩
 ·obtain ⟨a,rfl⟩: ∃a,A=some a:=by
   obtain⟨a,h1,_⟩:=(hR _ _ h0).2.at_ 0 _ (List.getElem?_eq_getElem hpos)
   exact⟨a,h1⟩
  have hc:W.cell? ⟨g,0,none⟩=some (.slice (some a) xs.length c):=gW (hR _ _ h0).1 (j:=0) (by simp)
  refine callsIn_of_wp Tryz.func346 rfl trivial ?_ rfl
  simp only[Tryz.ntmps346,List.size_toArray,List.length_cons,List.length_nil,Nat.reduceAdd,Nat.reduceSub,Array.replicate_succ,Array.replicate_zero,List.push_toArray,List.append_toArray,List.nil_append,List.cons_append]
  gi_wp2
  gi_loopw [7] (fun i wr=> ∃k:Nat,k≤xs.length∧i= .int .i64 k∧J k wr) (fun i _=>xs.length-(intOf i).toNat)
  case atStart=>exact⟨0,Nat.zero_le _,rfl,h0⟩
  case round=>
   obtain⟨k,hk,rfl,hJs⟩:=hrel
   by_cases hlt:k<xs.length
   ·obtain ⟨fn,tmps,assign,body,hy,hRd⟩:=hY k wr hlt hJs
    rw[List.getElem?_eq_getElem hlt] at hy
    simp only[Option.getD_some] at hy
    have hc1:wr.cell? ⟨g,0,none⟩=some (.slice (some a) xs.length c):=gW (hR _ _ hJs).1 (j:=0) (by simp)
    have hc2:=gW (hR _ _ hJs).2 hlt
    gi_wp2
    refine⟨rfl,hRd.mono ?_⟩
    rintro e W3 ⟨rfl,hJ3⟩
    gi_wp2
    go_roundw
    case rel=>exact⟨k+1,by omega,by simp,hJ3⟩
    case measure=>simp[intOf];omega
   ·obtain rfl:k=xs.length:=by omega
    gi_wp2
    go_end0
    exact⟨⟨_,rfl⟩,hJs⟩
theorem XM:Iter Tryz.prog 346 #[.pointer (some ⟨g,0,none⟩)] (fun w=>Rd w (some ⟨g,0,none⟩) 1 1 1 [.slice A zs.length c]∧Rd w A zs.length c 1 (ints .i64 zs)) zs.length
  (fun k=>[.int .i64 (rd zs (k:Int))]):=by
 have h:=aKi (g:=g) (A:=A) (c:=c) (xs:=ints .i64 zs)
 rw[bV] at h
 exact h.congr fun k hk=>by rw[NG hk]
end Go.Proofs.YtdbebmmhdefgdaaGreat
namespace Go.Proofs
open Go.Shelf
def Tryz.lays189_ren:Go.Shelf.Ren:=⟨fun|189=>345|125=>192|257=>362|128=>251|129=>252|294=>367|295=>368|296=>369|297=>370|298=>371|299=>372|216=>348|300=>373|301=>374|328=>376|329=>282|330=>283|331=>377|332=>378|215=>194|343=>379|n=>n,fun|28=>52|3=>3|46=>167|0=>0|51=>123|53=>112|4=>4|183=>289|182=>288|131=>97|5=>5|9=>9|218=>316|222=>320|228=>337|229=>338|n=>n,fun|n=>n⟩
theorem Tryz.lays189:Go.Proofs.Lays.n189 Tryz.prog Tryz.lays189_ren:= {
 mixed:=by kernel_rfl
 f125:=Tryz.func192.trans (congrArg some (by kernel_rfl))
 f128:=Tryz.func251.trans (congrArg some (by kernel_rfl))
 f129:=Tryz.func252.trans (congrArg some (by kernel_rfl))
 f189:=Tryz.func345.trans (congrArg some (by kernel_rfl))
 f215:=Tryz.func194.trans (congrArg some (by kernel_rfl))
 f216:=Tryz.func348.trans (congrArg some (by kernel_rfl))
 f257:=Tryz.func362.trans (congrArg some (by kernel_rfl))
 f294:=Tryz.func367.trans (congrArg some (by kernel_rfl))
 f295:=Tryz.func368.trans (congrArg some (by kernel_rfl))
 f296:=Tryz.func369.trans (congrArg some (by kernel_rfl))
 f297:=Tryz.func370.trans (congrArg some (by kernel_rfl))
 f298:=Tryz.func371.trans (congrArg some (by kernel_rfl))
 f299:=Tryz.func372.trans (congrArg some (by kernel_rfl))
 f300:=Tryz.func373.trans (congrArg some (by kernel_rfl))
 f301:=Tryz.func374.trans (congrArg some (by kernel_rfl))
 f328:=Tryz.func376.trans (congrArg some (by kernel_rfl))
 f329:=Tryz.func282.trans (congrArg some (by kernel_rfl))
 f330:=Tryz.func283.trans (congrArg some (by kernel_rfl))
 f331:=Tryz.func377.trans (congrArg some (by kernel_rfl))
 f332:=Tryz.func378.trans (congrArg some (by kernel_rfl))
 f343:=Tryz.func379.trans (congrArg some (by kernel_rfl))
 t0:=Tryz.underlying0
 a0:=Tryz.isAgg0
 z0:=Tryz.sizeOf0
 v0:=Tryz.zeroValue0
 t3:=Tryz.underlying3
 a3:=Tryz.isAgg3
 z3:=Tryz.sizeOf3
 v3:=Tryz.zeroValue3
 t4:=Tryz.underlying4
 a4:=Tryz.isAgg4
 z4:=Tryz.sizeOf4
 v4:=Tryz.zeroValue4
 t5:=Tryz.underlying5
 a5:=Tryz.isAgg5
 z5:=Tryz.sizeOf5
 v5:=Tryz.zeroValue5
 t9:=Tryz.underlying9
 a9:=Tryz.isAgg9
 z9:=Tryz.sizeOf9
 v9:=Tryz.zeroValue9
 t28:=Tryz.underlying52
 a28:=Tryz.isAgg52
 z28:=Tryz.sizeOf52
 v28:=Tryz.zeroValue52
 t46:=Tryz.underlying167
 a46:=Tryz.isAgg167
 z46:=Tryz.sizeOf167
 v46:=Tryz.zeroValue167
 t51:=Tryz.underlying123
 a51:=Tryz.isAgg123
 z51:=Tryz.sizeOf123
 v51:=Tryz.zeroValue123
 t53:=Tryz.underlying112
 a53:=Tryz.isAgg112
 z53:=Tryz.sizeOf112
 v53:=Tryz.zeroValue112
 t131:=Tryz.underlying97
 a131:=Tryz.isAgg97
 z131:=Tryz.sizeOf97
 v131:=Tryz.zeroValue97
 t182:=Tryz.underlying288
 a182:=Tryz.isAgg288
 z182:=Tryz.sizeOf288
 v182:=Tryz.zeroValue288
 t183:=Tryz.underlying289
 a183:=Tryz.isAgg289
 z183:=Tryz.sizeOf289
 v183:=Tryz.zeroValue289
 t218:=Tryz.underlying316
 a218:=Tryz.isAgg316
 z218:=Tryz.sizeOf316
 v218:=Tryz.zeroValue316
 t222:=Tryz.underlying320
 a222:=Tryz.isAgg320
 z222:=Tryz.sizeOf320
 v222:=Tryz.zeroValue320
 t228:=Tryz.underlying337
 a228:=Tryz.isAgg337
 z228:=Tryz.sizeOf337
 v228:=Tryz.zeroValue337
 t229:=Tryz.underlying338
 a229:=Tryz.isAgg338
 z229:=Tryz.sizeOf338
 v229:=Tryz.zeroValue338}
open Go.Sort Go.RowKit in
theorem Tryz.slices_Sort_int (blk off cap:Nat) (zs:List Int) (w:World) (hH:Holds (Value.int .i64) w blk off zs.toArray) (hblk:blk<w.heap.size) (hsz:zs.length<4611686018427387904):
  Calls Tryz.prog 345 #[.slice (some ⟨blk,off,none⟩) zs.length cap] w fun e w'=>
   e= .returned (.tuple #[])∧ ∃n os,w'=grow (putRow (Value.int .i64) (Sort.ahead w n) blk off (zs.mergeSort fun x y=>decide (x≤y)).toArray) os:=Any.slices_Sort_int Tryz.lays189 blk off cap zs w hH hblk hsz
def Tryz.laysNm225_ren:Go.Shelf.Ren:=⟨fun|25=>325|31=>348|32=>349|37=>194|n=>n,fun|22=>52|3=>3|4=>4|40=>167|0=>0|n=>n,fun|n=>n⟩
theorem Tryz.laysNm225:Go.Proofs.Lays2.n25 Tryz.prog Tryz.laysNm225_ren:= {
 mixed:=by kernel_rfl
 f25:=Tryz.func325.trans (congrArg some (by kernel_rfl))
 f31:=Tryz.func348.trans (congrArg some (by kernel_rfl))
 f32:=Tryz.func349.trans (congrArg some (by kernel_rfl))
 f37:=Tryz.func194.trans (congrArg some (by kernel_rfl))
 t0:=Tryz.underlying0
 a0:=Tryz.isAgg0
 z0:=Tryz.sizeOf0
 v0:=Tryz.zeroValue0
 t3:=Tryz.underlying3
 a3:=Tryz.isAgg3
 z3:=Tryz.sizeOf3
 v3:=Tryz.zeroValue3
 t4:=Tryz.underlying4
 a4:=Tryz.isAgg4
 z4:=Tryz.sizeOf4
 v4:=Tryz.zeroValue4
 t22:=Tryz.underlying52
 a22:=Tryz.isAgg52
 z22:=Tryz.sizeOf52
 v22:=Tryz.zeroValue52
 t40:=Tryz.underlying167
 a40:=Tryz.isAgg167
 z40:=Tryz.sizeOf167
 v40:=Tryz.zeroValue167}
open Go.RowKit Go.Lib in
theorem Tryz.slices_BinarySearch_int (b off n c:Nat) (zs:List Int) (x:Int) (w:World) (hz:n≤zs.length) (hbig:n<4611686018427387904) (hc: ∀j,j<zs.length→w.cell? ⟨b,off+j,none⟩=some (.int .i64 (zs.getD j 0))) (hs:(zs.take n).Pairwise (· ≤ ·)):
  Calls Tryz.prog 325 #[.slice (some ⟨b,off,none⟩) n c, .int .i64 x] w fun e w'=>e= .returned (.tuple #[.int .i64 ((zs.take n).countP (· <x):Nat), .bool ((zs.take n).contains x)])∧ ∃q,w'=w.drewN q:=Any.slices_BinarySearch_int Tryz.laysNm225 b off n c zs x w hz hbig hc hs
open Go.RowKit Go.Sort in
theorem Tryz.slices_Sort_int_none (p:Option Addr) (cap:Nat) (w:World):
  Calls Tryz.prog 345 #[.slice p 0 cap] w fun e w'=>e= .returned (.tuple #[])∧w'=w:=Any.slices_Sort_int_none Tryz.lays189 p cap w
open Go.RowKit Go.Lib in
theorem Tryz.slices_BinarySearch_int_empty (a:Option Addr) (c:Nat) (x:Int) (w:World):
  Calls Tryz.prog 325 #[.slice a 0 c, .int .i64 x] w fun e w'=>e= .returned (.tuple #[.int .i64 0, .bool false])∧w'=w:=Any.slices_BinarySearch_int_empty Tryz.laysNm225 a c x w
end Go.Proofs
namespace Go.Eng
open Go Go.RowKit Go.Proofs Go.Sort
section
variable {P:Program} {B:Nat} {w0:World} {R:List Row}
def bAz (P:Program) (f:Nat):Prop:= ∀(blk off cap:Nat) (zs:List Int) (w:World) (_:Holds (Value.int .i64) w blk off zs.toArray) (_:blk<w.heap.size) (_:zs.length<4611686018427387904),
 Calls P f #[.slice (some ⟨blk,off,none⟩) zs.length cap] w fun e w'=>e= .returned (.tuple #[])∧ ∃n os,w'=grow (putRow (Value.int .i64) (Sort.ahead w n) blk off (zs.mergeSort fun x y=>decide (x≤y)).toArray) os
def aWf (P:Program) (f:Nat):Prop:= ∀(p:Option Addr) (cap:Nat) (w:World),Calls P f #[.slice p 0 cap] w fun e w'=>e= .returned (.tuple #[])∧w'=w
def bBb (P:Program) (f:Nat):Prop:= ∀(b off n c:Nat) (zs:List Int) (x:Int) (w:World) (_:n≤zs.length) (_:n<4611686018427387904) (_: ∀j,j<zs.length→w.cell? ⟨b,off+j,none⟩=some (.int .i64 (zs.getD j 0))) (_:(zs.take n).Pairwise (· ≤ ·)),
 Calls P f #[.slice (some ⟨b,off,none⟩) n c, .int .i64 x] w fun e w'=>e= .returned (.tuple #[.int .i64 ((zs.take n).countP (· <x):Nat), .bool ((zs.take n).contains x)])∧ ∃q,w'=w.drewN q
def aWh (P:Program) (f:Nat):Prop:= ∀(a:Option Addr) (c:Nat) (x:Int) (w:World),Calls P f #[.slice a 0 c, .int .i64 x] w fun e w'=>e= .returned (.tuple #[.int .i64 0, .bool false])∧w'=w
def jZ (l:List Int):List Int:=l.mergeSort fun x y=>decide (x≤y)
theorem kR (l:List Int):(jZ l).Perm l:=List.mergeSort_perm _ _
theorem xW (l:List Int):(jZ l).Pairwise (· ≤ ·):=by
 have:=List.pairwise_mergeSort (le:=fun x y:Int=>decide (x≤y)) (fun a b c h1 h2=>by simp at*;omega) (fun a b=>by simp;omega) l
 exact this.imp fun h=>by simpa using h
theorem aFr {f:Nat} (hS:bAz P f) (hS0:aWf P f) {T m c:Nat} {A:Option Addr} {l:List Int} (i:Nat) (hi:R[i]? =some ⟨T,1,A,m,c,ints .i64 l,false⟩) (hsz:l.length<4611686018427387904):
  Ct P f #[.slice A m c] B w0 R (fun v R'=>v= .tuple #[]∧R'=R.set i ⟨T,1,A,m,c,ints .i64 (jZ l),false⟩):=by
 intro w hw
 have hown:=Row.lies_w (hw.own _ (List.mem_of_getElem? hi)) rfl
 have hrd:=Row.rd (hw.own _ (List.mem_of_getElem? hi))
 obtain rfl:m=l.length:=hrd.lenI
 rcases hown.2 with⟨hv,hn⟩|⟨blk,cap,cur,hv,hb,hg,hnc,hcm,hcs,ht⟩
 ·simp only at hn
  have hl:l=[]:=List.eq_nil_of_length_eq_zero hn
  subst hl
  refine(hS0 A c w).mono ?_
  rintro e w' ⟨rfl,rfl⟩
  refine⟨_,_,rfl,?_,rfl,rfl⟩
  have e:jZ []=[]:=by simp[jZ]
  rw[e]
  have:R.set i ⟨T,1,A,([]:List Int).length,c,ints .i64 [],false⟩=R:=by
   apply List.ext_getElem?
   intro k
   rw[List.getElem?_set]
   split
   ·rename_i h
    subst h
    split
    ·exact hi.symm
    ·rename_i h2
     rw[List.getElem?_eq_none (by omega)]
   ·rfl
  rw[this]
  exact hw
 ·simp only[Value.slice.injEq,true_and] at hv
  obtain⟨rfl,rfl⟩:=hv
  simp only at ht hcs hg hnc
  have hlt:blk<w.heap.size:=(Array.getElem?_eq_some_iff.1 hg).1
  have hH:Holds (Value.int .i64) w blk 0 l.toArray:=by
   intro j hj
   have hj':j<l.length:=by simpa using hj
   have e:(ints .i64 l)[j]? =some (.int .i64 (l.toArray[j]!)):=by
    rw[getElem!_pos l.toArray j hj]
    simp[ints,hj']
   refine⟨?_,?_⟩
   ·rw [Nat.zero_add]
    exact hw.cellAt i hi rfl e
   ·exact hw.openAt i (0+j) hi rfl rfl
  refine(hS blk 0 c l w hH hlt hsz).mono ?_
  rintro e w' ⟨rfl,n,os,rfl⟩
  refine⟨_,_,rfl,?_,rfl,rfl⟩
  have hown':=ownsRow_sorted_i (w:=w) (base:=B) (g:=blk) (cap:=c) (n:=n) (e:=T) (os:=os) (cur:=cur) (ss:=l) (ts:=jZ l) (kR l).length_eq hb hg hnc hcm hcs
  have hgb:=grownBy_sorted_i (w:=w) (g:=blk) (n:=n) (os:=os) (jZ l).toArray
  refine hw.upd hi (row:=some blk) hgb ?_ (fun k hk=> ?_) ?_ (fun a' ha'=> .inl ⟨a',ha',rfl⟩)
  ·show w.drawn≤w.drawn+n
   omega
  ·obtain rfl:=Option.some.inj hk
   exact⟨_,rfl,rfl⟩
  ·exact hown'
theorem aHy {f:Nat} (hF:bBb P f) (hF0:aWh P f) {T m c:Nat} {A:Option Addr} {l:List Int} {x:Int} (i:Nat) (hi:R[i]? =some ⟨T,1,A,m,c,ints .i64 l,false⟩) (hsz:l.length<4611686018427387904) (hs:l.Pairwise (· ≤ ·)):
  Ct P f #[.slice A m c, .int .i64 x] B w0 R (fun v R'=>v= .tuple #[.int .i64 (l.countP (· <x):Nat), .bool (l.contains x)]∧R'=R):=by
 intro w hw
 have hown:=Row.lies_w (hw.own _ (List.mem_of_getElem? hi)) rfl
 have hrd:=Row.rd (hw.own _ (List.mem_of_getElem? hi))
 obtain rfl:m=l.length:=hrd.lenI
 rcases hown.2 with⟨hv,hn⟩|⟨blk,cap,cur,hv,hb,hg,hnc,hcm,hcs,ht⟩
 ·simp only at hn
  have hl:l=[]:=List.eq_nil_of_length_eq_zero hn
  subst hl
  refine(hF0 A c x w).mono ?_
  rintro e w' ⟨rfl,rfl⟩
  exact⟨_,_,rfl,hw,rfl,rfl⟩
 ·simp only[Value.slice.injEq,true_and] at hv
  obtain⟨rfl,rfl⟩:=hv
  have ht':l.take l.length=l:=List.take_length
  have:=hF blk 0 l.length c l x w (Nat.le_refl _) hsz (fun j hj=>by
   rw[Nat.zero_add]
   exact hw.cellAt i hi rfl (by simp[ints,List.getD_eq_getElem?_getD,hj])) (by rw[ht'];exact hs)
  rw[ht'] at this
  refine this.mono ?_
  rintro e w' ⟨rfl,q,rfl⟩
  exact⟨_,_,rfl,hw.drawn _ (Nat.le_add_right _ _),rfl,rfl⟩
end
end Go.Eng
namespace Go.Proofs.YtdbebmmhdefgdaaGreat
open Go Go.Eng Go.Pure
open Tryz
set_option maxRecDepth 100000
variable {w:World} {A_l:Option Addr} {n_l c_l:Nat} {l:List Int} {h:Int}
theorem aTu {l:List Int} {i:Int} (h_l:Rd w A_l n_l c_l 1 (ints .i64 l)) (hb:(0≤i∧i≤1000000)∧(0≤h∧h≤1000000)) (hl: ∀x∈l,0≤x∧x≤1000000):
  Ct Tryz.prog 326 #[.slice A_l n_l c_l,I i,I h] w.heap.size w [] (fun v R'=>v=I (onF l i h)):=by
 obtain rfl:=h_l.lenI
 refine fn1 Tryz.func326 Z Z Z ?_
 have m_l:=h_l.max
 refine wq<|wn Z<|aG<|wq<|wm Z<|wm Z<|wA Z Z<|wm Z<|wy (aQ underlying52 Z)<|wy (jG Z Z)<|aA<|bM Z (fun hc1=> ?_) (fun hc1=> ?_)
 ·refine wq<|wn Z<|dJ ?_
  refine⟨_,Z,?_⟩
  exact congrArg (Value.int .i64) (by unfold onF;rw[if_pos (by omega)])
 ·have hm:=hl _ (bH (L:=l) (k:=i+h) (by omega) (by omega))
  refine aK<|wq<|wm Z<|wm Z<|wm Z<|wA Z Z<|wy (aH underlying52 sz3 Z Z (h_l.c _))<|wy (aX underlying3 Z Z (h_l.c _))<|wA Z Z<|wn Z<|dJ ?_
  refine⟨_,Z,?_⟩
  exact congrArg (Value.int .i64) (by unfold onF;rw[if_neg (by omega)])
set_option maxHeartbeats 1200000 in
theorem aHk {s:List Int} {n b:Nat} (h_l:Rd w A_l n_l c_l 1 (ints .i64 l)) (hl:l=rkL s n) (hh:h=b) (hn:0<n) (hb:b≤n) (hN:s.length≤100000∧n≤100000):
  Ct Tryz.prog 298 #[.slice A_l n_l c_l,I h] w.heap.size w [] (fun v R'=> ∃A c A' c',v= .tuple #[.slice A s.length c, .slice A' s.length c']∧R'=[(ri 3 A s.length c (rkL s (n+b))),(ri 3 A' s.length c' (cB s n b))]):=by
 obtain rfl:=h_l.lenI
 refine fn2 Tryz.func298 Z Z Z ?_
 have m_l:=h_l.max
 have hll:l.length=s.length:=by rw[hl,yD]
 refine wq<|wg Z<|wn Z<|wq<|wm Z<|wy (aQ underlying52 Z)<|wa (dE underlying52 zb3 Z Z) ?_
 rintro _ _ ⟨g_1,rfl,rfl⟩
 refine bN (v:= .slice (GG g_1) l.length l.length) Z<|wn Z<|wq<|wm Z<|wy (aQ underlying52 Z)<|wa (dE underlying52 zb3 Z Z) ?_
 rintro _ _ ⟨g_2,rfl,rfl⟩
 refine bN (v:= .slice (GG g_2) l.length l.length) Z<|wn Z<|aG<|wq<|wm Z<|wy (aQ underlying52 Z)<|wm Z<|aA<|aI ?_
 refine fU (fun(i:Int) (O:List Int) (K:List Int)=>[(0, .slice A_l l.length c_l),(1,I h),(6, .slice (GG g_1) l.length l.length),(7, .slice (GG g_2) l.length l.length),(19,I ((l.length:Nat):Int)),(20,I i)]) (fun i O K=>[(ri 3 (GG g_2) l.length l.length K),(ri 3 (GG g_1) l.length l.length O)]) (fun i O K=>(0≤i)∧(i≤s.length)∧(O.length=s.length)∧(∀j:Int,0≤j→j<i→rd O j=j)∧(K.length=s.length)∧(∀j:Int,0≤j→j<i→rd K j=qU s n (j.toNat+b))) (fun i O K=>(s.length-i).toNat) ?_ ?_
 ·exact⟨0,List.replicate l.length (0:Int),List.replicate l.length (0:Int),⟨by omega,by omega,(by rw[List.length_replicate,hll]),(fun j h1 h2=>by omega),(by rw[List.length_replicate,hll]),(fun j h1 h2=>by omega)⟩,(G6 rfl rfl rfl rfl rfl rfl),fun _ h=>h⟩
 intro i O K ⟨hi0,hi1,hOl,hO,hKl,hK⟩
 refine wq<|wL Z Z<|aA<|aG<|bM Z (fun hc1=> ?_) (fun hc1=> ?_)
 ·refine aK<|aG<|aI<|wq<|wm Z<|wn Z<|aM<|wm Z<|wm Z<|wm Z<|wm Z<|wm Z<|wm Z ?_
  refine wm Z<|wm Z<|wa (aF bCo Z (Ct.quiet (fun w hw=>aTu ((h_l.c _) w hw) ⟨by omega,by omega⟩ (fun x hx=>by rw[hl] at hx;have:=aLs x hx;omega)))) ?_
  rintro _ _ ⟨rfl,rfl⟩
  refine wy (aH underlying52 sz3 Z Z (rdr 1 Z))<|bY (bG 1 Z sz3 Z Z) ?_
  rintro _ _ rfl
  refine wy (aH underlying52 sz3 Z Z (rdr 0 Z))<|bY (bG 0 Z sz3 Z Z) ?_
  rintro _ _ rfl
  refine aA<|aM<|wA Z Z<|wm Z<|aA ?_
  exact⟨i+1,upd O i i,upd K i (onF l i h),⟨by omega,by omega,(by rw[aV];exact hOl),(eH (f:=fun j=>j) hi0 (by omega) hO Z),(by rw[aV];exact hKl),(eH (f:=fun j=>(qU s n (j.toNat+b):Int)) hi0 (by omega) hK (by rw[hh,hl];exact aZi hi0 (by omega)))⟩,by omega,(G6 Z Z Z Z Z Z),fun _ h=>h⟩
 ·obtain rfl:O=iota s.length:=aDt hOl (fun j h1 h2=>hO j h1 (by omega))
  obtain rfl:K=onL s n b:=aZg hKl (fun j h1 h2=>hK j h1 (by omega))
  have hlen1:(bW (iota s.length) (onL s n b) (((l.length:Nat):Int)+1).toNat).length=s.length:=by rw[show(((l.length:Nat):Int)+1).toNat=s.length+1 by omega,(sD s n b).length_eq,bF]
  refine aZ<|wq<|wm Z<|wm Z<|wm Z<|wy (aQ underlying52 Z)<|wA Z Z<|wa (aF IX Z (Ct.fresh (fun w hw=>rY ((rdr 1 Z) w hw) ((rdr 0 Z) w hw) (by omega) (fun x hx=>by have:=aZh x hx;omega) (fun x hx=>by have:=aW.1 hx;rw[aDi];omega) (by rw[bF];omega)))) ?_
  rintro _ _ ⟨_,rfl,A_3,c_4,rfl,rfl⟩
  refine wm Z<|wX Z Z<|wX Z Z<|wn Z<|wq<|wm Z<|wm Z<|wm Z<|wy (aQ underlying52 Z)<|wa (aF IX Z (Ct.fresh (fun w hw=>rY ((rdr 0 Z) w hw) ((h_l.c _) w hw) (by omega) (fun x hx=>by rw[hl] at hx;have:=aLs x hx;omega) (fun x hx=>by rw[show(((l.length:Nat):Int)+1).toNat=s.length+1 by omega] at hx;have:=aW.1 ((sD s n b).subset hx);omega) (by rw[hlen1];omega)))) ?_
  rintro _ _ ⟨_,rfl,A_7,c_8,rfl,rfl⟩
  refine wm Z<|wX Z Z<|wX Z Z<|wn Z<|wq<|wm Z<|wy (aQ underlying52 Z)<|wa (dE underlying52 zb3 Z Z) ?_
  rintro _ _ ⟨g_11,rfl,rfl⟩
  refine bN (v:= .slice (GG g_11) l.length l.length) Z<|wn Z<|aG<|wq<|wm Z<|wy (aQ underlying52 Z)<|wm Z<|aA<|aI ?_
  refine fU (fun(p:Int) (D:List Int) (V:List Int)=>[(0, .slice A_l l.length c_l),(6, .slice A_7 (((bW (iota s.length) (onL s n b) ((((l.length:Nat):Int)+1)).toNat)).length) c_8),(7, .slice (GG g_2) l.length l.length),(9, .slice (GG g_11) l.length l.length),(55, .slice A_7 (((bW (iota s.length) (onL s n b) ((((l.length:Nat):Int)+1)).toNat)).length) c_8),(56,I ((((bW (iota s.length) (onL s n b) ((((l.length:Nat):Int)+1)).toNat)).length:Nat):Int)),(57,I p)]) (fun p D V=>[(ri 3 (GG g_11) l.length l.length V),(ri 3 A_7 (((bW (iota s.length) (onL s n b) ((((l.length:Nat):Int)+1)).toNat)).length) c_8 D),(ri 3 A_3 (((iota s.length)).length) c_4 (bW (iota s.length) (onL s n b) ((((l.length:Nat):Int)+1)).toNat)),(ri 3 (GG g_2) l.length l.length (onL s n b)),(ri 3 (GG g_1) l.length l.length (iota s.length))]) (fun p D V=>(0≤p)∧(p≤s.length)∧(D=cB s n b)∧(V.length=s.length)∧(∀q:Int,0≤q→q<p→rd V (rd D q)=rkS s (n+b) (rd D q).toNat)) (fun p D V=>(s.length-p).toNat) ?_ ?_
  ·exact⟨0,bW (bW (iota s.length) (onL s n b) ((((l.length:Nat):Int)+1)).toNat) l (((l.length:Nat):Int)).toNat,List.replicate l.length (0:Int),⟨by omega,by omega,(by rw[hl,yD];unfold cB;rw[show((s.length:Int)+1).toNat=s.length+1 by omega,Int.toNat_natCast]),(by rw[List.length_replicate,hll]),(fun q h1 h2=>by omega)⟩,(G7 rfl rfl rfl rfl rfl rfl rfl),fun _ h=>h⟩
  intro p D V ⟨hp0,hp1,hD,hVl,hV⟩
  refine wq<|wL Z Z<|aA<|aG<|bM Z (fun hc2=> ?_) (fun hc2=> ?_)
  ·have hm:=fE (s:=s) (n:=n) (b:=b) hp0 (by omega)
   rw[←hD] at hm
   refine aK<|aG<|aI<|wq<|wm Z<|wy (aH underlying52 sz3 Z Z (rdr 1 Z))<|wy (aX underlying3 Z Z (rdr 1 Z))<|wg Z<|wn Z<|wq<|wm Z<|wm Z ?_
   refine wm Z<|wy (aH underlying52 sz3 Z Z (rdr 0 Z))<|bY (bG 0 Z sz3 Z Z) ?_
   rintro _ _ rfl
   refine aA ?_
   refine xN [(0, .slice A_l l.length c_l),(6, .slice A_7 (((bW (iota s.length) (onL s n b) ((((l.length:Nat):Int)+1)).toNat)).length) c_8),(7, .slice (GG g_2) l.length l.length),(9, .slice (GG g_11) l.length l.length),(10,I p),(11,I (rd D p)),(55, .slice A_7 (((bW (iota s.length) (onL s n b) ((((l.length:Nat):Int)+1)).toNat)).length) c_8),(56,I ((((bW (iota s.length) (onL s n b) ((((l.length:Nat):Int)+1)).toNat)).length:Nat):Int)),(57,I p),(97, .bool (decide ((0<p)∧(((rd l (rd D (p-1)))=(rd l (rd D p)))∧((rd (onL s n b) (rd D (p-1)))=(rd (onL s n b) (rd D p)))))))] [(ri 3 (GG g_11) l.length l.length (upd V (rd D p) p)),(ri 3 A_7 (((bW (iota s.length) (onL s n b) ((((l.length:Nat):Int)+1)).toNat)).length) c_8 D),(ri 3 A_3 (((iota s.length)).length) c_4 (bW (iota s.length) (onL s n b) ((((l.length:Nat):Int)+1)).toNat)),(ri 3 (GG g_2) l.length l.length (onL s n b)),(ri 3 (GG g_1) l.length l.length (iota s.length))] ?_ ?_
   ·refine bT mixed<|wD 0 Z (aN Z)<|wD 1 Z (dV Z Z)<|wD 2 Z (aN Z)<|pX 68 Z (fun hc3=> ?_) (fun hc3=> ?_)
    ·refine wG 3 Z Z Z (aN Z)<|wG 4 Z Z Z (aN Z)<|wG 5 Z Z Z (aN Z)<|wG 6 Z Z Z (jF Z Z)<|wG 7 Z Z Z (aH underlying52 sz3 Z Z (rdr 1 Z))<|wG 8 Z Z Z (aX underlying3 Z Z (rdr 1 Z))<|wG 9 Z Z Z (aH underlying52 sz3 Z Z (h_l.c _) (by first|omega|(have hm1:=fE (s:=s) (n:=n) (b:=b) (p:=p-1) (by omega) (by omega);rw[←hD] at hm1;omega)) (by first|omega|(have hm1:=fE (s:=s) (n:=n) (b:=b) (p:=p-1) (by omega) (by omega);rw[←hD] at hm1;omega))) ?_
     refine wG 10 Z Z Z (aX underlying3 Z Z (h_l.c _) (by first|omega|(have hm1:=fE (s:=s) (n:=n) (b:=b) (p:=p-1) (by omega) (by omega);rw[←hD] at hm1;omega)) (by first|omega|(have hm1:=fE (s:=s) (n:=n) (b:=b) (p:=p-1) (by omega) (by omega);rw[←hD] at hm1;omega))) ?_
     refine wG 11 Z Z Z (aN Z)<|wG 12 Z Z Z (aN Z)<|wG 13 Z Z Z (aH underlying52 sz3 Z Z (h_l.c _))<|wG 14 Z Z Z (aX underlying3 Z Z (h_l.c _))<|wG 15 Z Z Z (bC Z Z)<|wD 16 Z (bA Z Z)<|wD 17 Z (aN Z)<|pX 83 Z (fun hc4=> ?_) (fun hc4=> ?_)
     ·refine wG 18 Z Z Z (aN Z)<|wG 19 Z Z Z (aN Z)<|wG 20 Z Z Z (aN Z)<|wG 21 Z Z Z (jF Z Z)<|wG 22 Z Z Z (aH underlying52 sz3 Z Z (rdr 1 Z))<|wG 23 Z Z Z (aX underlying3 Z Z (rdr 1 Z))<|wG 24 Z Z Z (aH underlying52 sz3 Z Z (rdr 3 Z) (by first|omega|(have hm1:=fE (s:=s) (n:=n) (b:=b) (p:=p-1) (by omega) (by omega);rw[←hD] at hm1;omega)) (by first|omega|(have hm1:=fE (s:=s) (n:=n) (b:=b) (p:=p-1) (by omega) (by omega);rw[←hD] at hm1;omega))) ?_
      refine wG 25 Z Z Z (aX underlying3 Z Z (rdr 3 Z) (by first|omega|(have hm1:=fE (s:=s) (n:=n) (b:=b) (p:=p-1) (by omega) (by omega);rw[←hD] at hm1;omega)) (by first|omega|(have hm1:=fE (s:=s) (n:=n) (b:=b) (p:=p-1) (by omega) (by omega);rw[←hD] at hm1;omega))) ?_
      refine wG 26 Z Z Z (aN Z)<|wG 27 Z Z Z (aN Z)<|wG 28 Z Z Z (aH underlying52 sz3 Z Z (rdr 3 Z))<|wG 29 Z Z Z (aX underlying3 Z Z (rdr 3 Z))<|wG 30 Z Z Z (bC Z Z)<|wD 31 Z (bA Z Z)<|wN ?_
      exact⟨(sc Z (sc Z (sc Z (sc Z (sc Z (sc Z (sc Z (sc Z (sc Z (Sub.to Z mbA Sub.nil)))))))))),fun _ h=>h⟩
     ·refine wO 18 Z Z Z<|wO 19 Z Z Z<|wO 20 Z Z Z<|wO 21 Z Z Z<|wO 22 Z Z Z<|wO 23 Z Z Z<|wO 24 Z Z Z<|wO 25 Z Z Z<|wO 26 Z Z Z<|wO 27 Z Z Z<|wO 28 Z Z Z<|wO 29 Z Z Z<|wO 30 Z Z Z<|wD 31 Z (aS Z Z)<|wN ?_
      exact⟨(sc Z (sc Z (sc Z (sc Z (sc Z (sc Z (sc Z (sc Z (sc Z (Sub.to Z mfA Sub.nil)))))))))),fun _ h=>h⟩
    ·refine wO 3 Z Z Z<|wO 4 Z Z Z<|wO 5 Z Z Z<|wO 6 Z Z Z<|wO 7 Z Z Z<|wO 8 Z Z Z<|wO 9 Z Z Z<|wO 10 Z Z Z<|wO 11 Z Z Z<|wO 12 Z Z Z<|wO 13 Z Z Z<|wO 14 Z Z Z<|wO 15 Z Z Z<|wD 16 Z (aS Z Z)<|wD 17 Z (aN Z) ?_
     refine wO 18 Z Z Z<|wO 19 Z Z Z<|wO 20 Z Z Z<|wO 21 Z Z Z<|wO 22 Z Z Z<|wO 23 Z Z Z<|wO 24 Z Z Z<|wO 25 Z Z Z<|wO 26 Z Z Z<|wO 27 Z Z Z<|wO 28 Z Z Z<|wO 29 Z Z Z<|wO 30 Z Z Z<|wD 31 Z (aS Z Z)<|wN ?_
     exact⟨(sc Z (sc Z (sc Z (sc Z (sc Z (sc Z (sc Z (sc Z (sc Z (Sub.to Z mfA Sub.nil)))))))))),fun _ h=>h⟩
   refine bM Z (fun hc5=> ?_) (fun hc5=> ?_)
   ·refine aM<|wm Z<|wm Z<|wm Z<|wm Z<|wm Z<|wS Z Z<|wy (aH underlying52 sz3 Z Z (rdr 1 Z))<|wy (aX underlying3 Z Z (rdr 1 Z))<|wy (aH underlying52 sz3 Z Z (rdr 0 Z) (by first|omega|(have hm1:=fE (s:=s) (n:=n) (b:=b) (p:=p-1) (by omega) (by omega);rw[←hD] at hm1;omega)) (by first|omega|(have hm1:=fE (s:=s) (n:=n) (b:=b) (p:=p-1) (by omega) (by omega);rw[←hD] at hm1;omega))) ?_
    refine wy (aX underlying3 Z Z (rdr 0 Z) (by first|omega|(have hm1:=fE (s:=s) (n:=n) (b:=b) (p:=p-1) (by omega) (by omega);rw[←hD] at hm1;omega)) (by first|omega|(have hm1:=fE (s:=s) (n:=n) (b:=b) (p:=p-1) (by omega) (by omega);rw[←hD] at hm1;omega))) ?_
    refine wy (aH underlying52 sz3 Z Z (rdr 0 Z))<|bY (bG 0 Z sz3 Z Z) ?_
    rintro _ _ rfl
    refine aA<|aM<|wA Z Z<|wm Z<|aA ?_
    exact⟨p+1,D,upd (upd V (rd D p) p) (rd D p) (rd (upd V (rd D p) p) (rd D (p-1))),⟨by omega,by omega,by omega,(by rw[aV,aV];exact hVl),(by subst hD;exact aHl hn hb hp0 (by omega) hVl hV (by rw[←hl,and_assoc];exact hc5))⟩,by omega,(G7 Z Z Z Z Z Z Z),fun _ h=>h⟩
   ·refine aK<|aM<|wA Z Z<|wm Z<|aA ?_
    exact⟨p+1,D,upd V (rd D p) p,⟨by omega,by omega,by omega,(by rw[aV];exact hVl),(by subst hD;exact ZN hn hb hp0 (by omega) hVl hV (by rw[←hl,and_assoc];exact hc5))⟩,by omega,(G7 Z Z Z Z Z Z Z),fun _ h=>h⟩
  ·refine aZ<|wq<|wm Z<|wm Z<|wg Z<|wn Z<|aT [0,1] 99 (by decide) Z ?_
   refine⟨_,_,Z,Z,?_⟩
   have e2:V=rkL s (n+b):=aHm hVl (fun q h1 h2=>by have:=hV q h1 (by omega);rw[hD] at this;exact this)
   subst e2
   subst hD
   rw[hlen1,hll]
   exact⟨_,_,_,_,Z,Z⟩
variable {B n_s c_s Bs:Nat} {w0 w:World} {R:List Row} {A_s:Option Addr} {s:List Int}
theorem LF:
  Ct Tryz.prog 315 #[.slice A_s n_s c_s] B w0 R (fun v R'=> ∃g,v= .func (.func 346) #[] #[.pointer (GG g)]∧R'=(rc 52 1 g [.slice A_s n_s c_s])::R):=by
 refine fn1 Tryz.func315 Z Z Z ?_
 refine wq<|wa (bX (sz:=1) Z Z) ?_
 rintro _ _ ⟨g,rfl,rfl⟩
 refine wn Z<|wq<|wy (kQ Z Z)<|wn Z<|dJ ?_
 exact⟨_,Z,g,Z,Z⟩
theorem WV:
  Ct Tryz.prog 186 #[.slice A_s n_s c_s] B w0 R (fun v R'=> ∃g,v= .func (.func 241) #[] #[.pointer (GG g)]∧R'=(rc 52 1 g [.slice A_s n_s c_s])::R):=by
 refine fn1 Tryz.func186 Z Z Z ?_
 refine wq<|wa (bX (sz:=1) Z Z) ?_
 rintro _ _ ⟨g,rfl,rfl⟩
 refine wn Z<|wq<|wy (kQ Z Z)<|wn Z<|dJ ?_
 exact⟨_,Z,g,Z,Z⟩
theorem aKx {l:List Int} {k:Nat} (h:k<l.length):l.take k++[rd l (k:Int)]=l.take (k+1):=by
 rw[List.take_add_one,List.getElem?_eq_getElem h,rd,Int.toNat_natCast,List.getD_eq_getElem?_getD,List.getElem?_eq_getElem h];rfl
theorem QI {Bs:Nat} (h_s:Rd w A_s n_s c_s 1 (ints .i64 s)) (h_b:Rd w (GG Bs) 1 1 1 [.slice A_s n_s c_s]) (hN:s.length≤1000000):
  Ct Tryz.prog 361 #[.slice none 0 0, .func (.func 346) #[] #[.pointer (GG Bs)]] w.heap.size w [] (fun v R'=> ∃A c,v= .slice A (s).length c∧R'=[(ri 3 A ((s).length) c (s))]):=by
 refine fnV Tryz.func361 Z Z ?_
 obtain rfl:=h_s.lenI
 refine fP ?_
 refine aM<|wa (bX (sz:=1) Z Z) ?_
 rintro _ _ ⟨g_1,rfl,rfl⟩
 refine dH (R1:=[(ri 3 none 0 0 ([])),(rc 52 1 g_1 [.slice none 0 0])]) (Sub.refl _) (fun _ h=>h.nil 3 1)<|wn Z ?_
 refine aCb ?_
 refine fP ?_
 refine aM<|wm Z<|aA ?_
 refine DY ?_
 refine RA Z bCl (XM (A:=A_s) (c:=c_s) (zs:=s)) Z (fun _=>Z) Gd.refl (fun(kr:Nat) (A1:Option Addr) (n1:Nat) (c1:Nat) (acc:List Int)=>[(ri 3 A1 n1 c1 acc),(rc 52 1 g_1 [.slice A1 n1 c1])]) (fun kr A1 n1 c1 acc=>(n1=acc.length)∧(acc=s.take kr)) ?_ ?_ ?_ ?_
 ·exact⟨none,0,0,[],⟨(Z),(List.take_zero.symm)⟩,fun _ h=>h⟩
 ·intro kr A1 n1 c1 acc w ⟨hn1,hacc⟩ hw
  exact⟨(h_b.c _) w hw,(h_s.c _) w hw⟩
 ·intro lr kr A1 n1 c1 acc WW1 hkr ⟨hn1,hacc⟩ hbW1
  have hl1:acc.length≤s.length:=by rw[hacc,List.length_take];omega
  refine aM<|wn Z ?_
  intro WW13 hbW13
  refine aI<|aM<|wy (aJ (rdr 1 Z) underlying52 Z Z Z)<|wm Z<|wa (bS .i64 [rd s (kr:Int)] underlying52 zs3 Z Z Z) ?_
  rintro _ _ ⟨g_4,rfl,rfl⟩
  refine wa (bE 1 Z underlying52 zb3 Z Z Z (rdr 0 Z)) ?_
  rintro _ _ ⟨A_5,c_6,rfl,rfl⟩
  refine bN (v:= .slice A_5 (n1+1) c_6) Z<|bY (aY 2 Z Z Z gX Z Z Z Z (Nat.le_of_ble_eq_true Z)) ?_
  rintro _ _ rfl
  refine aA ?_
  exact⟨A_5,(n1+1),c_6,acc++([rd s (kr:Int)]),⟨(by rw[List.length_append,hn1];try rfl),(by rw[hacc];exact aKx hkr)⟩,fun _=>fun _ h=>h.sel [1,2] (by decide) Z⟩
 intro WW15 DW1 A1 n1 c1 acc ⟨hn1,hacc⟩ hbW15 hGW15
 refine aCd ?_
 refine aSb ?_
 refine v_w ?_
 refine wq<|wy (aJ (rdr 1 Z) underlying52 Z Z Z)<|wn Z<|aT [0] 99 (by decide) Z ?_
 refine bFm Z hGW15 ⟨_,Z,?_⟩
 rw[List.take_length] at hacc
 subst hn1
 subst hacc
 exact⟨_,_,Z,Z⟩
theorem aAj {Bs:Nat} (h_s:Rd w A_s n_s c_s 1 (ints .i64 s)) (h_b:Rd w (GG Bs) 1 1 1 [.slice A_s n_s c_s]) (hN:s.length≤1000000):
  Ct Tryz.prog 344 #[.func (.func 346) #[] #[.pointer (GG Bs)]] w.heap.size w [] (fun v R'=> ∃A c,v= .slice A (s).length c∧R'=[(ri 3 A ((s).length) c (s))]):=by
 refine fn1 Tryz.func344 Z Z Z ?_
 refine wq<|wn Z<|wq<|wm Z<|wa (aF bCj Z (Ct.fresh (fun w hw=>QI ((h_s.c _) w hw) ((h_b.c _) w hw) (by omega)))) ?_
 rintro _ _ ⟨_,rfl,A_1,c_2,rfl,rfl⟩
 refine wn Z<|aT [0] 99 (by decide) Z ?_
 refine⟨_,Z,?_⟩
 exact⟨_,_,Z,Z⟩
theorem LX {Bs:Nat} (h_s:Rd w A_s n_s c_s 1 (ints .i64 s)) (h_b:Rd w (GG Bs) 1 1 1 [.slice A_s n_s c_s]) (hN:s.length≤1000000):
  Ct Tryz.prog 314 #[.func (.func 346) #[] #[.pointer (GG Bs)]] w.heap.size w [] (fun v R'=> ∃A c,v= .slice A (jZ s).length c∧R'=[(ri 3 A ((jZ s).length) c (jZ s))]):=by
 refine fn1 Tryz.func314 Z Z Z ?_
 refine wq<|wn Z<|wq<|wm Z<|wa (aF bCn Z (Ct.fresh (fun w hw=>aAj ((h_s.c _) w hw) ((h_b.c _) w hw) (by omega)))) ?_
 rintro _ _ ⟨_,rfl,A_1,c_2,rfl,rfl⟩
 refine wn Z<|wq<|wm Z<|wa (aF bCm Z (aFr Tryz.slices_Sort_int Tryz.slices_Sort_int_none 0 Z (by omega))) ?_
 rintro _ _ ⟨rfl,rfl⟩
 refine aA<|wq<|wm Z<|wn Z<|aT [0] 99 (by decide) Z ?_
 refine⟨_,Z,?_⟩
 have e:s.length=(jZ s).length:=(kR s).length_eq.symm
 rw[e]
 exact⟨_,_,Z,Z⟩
variable {s:List Int} {w:World} {A_s:Option Addr} {n_s c_s:Nat}
theorem aYv {V:List Int} {h:Nat} (hl:V.length=s.length) (hV: ∀j:Int,0≤j→j<s.length→rd V j=rkS s h j.toNat):V=rkL s h:=
 bI (hl.trans (yD s h).symm) fun j h1 h2=>by rw[pF h1 (by omega)];exact hV j h1 (by omega)
theorem aGm (h_s:Rd w A_s n_s c_s 1 (ints .i64 s)) (hN:s.length≤100000):
  Ct Tryz.prog 297 #[.slice A_s n_s c_s] w.heap.size w [] (fun v R'=> ∃A c,v= .slice A (s.length) c∧R'=[(ri 3 A s.length c (rkL s 1))]):=by
 obtain rfl:=h_s.lenI
 refine fn1 Tryz.func297 Z Z Z ?_
 have m_s:=h_s.max
 refine wq<|wn Z<|wq<|wm Z<|wa (aF aXc Z (LF)) ?_
 rintro _ _ ⟨g_1,rfl,rfl⟩
 refine wa (aF aXd Z (Ct.fresh (fun w hw=>LX ((h_s.c _) w hw) ((rdr 0 Z) w hw) (by omega)))) ?_
 rintro _ _ ⟨_,rfl,A_3,c_4,rfl,rfl⟩
 refine wn Z<|wq<|wm Z<|wy (aQ underlying52 Z)<|wa (dE underlying52 zb3 Z Z) ?_
 rintro _ _ ⟨g_7,rfl,rfl⟩
 refine bN (v:= .slice (GG g_7) s.length s.length) Z<|wn Z<|aG<|wq<|wm Z<|wy (aQ underlying52 Z)<|wm Z<|aA<|aI ?_
 refine dR (fun(i:Int) (V:List Int)=>[(3, .slice A_3 ((jZ s).length) c_4),(4, .slice (GG g_7) s.length s.length),(13, .slice A_s s.length c_s),(14,I ((s.length:Nat):Int)),(15,I i)]) (fun i V=>[(ri 3 (GG g_7) s.length s.length V),(ri 3 A_3 ((jZ s).length) c_4 (jZ s)),(rc 52 1 g_1 [.slice A_s s.length c_s])]) (fun i V=>(0≤i)∧(i≤s.length)∧(V.length=s.length)∧(∀j:Int,0≤j→j<i→rd V j=rkS s 1 j.toNat)) (fun i V=>(s.length-i).toNat) ?_ ?_
 ·exact⟨0,List.replicate s.length (0:Int),⟨by omega,by omega,(by rw[List.length_replicate]),(fun j h1 h2=>by omega)⟩,(G5 rfl rfl rfl rfl rfl),fun _ h=>h⟩
 intro i V ⟨hi0,hi1,hVl,hV⟩
 refine wq<|wL Z Z<|aA<|aG<|bM Z (fun hc1=> ?_) (fun hc1=> ?_)
 ·refine aK<|aG<|aI<|wq<|wm Z<|wy (aH underlying52 sz3 Z Z (h_s.c _))<|wy (aX underlying3 Z Z (h_s.c _))<|wg Z<|wn Z<|aM<|wm Z<|wm Z<|wm Z ?_
  refine wm Z<|wa (aF bCp Z (aHy Tryz.slices_BinarySearch_int Tryz.slices_BinarySearch_int_empty 1 Z (by rw[(kR s).length_eq];omega) (xW s))) ?_
  rintro _ _ ⟨rfl,rfl⟩
  refine wm Z<|wX Z Z<|wX Z Z<|wy (aH underlying52 sz3 Z Z (rdr 0 Z))<|bY (bG 0 Z sz3 Z Z) ?_
  rintro _ _ rfl
  refine aA<|aM<|wA Z Z<|wm Z<|aA ?_
  exact⟨i+1,upd V i (((jZ s).countP fun y=>decide (y<rd s i):Nat):Int),⟨by omega,by omega,(by rw[aV];exact hVl),(eH (f:=fun j=>(rkS s 1 j.toNat:Int)) hi0 (by omega) hV (by rw[aYs (by omega),(kR s).countP_eq];rfl))⟩,by omega,(G5 Z Z Z Z Z),fun _ h=>h⟩
 ·refine aZ<|wq<|wm Z<|wn Z<|aT [0] 99 (by decide) Z ?_
  refine⟨_,Z,?_⟩
  obtain rfl:V=rkL s 1:=aYv hVl (fun j h1 h2=>hV j h1 (by omega))
  exact⟨_,_,Z,Z⟩
set_option maxHeartbeats 400000 in
theorem YR {h:Int} (h_s:Rd w A_s n_s c_s 1 (ints .i64 s)) (h0:0≤h) (hN:s.length≤100000):
  Ct Tryz.prog 268 #[.slice A_s n_s c_s,I h] w.heap.size w [] (fun v R'=> ∃A c,v= .slice A (s.length) c∧R'=[(ri 3 A s.length c (rkL s h.toNat))]):=by
 obtain rfl:=h_s.lenI
 refine fn1 Tryz.func268 Z Z Z ?_
 have m_s:=h_s.max
 refine wq<|wn Z<|aG<|wq<|wm Z<|wL Z Z<|wm Z<|dS 4 [(0, .slice A_s s.length c_s),(1,I h),(14, .bool (decide ((h<0)∨(100000<((s.length:Nat):Int)))))] [] ?_ ?_
 ·refine dC 10 Z (fun hc1=> ?_) (fun hc1=> ?_)
  ·refine aP Z Z Z Z<|aP Z Z Z Z<|aP Z Z Z Z<|wy (bA Z Z)<|aA ?_
   exact⟨(sc Z (sc Z (Sub.to Z mtA Sub.nil))),fun _ h=>h⟩
  ·refine aC Z Z<|wm Z<|aC Z Z<|wy (aQ underlying52 Z)<|aC Z Z<|wy (dV Z Z)<|wy (aS Z Z)<|aA ?_
   exact⟨(sc Z (sc Z (Sub.to Z mbA Sub.nil))),fun _ h=>h⟩
 refine uX 14 Z (by omega)<|aA<|aL Z<|aK<|wq<|wm Z<|wy (aQ underlying52 Z)<|wa (dE underlying52 zb3 Z Z) ?_
 rintro _ _ ⟨g_2,rfl,rfl⟩
 refine bN (v:= .slice (GG g_2) s.length s.length) Z<|wn Z<|aG<|wq<|wm Z<|wy (bC Z Z)<|aA<|bM Z (fun hc2=> ?_) (fun hc2=> ?_)
 ·refine wq<|wm Z<|wn Z<|aT [0] 99 (by decide) Z ?_
  refine⟨_,Z,?_⟩
  have e:h.toNat=0:=by omega
  rw[e,aLq]
  exact⟨_,_,Z,Z⟩
 ·refine aK<|wq<|wm Z<|wa (aF bCx Z (Ct.fresh (fun w hw=>aGm ((h_s.c _) w hw) (by first|assumption|omega|decide)))) ?_
  rintro _ _ ⟨_,rfl,A_4,c_5,rfl,rfl⟩
  refine wn Z<|wq<|wm Z<|wm Z<|wy (aQ underlying52 Z)<|wy (vQ Z Z)<|wn Z<|aG<|wq<|wn Z ?_
  refine aI ?_
  refine DX (fun(n:Int) (A1:Option Addr) (c1:Nat) (L:List Int)=>[(1,I (min h ((s.length:Nat):Int))),(5, .slice A1 s.length c1),(6,I n)]) (fun n A1 c1 L=>[(ri 3 A1 s.length c1 L),(ri 3 (GG g_2) s.length s.length (List.replicate s.length (0:Int)))]) (fun n A1 c1 L=>(1≤n)∧(n=1∨n≤min h (s.length:Int))∧(L=rkL s n.toNat)) (fun n A1 c1 L=>(min h (s.length:Int)-n).toNat) ?_ ?_
  ·exact⟨1,A_4,c_5,rkL s 1,⟨by omega,by omega,(Z)⟩,(G3 Z Z Z),fun _ h=>h⟩
  intro n A1 c1 L ⟨hn1,hn2,hL⟩
  refine aG<|wq<|wm Z<|wm Z<|wL Z Z<|aA<|bM Z (fun hc3=> ?_) (fun hc3=> ?_)
  ·refine aK<|aI<|wq<|wm Z<|wm Z<|wm Z<|wS Z Z<|wy (vQ Z Z)<|wn Z<|wq<|wm Z<|wm Z ?_
   refine wa (aF bCw Z (Ct.fresh (fun w hw=>aHk (s:=s) (n:=n.toNat) (b:=(min n (min h (s.length:Int)-n)).toNat) ((rdr 0 Z) w hw) hL (by omega) (by omega) (by omega) ⟨hN,by omega⟩))) ?_
   rintro _ _ ⟨_,rfl,A_8,c_9,A_10,c_11,rfl,rfl⟩
   refine wm Z<|wX Z Z<|wX Z Z<|wn Z<|aM<|wm Z<|wm Z<|wA Z Z<|wn Z ?_
   exact⟨n+(min n ((min h ((s.length:Nat):Int))-n)),A_8,c_9,rkL s (n.toNat+(min n (min h (s.length:Int)-n)).toNat),⟨by omega,by omega,(by congr 1;omega)⟩,by omega,(G3 Z Z Z),fun _ h=>h.sel [0,3] (by decide) Z⟩
  ·refine aZ<|wq<|wm Z<|wn Z<|aT [0] 99 (by decide) Z ?_
   refine⟨_,Z,?_⟩
   have e:rkL s n.toNat=rkL s h.toNat:=by
    rcases Nat.eq_zero_or_pos s.length with z|z
    ·exact aLr z _ _
    ·rcases Int.lt_or_le h s.length with a|a
     ·rw[show n.toNat=h.toNat by omega]
     ·rw[aYu (h:=h.toNat) (by omega),show n.toNat=s.length by omega]
   rw[hL,e]
   exact⟨_,_,Z,Z⟩
theorem aHp {s:List Int} {k:Int} (h_s:Rd w A_s n_s c_s 1 (ints .i64 s)) (hok:(0≤k∧k≤1048576)∧ ∀x∈s,0≤x∧x<k) (hN:s.length≤100000):
  Ct Tryz.prog 221 #[.slice A_s n_s c_s,I k] w.heap.size w [] (fun v R'=> ∃(out:List Int) (A:Option Addr) (c:Nat),v= .tuple #[.slice A s.length c,I 0]∧out.length=s.length∧(∀q:Nat,q<s.length→rd out (rkS s s.length q)=q)∧R'=[(ri 3 A s.length c out)]):=by
 obtain rfl:=h_s.lenI
 refine fn2 Tryz.func221 Z Z Z ?_
 have m_s:=h_s.max
 refine wq<|wg Z<|wn Z<|aG<|wq<|wm Z<|wy (aQ underlying52 Z)<|wy (Yl.f (dV Z Z))<|aA<|aL Z<|aK<|aG ?_
 refine wq<|wm Z<|wm Z<|wa (aF VH Z (Ct.fresh (fun w hw=>nI ((h_s.c _) w hw) (by first|assumption|omega|decide)))) ?_
 rintro _ _ ⟨_,rfl,A_1,c_2,rfl,rfl⟩
 refine wm Z<|wX Z Z<|wX Z Z<|wg Z<|wn Z<|wq<|wm Z<|wy (dI Z)<|aA<|aL Z<|aK<|wq ?_
 refine wm Z<|wy (aQ underlying52 Z)<|wa (dE underlying52 zb3 Z Z) ?_
 rintro _ _ ⟨g_4,rfl,rfl⟩
 refine bN (v:= .slice (GG g_4) s.length s.length) Z<|wn Z<|aG<|wq<|wm Z<|wm Z<|wy (aQ underlying52 Z)<|wa (aF bDk Z (Ct.fresh (fun w hw=>YR ((h_s.c _) w hw) (by omega) (by first|assumption|omega|decide)))) ?_
 rintro _ _ ⟨_,rfl,A_5,c_6,rfl,rfl⟩
 refine wy (aQ underlying52 Z)<|wm Z<|aA<|aI ?_
 refine dR (fun(i:Int) (V:List Int)=>[(8, .slice (GG g_4) s.length s.length),(28, .slice A_5 ((s).length) c_6),(29,I (((s).length:Nat):Int)),(30,I i)]) (fun i V=>[(ri 3 A_5 ((s).length) c_6 (rkL s (((s.length:Nat):Int)).toNat)),(ri 3 (GG g_4) s.length s.length V),(ri 3 A_1 ((k).toNat) c_2 (dQ s k))]) (fun i V=>(0≤i)∧(i≤s.length)∧(V.length=s.length)∧(∀q:Nat,(q:Int)<i→rd V (rkS s s.length q)=q)) (fun i V=>(s.length-i).toNat) ?_ ?_
 ·exact⟨0,List.replicate s.length (0:Int),⟨by omega,by omega,(by rw[List.length_replicate]),(fun q h=>by omega)⟩,(G4 rfl rfl rfl rfl),fun _ h=>h⟩
 intro i V ⟨hi0,hi1,hVl,hV⟩
 refine wq<|wL Z Z<|aA<|aG<|bM Z (fun hc1=> ?_) (fun hc1=> ?_)
 ·have hr:rd (rkL s ((s.length:Nat):Int).toNat) i=(rkS s s.length i.toNat:Int):=by rw[Int.toNat_natCast];exact pF hi0 (by omega)
  have ht:=yB (s:=s) (h:=s.length) (i:=i.toNat) (by omega)
  refine aK<|aG<|aI<|wq<|wm Z<|wy (aH underlying52 sz3 Z Z (rdr 0 Z))<|wy (aX underlying3 Z Z (rdr 0 Z))<|wg Z<|wn Z<|aM<|wm Z<|wm Z<|wm Z ?_
  refine wy (aH underlying52 sz3 Z Z (rdr 1 Z) (by rw[hr];omega) (by rw[hr];omega)) ?_
  refine bY (bG 1 Z sz3 Z Z (by rw[hr];omega) (by rw[hr];omega)) ?_
  rintro _ _ rfl
  refine aA<|aM<|wA Z Z<|wm Z<|aA ?_
  exact⟨i+1,upd V (rd (rkL s (((s.length:Nat):Int)).toNat) i) i,⟨by omega,by omega,(by rw[aV];exact hVl),(fun q h=>by
    rw[hr]
    have:=TH (m:=i.toNat) (by omega) hVl (fun q h=>hV q (by omega)) q (by omega)
    rwa[show((i.toNat:Nat):Int)=i by omega] at this)⟩,by omega,(G4 rfl rfl rfl rfl),fun _ h=>h⟩
 ·refine aZ<|wq<|wm Z<|wg Z<|wn Z<|aT [1] 99 (by decide) Z ?_
  refine⟨_,_,Z,Z,?_⟩
  exact⟨V,_,_,Z,hVl,fun q h=>hV q (by omega),Z⟩
theorem aAz {A_u:Option Addr} {n_u c_u:Nat} {u:List Int} (h_u:Rd w A_u n_u c_u 1 (ints .u8 u)) (bh_u:aO u) (hN:u.length≤100000):
  Ct Tryz.prog 148 #[.slice A_u n_u c_u] w.heap.size w [] (fun v R'=> ∃(out:List Int) (A:Option Addr) (c:Nat),v= .tuple #[.slice A u.length c,I 0]∧out.length=u.length∧(∀q:Nat,q<u.length→rd out (rkS u u.length q)=q)∧R'=[(ri 3 A u.length c out)]):=by
 obtain rfl:=h_u.lenI
 refine fn2 Tryz.func148 Z Z Z ?_
 have m_u:=h_u.max
 refine wq<|wg Z<|wn Z<|aG<|wq<|wm Z<|wy (aQ underlying22 Z)<|wy (Yl.f (dV Z Z))<|aA<|aL Z<|aK<|aG ?_
 refine aM<|wm Z<|wy (aQ underlying22 Z)<|wa (dE underlying52 zb3 Z Z) ?_
 rintro _ _ ⟨g_1,rfl,rfl⟩
 refine bN (v:= .slice (GG g_1) u.length u.length) Z<|wn Z<|aG<|wq<|wm Z<|wy (aQ underlying22 Z)<|wm Z<|aA<|aI ?_
 refine dR (fun(i:Int) (V:List Int)=>[(4, .slice (GG g_1) u.length u.length),(13, .slice A_u u.length c_u),(14,I ((u.length:Nat):Int)),(15,I i)]) (fun i V=>[(ri 3 (GG g_1) u.length u.length V)]) (fun i V=>(0≤i)∧(i≤u.length)∧(V.length=u.length)∧(∀j:Int,0≤j→j<i→rd V j=rd u j)) (fun i V=>(u.length-i).toNat) ?_ ?_
 ·exact⟨0,List.replicate u.length (0:Int),⟨by omega,by omega,(by rw[List.length_replicate]),(fun j h1 h2=>by omega)⟩,(G4 rfl rfl rfl rfl),fun _ h=>h⟩
 intro i V ⟨hi0,hi1,hVl,hV⟩
 refine wq<|wL Z Z<|aA<|aG<|bM Z (fun hc1=> ?_) (fun hc1=> ?_)
 ·have hbi:=bh_u.rd i
  refine aK<|aG<|aI<|wq<|wm Z<|wy (aH underlying22 sz5 Z Z (h_u.c _))<|wy (aX underlying5 Z Z (h_u.c _))<|wg Z<|wn Z<|aM<|wm Z<|wm Z<|wm Z ?_
  refine wy (iV underlying5 underlying3 Z)<|wy (aH underlying52 sz3 Z Z (rdr 0 Z))<|bY (bG 0 Z sz3 Z Z) ?_
  rintro _ _ rfl
  refine aA<|aM<|wA Z Z<|wm Z<|aA ?_
  exact⟨i+1,upd V i (rd u i),⟨by omega,by omega,(by rw[aV];exact hVl),(eH (f:=fun j=>rd u j) hi0 (by omega) hV Z)⟩,by omega,(G4 Z Z Z Z),fun _ h=>h⟩
 ·have hVu:V=u:=bI hVl (fun j h1 h2=>hV j h1 (by omega))
  refine aZ<|wq<|wm Z<|wa (aF bDt Z (Ct.fresh (fun w hw=>aHp ((rdr 0 Z) w hw) ⟨by omega,fun x hx=>by rw[hVu] at hx;have:=bh_u x hx;omega⟩ (by omega)))) ?_
  rintro _ _ ⟨_,rfl,o1,A_2,c_3,rfl,hl_o1,hq_o1,rfl⟩
  refine wX Z Z<|wX Z Z<|wg Z<|wn Z<|aT [0] 99 (by decide) Z ?_
  refine⟨_,_,Z,Z,?_⟩
  subst hVu
  exact⟨o1,_,_,Z,hl_o1,hq_o1,Z⟩
end Go.Proofs.YtdbebmmhdefgdaaGreat
namespace Go.Proofs
open Go.Shelf
def Tryz.lays212_ren:Go.Shelf.Ren:=⟨fun|212=>122|263=>195|264=>196|n=>n,fun|46=>167|51=>123|146=>243|53=>112|148=>245|n=>n,fun|n=>n⟩
theorem Tryz.lays212:Go.Proofs.Lays.n212 Tryz.prog Tryz.lays212_ren:= {
 mixed:=by kernel_rfl
 f212:=Tryz.func122.trans (congrArg some (by kernel_rfl))
 f263:=Tryz.func195.trans (congrArg some (by kernel_rfl))
 f264:=Tryz.func196.trans (congrArg some (by kernel_rfl))
 t46:=Tryz.underlying167
 a46:=Tryz.isAgg167
 z46:=Tryz.sizeOf167
 v46:=Tryz.zeroValue167
 t51:=Tryz.underlying123
 a51:=Tryz.isAgg123
 z51:=Tryz.sizeOf123
 v51:=Tryz.zeroValue123
 t53:=Tryz.underlying112
 a53:=Tryz.isAgg112
 z53:=Tryz.sizeOf112
 v53:=Tryz.zeroValue112
 t146:=Tryz.underlying243
 a146:=Tryz.isAgg243
 z146:=Tryz.sizeOf243
 v146:=Tryz.zeroValue243
 t148:=Tryz.underlying245
 a148:=Tryz.isAgg245
 z148:=Tryz.sizeOf245
 v148:=Tryz.zeroValue245}
open Go.RowKit Go.Lib in
theorem Tryz.bits_Mul (x y:Nat) (hx:x<18446744073709551616) (hy:y<18446744073709551616) (w:World):
  Calls Tryz.prog 122 #[.int .u64 x, .int .u64 y] w fun e w'=>e= .returned (.tuple #[.int .u64 ((x*y/18446744073709551616:Nat):Int), .int .u64 ((x*y%18446744073709551616:Nat):Int)])∧w'=w:=Any.bits_Mul Tryz.lays212 x y hx hy w
end Go.Proofs
namespace Go.Proofs.YtdbebmmhdefgdaaGreat
open Go Go.Eng Go.Pure
open Tryz
set_option maxRecDepth 100000
variable {w:World} {p val i:Int} {N n_s c_s:Nat} {A_s:Option Addr} {s:List Int}
theorem NM {A_l:Option Addr} {n_l c_l:Nat} {l:List Int} {A_m:Option Addr} {n_m c_m:Nat} {m:List Int} (h_l:Rd w A_l n_l c_l 1 (ints .i64 l)) (h_m:Rd w A_m n_m c_m 1 (ints .i64 m)) (hN:l.length≤1000000):
  Ct Tryz.prog 87 #[.slice A_l n_l c_l, .slice A_m n_m c_m] w.heap.size w [] (fun v R'=>v= .bool (decide (l=m))):=by
 obtain rfl:=h_l.lenI
 obtain rfl:=h_m.lenI
 refine fn1 Tryz.func87 Z Z Z ?_
 have m_l:=h_l.max
 have m_m:=h_m.max
 refine wq<|wn Z<|aG<|wq<|wm Z<|wy (aQ underlying52 Z)<|wm Z<|wy (aQ underlying52 Z)<|wy (jA Z Z)<|aA<|bM Z (fun hc1=> ?_) (fun hc1=> ?_)
 ·refine wq<|wn Z<|dJ ?_
  refine⟨_,Z,?_⟩
  exact congrArg Value.bool (decide_eq_false (fun e=>by rw[e] at hc1;exact hc1 rfl)).symm
 ·refine aK<|aG<|wq<|wm Z<|wy (aQ underlying52 Z)<|wm Z<|aA<|aI ?_
  refine rT (fun(k:Int)=>[(0, .slice A_l l.length c_l),(1, .slice A_m m.length c_m),(12,I ((l.length:Nat):Int)),(13,I k)]) (fun k=>[]) (fun k=>(0≤k)∧(k≤l.length)∧(l.take k.toNat=m.take k.toNat)) (fun k=>(l.length-k).toNat) ?_ ?_
  ·exact⟨0,⟨by omega,by omega,(Z)⟩,(G4 Z Z Z Z),fun _ h=>h⟩
  intro k ⟨hk0,hk1,hq⟩
  refine wq<|wL Z Z<|aA<|aG<|bM Z (fun hc2=> ?_) (fun hc2=> ?_)
  ·refine aK<|aG<|aI<|wq<|wm Z<|wn Z<|aG<|bT mixed<|wD 0 Z (aN Z)<|wD 1 Z (aN Z)<|wD 2 Z (aH underlying52 sz3 Z Z (h_l.c _))<|wD 3 Z (aX underlying3 Z Z (h_l.c _))<|wD 4 Z (aN Z) ?_
   refine wD 5 Z (aN Z)<|wD 6 Z (aH underlying52 sz3 Z Z (h_m.c _))<|wD 7 Z (aX underlying3 Z Z (h_m.c _))<|wD 8 Z (jA Z Z)<|wN<|bM Z (fun hc3=> ?_) (fun hc3=> ?_)
   ·refine wq<|wn Z<|dJ ?_
    refine⟨_,Z,?_⟩
    exact congrArg Value.bool (decide_eq_false (fun e=>by subst e;exact hc3 rfl)).symm
   ·refine aK<|aM<|wA Z Z<|wm Z<|aA ?_
    exact⟨k+1,⟨by omega,by omega,(by rw[dD hk0 (by omega),dD hk0 (by omega),hq];exact congrArg (fun z=>List.take k.toNat m++[z]) (Decidable.not_not.1 (by assumption)))⟩,by omega,(G4 Z Z Z Z),fun _ h=>h⟩
  ·refine aZ<|wq<|wn Z<|dJ ?_
   refine⟨_,Z,?_⟩
   exact congrArg Value.bool (decide_eq_true (by rw[List.take_of_length_le (by omega),List.take_of_length_le (by omega)] at hq;exact hq)).symm
theorem aZo {B:Nat} {w0:World} {R:List Row} (N:Nat) (h:N≤1000000):Ct Tryz.prog 122 #[.int .u64 1, .int .u64 ((N:Nat):Int)] B w0 R (fun v R'=>v= .tuple #[.int .u64 0, .int .u64 ((N:Nat):Int)]∧R'=R):=by
 intro w hw
 have hc:=Tryz.bits_Mul 1 N (by omega) (by omega) w
 rw[Nat.one_mul,Nat.div_eq_of_lt (by omega),Nat.mod_eq_of_lt (by omega)] at hc
 refine hc.mono ?_
 rintro e w' ⟨rfl,rfl⟩
 exact⟨_,R,Z,hw,Z,Z⟩
theorem aFe (h:0≤p∧p≤18446744073709551615):IntKind.u64.wrap p=p:=by rw[IntKind.wrap_u64];omega
theorem aMa {D:List Int} (p1:1≤p) (hp:p≤N) (hD:D=yF val p.toNat N):
  List.take p.toNat D++List.take (min p.toNat (N-p.toNat)) (List.take p.toNat D)++List.drop (p.toNat+min p.toNat (N-p.toNat)) D=yF val (p+((min p.toNat (N-p.toNat):Nat):Int)).toNat N:=by
 subst hD
 rw[show(p+((min p.toNat (N-p.toNat):Nat):Int)).toNat=p.toNat+min p.toNat (N-p.toNat) by omega]
 refine MO (by omega) ?_
 rw[MN,List.take_replicate]
 congr 1
 omega
theorem aMc (h:1≤N):List.take 0 (List.replicate N (0:Int))++List.take (min ([val].length) (N-0)) [val]++List.drop (0+min ([val].length) (N-0)) (List.replicate N (0:Int))=yF val (((min ([val].length) (N-0):Nat):Int)).toNat N:=by
 have e:min ([val].length) (N-0)=1:=by simp;omega
 rw[e,←aGi val N]
 exact MO (p:=0) (q:=1) (by omega) Z
set_option maxHeartbeats 800000 in
theorem YM {A_x:Option Addr} {n_x c_x:Nat} {x:List Int} {cn:Int} (h_x:Rd w A_x n_x c_x 1 (ints .i64 x)) (hx:x=[val]) (hcn:cn=((N:Nat):Int)) (hN:1≤N∧N≤1000000):
  Ct Tryz.prog 316 #[.slice A_x n_x c_x,I cn] w.heap.size w [] (fun v R'=> ∃A c,v= .slice A N c∧R'=[(ri 3 A N c (List.replicate N val))]):=by
 obtain rfl:=h_x.lenI
 refine fn1 Tryz.func316 Z Z Z ?_
 have m_x:=h_x.max
 refine wq<|wn Z<|aG<|wq<|wm Z<|wy (Yl.f (eP Z Z))<|aA<|aL Z<|aK<|wq<|wm Z ?_
 refine wy (aQ underlying52 Z)<|wy (Yl.is (oO underlying3 underlying167 Z) (by rw[hx])) ?_
 refine wm Z<|wy (Yl.is (oO underlying3 underlying167 Z) (by rw[aFe (by omega),hcn])) ?_
 refine wa (aF aXv Z (aZo N hN.2)) ?_
 rintro _ _ ⟨rfl,rfl⟩
 refine wm Z<|wX Z Z<|wX Z Z<|wg Z<|wn Z<|aG<|wq<|wm Z<|wy (Yl.f (dV Z Z))<|wm Z<|aC Z Z<|wm Z<|aC Z Z ?_
 refine wy (Yl.f (dV Z Z))<|wy (aS Z Z)<|aA<|aL Z<|aK<|wq<|wm Z<|wy (iV underlying167 underlying3 Z)<|wa (dE underlying52 zb3 Z Z) ?_
 rintro _ _ ⟨g_1,rfl,rfl⟩
 refine bN (v:= .slice (GG g_1) N N) Z<|wn Z<|wq<|wm Z<|wm Z<|wa (QP (lo:=0) 0 Z underlying52 sz3 Z Z aQk Z (by omega) (h_x.c _)) ?_
 rintro _ _ ⟨rfl,rfl⟩
 refine wn Z<|aG<|aI ?_
 refine dR (fun(p:Int) (D:List Int)=>[(7, .slice (GG g_1) N N),(8,I p)]) (fun p D=>[(ri 3 (GG g_1) N N D)]) (fun p D=>(1≤p)∧(p≤N)∧(D=yF val p.toNat N)) (fun p D=>(N-p).toNat) ?_ ?_
 ·exact⟨((min x.length (N-0):Nat):Int),List.take 0 (List.replicate N (0:Int))++List.take (min x.length (N-0)) x++List.drop (0+min x.length (N-0)) (List.replicate N (0:Int)),⟨(by subst hx;simp;omega),by omega,(by subst hx;exact aMc hN.1)⟩,(G2 Z Z),fun _ h=>h⟩
 intro p D ⟨hp0,hp1,hD⟩
 refine aG<|wq<|wm Z<|wm Z<|wy (aQ underlying52 Z)<|wL Z Z<|aA<|bM Z (fun hc1=> ?_) (fun hc1=> ?_)
 ·refine aK<|aI<|bT mixed<|wD 0 Z (aN Z)<|wD 1 Z (aN Z)<|wD 2 Z (aN Z)<|wD 3 Z (iP underlying52 sz3 Z Z)<|wD 4 Z (aN Z)<|wD 5 Z (aN Z)<|wD 6 Z (gD underlying52 sz3 Z Z (rdr 0 Z))<|wC 7 Z (QP (lo:=p.toNat) 0 Z underlying52 sz3 Z Z Z Z (by omega) (RdC.toI (h:=(p).toNat) (rdr 0 Z) (by first|omega|(dsimp only;omega)))) ?_
  rintro _ _ ⟨rfl,rfl⟩
  refine⟨.inl (by kernel_rfl),?_⟩
  refine wD 8 Z (dF Z Z)<|wD 9 Z (bQ Z)<|wN ?_
  exact⟨p+((min ((p).toNat) (N-p.toNat):Nat):Int),List.take p.toNat D++List.take (min ((p).toNat) (N-p.toNat)) ((D).take (p).toNat)++List.drop (p.toNat+min ((p).toNat) (N-p.toNat)) D,⟨by omega,by omega,(aMa hp0 hp1 hD)⟩,by omega,(G2 Z Z),fun _ h=>h⟩
 ·refine aZ<|wq<|wm Z<|wn Z<|aT [0] 99 (by decide) Z ?_
  refine⟨_,Z,?_⟩
  obtain rfl:D=List.replicate N val:=by rw[hD,show p.toNat=N by omega];exact aLz _ _
  exact⟨_,_,Z,Z⟩
set_option maxHeartbeats 600000 in
theorem SL (h_s:Rd w A_s n_s c_s 1 (ints .i64 s)) (hN:s.length≤1000000):
  Ct Tryz.prog 313 #[.slice A_s n_s c_s] w.heap.size w [] (fun v R'=> ∃A c,v= .slice A s.length c∧R'=[⟨4,1,A,s.length,c,bools (smL s),false⟩]):=by
 obtain rfl:=h_s.lenI
 refine fn1 Tryz.func313 Z Z Z ?_
 have m_s:=h_s.max
 refine wq<|wn Z<|wq<|wm Z<|wy (aQ underlying52 Z)<|wa (QN underlying269 zb4 Z Z (by omega) (by omega) (by omega)) ?_
 rintro _ _ ⟨g_1,rfl,rfl⟩
 refine bN (v:= .slice (GG g_1) s.length s.length) Z<|wn Z<|aG<|wq<|wm Z<|wy (aQ underlying52 Z)<|wS Z Z<|wn Z<|aI ?_
 refine dR (fun(i:Int) (m:List Bool)=>[(0, .slice A_s s.length c_s),(3, .slice (GG g_1) s.length s.length),(4,I i)]) (fun i m=>[⟨4,1,(GG g_1),s.length,s.length,bools m,false⟩]) (fun i m=>(-2≤i)∧(i+2≤s.length)∧(m.length=s.length)∧(∀j:Int,0≤j→i<j→j<s.length→rdb m j=smB s j)) (fun i m=>(i+1).toNat) ?_ ?_
 ·exact⟨((s.length:Nat):Int)-2,List.replicate s.length false,⟨by omega,by omega,(by rw[List.length_replicate]),(fun j h0 h1 h2=>by rw[EF,oW h0 (by omega)])⟩,(G3 rfl rfl rfl),fun _ h=>h⟩
 intro i m ⟨hi0,hi1,hl,hM⟩
 refine aG<|wq<|wm Z<|wy (jG Z Z)<|aA<|bM Z (fun hc1=> ?_) (fun hc1=> ?_)
 ·refine aK<|aG<|aI<|bT mixed<|wD 0 Z (aN Z)<|wD 1 Z (aN Z)<|wD 2 Z (aN Z)<|wD 3 Z (aN Z)<|wD 4 Z (aH underlying52 sz3 Z Z (h_s.c _))<|wD 5 Z (aX underlying3 Z Z (h_s.c _))<|wD 6 Z (aN Z)<|wD 7 Z (aN Z)<|wD 8 Z (dF Z Z)<|wD 9 Z (aH underlying52 sz3 Z Z (h_s.c _))<|wD 10 Z (aX underlying3 Z Z (h_s.c _)) ?_
  refine wD 11 Z (eP Z Z)<|wD 12 Z (aN Z)<|pX 27 Z (fun hc2=> ?_) (fun hc2=> ?_)
  ·refine wO 13 Z Z Z<|wO 14 Z Z Z<|wO 15 Z Z Z<|wO 16 Z Z Z<|wO 17 Z Z Z<|wO 18 Z Z Z<|wO 19 Z Z Z<|wO 20 Z Z Z<|wO 21 Z Z Z<|wO 22 Z Z Z<|wO 23 Z Z Z<|ET 24 Z (by kernel_rfl) Z Z Z<|ET 25 Z (by kernel_rfl) Z Z Z<|ET 26 Z (by kernel_rfl) Z Z Z<|ET 27 Z (by kernel_rfl) Z Z Z ?_
   refine ET 28 Z (by kernel_rfl) Z Z Z<|wO 29 Z Z Z<|wD 30 Z (bA Z Z)<|wD 31 Z (aH underlying269 sz4 Z Z (rdr 0 Z))<|pR 32 Z (by kernel_rfl) (uP 0 Z sz4 Z Z) ?_
   rintro _ _ rfl
   refine⟨.inl (by kernel_rfl),?_⟩
   refine wN<|aM<|wm Z<|wS Z Z<|wn Z ?_
   exact⟨i-1,oQ m i true,⟨by omega,by omega,(by rw[kG];exact hl),(fun j h0 h1 h2=>OV (by omega) (by omega) hl (fun j a b=>hM j (by omega) a b) (⟨fun _=> .inl (by omega),fun _=>Z⟩) j (by omega) h2)⟩,by omega,(G3 Z Z Z),fun _ h=>h⟩
  ·refine wG 13 Z Z Z (aN Z)<|wG 14 Z Z Z (aN Z)<|wG 15 Z Z Z (aH underlying52 sz3 Z Z (h_s.c _))<|wG 16 Z Z Z (aX underlying3 Z Z (h_s.c _))<|wG 17 Z Z Z (aN Z)<|wG 18 Z Z Z (aN Z)<|wG 19 Z Z Z (dF Z Z)<|wG 20 Z Z Z (aH underlying52 sz3 Z Z (h_s.c _))<|wG 21 Z Z Z (aX underlying3 Z Z (h_s.c _))<|wG 22 Z Z Z (bC Z Z)<|wG 23 Z Z Z (aN Z)<|pX 38 Z (fun hc3=> ?_) (fun hc3=> ?_)
   ·refine wG 24 Z Z Z (aN Z)<|wG 25 Z Z Z (aN Z)<|wG 26 Z Z Z (dF Z Z)<|wG 27 Z Z Z (aH underlying269 sz4 Z Z (rdr 0 Z))<|wG 28 Z Z Z (BV underlying4 Z Z (rdr 0 Z))<|wG 29 Z Z Z (bA Z Z)<|wD 30 Z (aS Z Z)<|wD 31 Z (aH underlying269 sz4 Z Z (rdr 0 Z))<|pR 32 Z (by kernel_rfl) (uP 0 Z sz4 Z Z) ?_
    rintro _ _ rfl
    refine⟨.inl (by kernel_rfl),?_⟩
    refine wN<|aM<|wm Z<|wS Z Z<|wn Z ?_
    exact⟨i-1,oQ m i (decide (rdb m (i+1)=true)),⟨by omega,by omega,(by rw[kG];exact hl),(fun j h0 h1 h2=>OV (by omega) (by omega) hl (fun j a b=>hM j (by omega) a b) (by rw[decide_eq_true_iff];exact⟨fun h=> .inr ⟨by omega,h⟩,fun h=>(h.resolve_left (by omega)).2⟩) j (by omega) h2)⟩,by omega,(G3 Z Z Z),fun _ h=>h⟩
   ·refine wO 24 Z Z Z<|wO 25 Z Z Z<|wO 26 Z Z Z<|wO 27 Z Z Z<|wO 28 Z Z Z<|wG 29 Z Z Z (aS Z Z)<|wD 30 Z (aS Z Z)<|wD 31 Z (aH underlying269 sz4 Z Z (rdr 0 Z))<|pR 32 Z (by kernel_rfl) (uP 0 Z sz4 Z Z) ?_
    rintro _ _ rfl
    refine⟨.inl (by kernel_rfl),?_⟩
    refine wN<|aM<|wm Z<|wS Z Z<|wn Z ?_
    exact⟨i-1,oQ m i false,⟨by omega,by omega,(by rw[kG];exact hl),(fun j h0 h1 h2=>OV (by omega) (by omega) hl (fun j a b=>hM j (by omega) a b) (⟨fun h=>(by cases h),fun h=>absurd h (by omega)⟩) j (by omega) h2)⟩,by omega,(G3 Z Z Z),fun _ h=>h⟩
 ·refine aZ<|wq<|wm Z<|wn Z<|aT [0] 99 (by decide) Z ?_
  refine⟨_,Z,?_⟩
  obtain rfl:m=smL s:=aYq hl fun j h0 h1=>hM j h0 (by omega) h1
  exact⟨_,_,Z,Z⟩
theorem aUw (h0:0≤i) (hi:i<s.length) (h1:0<i) (h2:rdb (smL s) i=true) (h3: ¬rdb (smL s) (i-1)=true):fG s i=true:=by
 rw[lQ h0 hi] at h2
 rw[lQ (by omega) (by omega)] at h3
 exact lX.2 ⟨h1,h2,by simpa using h3⟩
theorem aZx (h0:0≤i) (hi:i<s.length) (h: ¬(0<i∧rdb (smL s) i=true∧ ¬rdb (smL s) (i-1)=true)): ¬fG s i=true:=fun e=>by
 obtain⟨h1,h2,h3⟩:=lX.1 e
 exact h ⟨h1,by rw[lQ h0 hi];exact h2,by rw[lQ (by omega) (by omega),h3];simp⟩
theorem aOs (s:List Int):IM s 1=[]:=by
 show IM s (0+1)=[]
 rw[BI (by omega),if_neg (fun h=>by have:=(lX.1 h).1;omega)]
 rfl
theorem aOt (h:i=s.length∨i=1∧s.length=0):IM s i=bL s:=by
 rcases h with rfl|⟨rfl,h⟩
 ·exact IL
 ·rw[aOs,←IL,h];rfl
theorem UT (h_s:Rd w A_s n_s c_s 1 (ints .i64 s)) (hN:s.length≤1000000):
  Ct Tryz.prog 290 #[.slice A_s n_s c_s] w.heap.size w [] (fun v R'=> ∃A c,v= .slice A (bL s).length c∧R'=[(ri 3 A ((bL s).length) c (bL s))]):=by
 obtain rfl:=h_s.lenI
 refine fn1 Tryz.func290 Z Z Z ?_
 have m_s:=h_s.max
 refine wq<|wn Z<|wq<|dH (R1:=[(ri 3 none 0 0 ([]))]) (Sub.refl _) (fun _ h=>h.nil 3 1)<|wn Z<|wq<|wm Z<|wa (aF aXe Z (Ct.fresh (fun w hw=>SL ((h_s.c _) w hw) (by first|assumption|omega|decide)))) ?_
 rintro _ _ ⟨_,rfl,A_1,c_2,rfl,rfl⟩
 refine wn Z<|aG<|wq<|wm Z<|wy (aQ underlying52 Z)<|wm Z<|aA<|aI ?_
 refine jP (fun(A1:Option Addr) (n1:Nat) (c1:Nat) (acc:List Int) (i:Int)=>[(3, .slice A1 n1 c1),(4, .slice A_1 s.length c_2),(9,I ((s.length:Nat):Int)),(10,I i)]) (fun A1 n1 c1 acc i=>[⟨4,1,A_1,s.length,c_2,bools (smL s),false⟩,(ri 3 A1 n1 c1 acc)]) (fun A1 n1 c1 acc i=>(n1=acc.length)∧(0≤i)∧(i≤s.length)∧(acc=IM s i)) (fun A1 n1 c1 acc i=>(s.length-i).toNat) ?_ ?_
 ·exact⟨none,0,0,[],0,⟨(Z),by omega,by omega,(Z)⟩,(G4 Z Z Z Z),fun _ h=>h⟩
 intro A1 n1 c1 acc i ⟨hn1,hi0,hi1,hacc⟩
 refine wq<|wL Z Z<|aA<|aG<|bM Z (fun hc1=> ?_) (fun hc1=> ?_)
 ·refine aK<|aG<|aI<|wq<|wm Z<|wn Z<|wq<|wm Z<|wy (dV Z Z)<|wm Z<|dS 5 [(3, .slice A1 n1 c1),(4, .slice A_1 s.length c_2),(5,I i),(9,I ((s.length:Nat):Int)),(10,I i),(20, .bool (decide ((0<i)∧(rdb (smL s) i=true))))] [⟨4,1,A_1,s.length,c_2,bools (smL s),false⟩,(ri 3 A1 n1 c1 acc)] ?_ ?_
  ·refine dC 15 Z (fun hc2=> ?_) (fun hc2=> ?_)
   ·refine aC Z Z<|wm Z<|aC Z Z<|wm Z<|aC Z Z<|wy (aH underlying269 sz4 Z Z (rdr 0 Z))<|aC Z Z<|wy (BV underlying4 Z Z (rdr 0 Z))<|wy (bA Z Z)<|aA ?_
    exact⟨(sc Z (sc Z (sc Z (sc Z (sc Z (Sub.to Z mbA Sub.nil)))))),fun _ h=>h⟩
   ·refine aP Z Z Z Z<|aP Z Z Z Z<|aP Z Z Z Z<|aP Z Z Z Z<|wy (aS Z Z)<|aA ?_
    exact⟨(sc Z (sc Z (sc Z (sc Z (sc Z (Sub.to Z mfA Sub.nil)))))),fun _ h=>h⟩
  refine wm Z<|dS 7 [(3, .slice A1 n1 c1),(4, .slice A_1 s.length c_2),(5,I i),(9,I ((s.length:Nat):Int)),(10,I i),(28, .bool (decide (((0<i)∧(rdb (smL s) i=true))∧(¬(rdb (smL s) (i-1)=true)))))] [⟨4,1,A_1,s.length,c_2,bools (smL s),false⟩,(ri 3 A1 n1 c1 acc)] ?_ ?_
  ·refine dC 21 Z (fun hc3=> ?_) (fun hc3=> ?_)
   ·refine aC Z Z<|wm Z<|aC Z Z<|wm Z<|aC Z Z<|wS Z Z<|aC Z Z<|wy (aH underlying269 sz4 Z Z (rdr 0 Z))<|aC Z Z<|wy (BV underlying4 Z Z (rdr 0 Z))<|aC Z Z<|wy (EO Z)<|wy (bA Z Z)<|aA ?_
    exact⟨(sc Z (sc Z (sc Z (sc Z (sc Z (Sub.to Z mbA Sub.nil)))))),fun _ h=>h⟩
   ·refine aP Z Z Z Z<|aP Z Z Z Z<|aP Z Z Z Z<|aP Z Z Z Z<|aP Z Z Z Z<|aP Z Z Z Z<|wy (aS Z Z)<|aA ?_
    exact⟨(sc Z (sc Z (sc Z (sc Z (sc Z (Sub.to Z mfA Sub.nil)))))),fun _ h=>h⟩
  refine aA<|bM Z (fun hc4=> ?_) (fun hc4=> ?_)
  ·refine aM<|wm Z<|wm Z<|wa (bS .i64 [i] underlying52 zs3 Z Z Z) ?_
   rintro _ _ ⟨g_5,rfl,rfl⟩
   refine wa (bE 2 Z underlying52 zb3 Z Z Z (rdr 0 Z) (by have:=congrArg List.length hacc;have:=UO (s:=s) i;omega)) ?_
   rintro _ _ ⟨A_6,c_7,rfl,rfl⟩
   refine bN (v:= .slice A_6 (n1+1) c_7) Z<|wn Z<|aM<|wA Z Z<|wm Z<|aA ?_
   exact⟨A_6,n1+1,c_7,acc++([i]),i+1,⟨(by rw[List.length_append,hn1];try rfl),by omega,by omega,(by rw[BI (by omega),if_pos (aUw (by omega) (by omega) hc4.1.1 hc4.1.2 hc4.2),hacc])⟩,by omega,(G4 Z Z Z Z),fun _ h=>h.sel [1,2] (by decide) Z⟩
  ·refine aK<|aM<|wA Z Z<|wm Z<|aA ?_
   exact⟨A1,n1,c1,acc,i+1,⟨(hn1),by omega,by omega,(by rw[BI (by omega),if_neg (aZx (by omega) (by omega) (fun h=>hc4 ⟨⟨h.1,h.2.1⟩,h.2.2⟩)),List.append_nil,hacc])⟩,by omega,(G4 Z Z Z Z),fun _ h=>h⟩
 ·refine aZ<|wq<|wm Z<|wn Z<|aT [1] 99 (by decide) Z ?_
  refine⟨_,Z,?_⟩
  rw[aOt (by omega)] at hacc
  subst hacc
  obtain rfl:=hn1
  exact⟨_,_,Z,Z⟩
theorem aIc {cs V:List Int} {i:Int} (h0:0≤i) (hi:i<cs.length) (hl:V.length=cs.length) (hV: ∀j:Int,0≤j→j<cs.length→rd V j=if j<i then ps cs (j+1) else ps cs j):
  ∀j:Int,0≤j→j<cs.length→rd (upd V i (rd V i+rd cs i)) j=if j<i+1 then ps cs (j+1) else ps cs j:=by
 intro j j0 j1
 have e1:rd (upd V i (rd V i+rd cs i)) j=if j=i then rd V i+rd cs i else rd V j:=fI h0 j0 (by omega)
 have e2:=hV i h0 hi
 rw[if_neg (by omega)] at e2
 rw[e1,e2,hV j j0 j1]
 by_cases e:j=i
 ·subst e
  rw[if_pos rfl,if_pos (by omega),lS h0 hi]
 ·rw [if_neg e]
  by_cases h:j<i
  ·rw[if_pos h,if_pos (by omega)]
  ·rw[if_neg h,if_neg (by omega)]
theorem aEo {s:List Int} {k:Int} (hk:0≤k) (hs: ∀x∈s,0≤x∧x<k):(dQ s k).sum=s.length:=by
 have h:=JE (order:=iota s.length) (keys:=s) (k:=k) hk fun i hi=>hs _ (bH (aW.1 hi).1 (aW.1 hi).2)
 rwa[kZ,bF] at h
theorem aId {cs V:List Int} (hl:V.length=cs.length) (hV: ∀j:Int,0≤j→j<cs.length→rd V j=if j<cs.length then ps cs (j+1) else ps cs j):V=pM cs:=
 bI (hl.trans (BL cs).symm) fun j h1 h2=>by rw[FY h1 (by omega),hV j h1 (by omega),if_pos (by omega)]
theorem aEb {B:Nat} {w0:World} {R:List Row} {g_x:Nat} {A_s A_m A_c A_r:Option Addr} {c_s c_m c_c c_r:Nat} {s:List Int} {k:Int} (h_x:RdC B w0 R (GG g_x) 1 1 4 [.slice A_s s.length c_s, .slice A_m s.length c_m, .slice A_c k.toNat c_c, .slice A_r s.length c_r]) (h_c:RdC B w0 R A_c k.toNat c_c 1 (ints .i64 (dQ s k))) (hk:0≤k∧k≤1048576) (hs: ∀x∈s,0≤x∧x<k) (hN:s.length≤1000000):
  Ct Tryz.prog 317 #[.pointer (GG g_x)] B w0 (R) (fun v R'=> ∃A c,v= .slice A k.toNat c∧R'=(ri 3 A k.toNat c (pM (dQ s k)))::R):=by
 refine fn1 Tryz.func317 Z Z Z ?_
 have hcl:(dQ s k).length=k.toNat:=dM _ _
 have hsum:(dQ s k).sum=s.length:=aEo (by omega) hs
 have hSl:(bZ (dQ s k)).length=k.toNat:=by rw[eD,hcl]
 refine wq<|wn Z<|wq<|wm Z<|wy (aD Z)<|wy (aB (off:=2) (m:=2) underlying352 Z gX Z Z Z)<|wy (aJ (RdC.right h_x []) underlying52 Z Z Z)<|wa (aF aEg Z (Ct.fresh (fun w hw=>vB ((RdC.right h_c []) w hw) (lD _ _) (by rw[hsum];omega) (by rw[hcl];omega)))) ?_
 rintro _ _ ⟨_,rfl,A_1,c_2,rfl,rfl⟩
 refine wn Z<|aG<|wq<|wm Z<|wy (aD Z)<|wy (aB (off:=2) (m:=2) underlying352 Z gX Z Z Z)<|wy (aJ (RdC.right h_x [_]) underlying52 Z Z Z)<|wy (aQ underlying52 Z)<|wm Z<|aA<|aI ?_
 refine dR (fun(i:Int) (V:List Int)=>[(3, .slice A_1 ((bZ (dQ s k)).length) c_2),(14, .slice A_c k.toNat c_c),(15,I ((k.toNat:Nat):Int)),(16,I i)]) (fun i V=>((ri 3 A_1 ((bZ (dQ s k)).length) c_2 V)::R)) (fun i V=>(0≤i)∧(i≤(dQ s k).length)∧(V.length=(dQ s k).length)∧(∀j:Int,0≤j→j<(dQ s k).length→rd V j=if j<i then ps (dQ s k) (j+1) else ps (dQ s k) j)) (fun i V=>((dQ s k).length-i).toNat) ?_ ?_
 ·exact⟨0,bZ (dQ s k),⟨by omega,by omega,(by rw[eD]),(fun j h1 h2=>by rw[if_neg (by omega)];exact mM h1 h2)⟩,(G4 rfl rfl rfl rfl),fun _ h=>h⟩
 intro i V ⟨hi0,hi1,hVl,hV⟩
 refine wq<|wL Z Z<|aA<|aG<|bM Z (fun hc1=> ?_) (fun hc1=> ?_)
 ·have hb1:=tZ (lD s k) i
  have hb2:=tZ (lD s k) (i+1)
  rw[hsum] at hb1 hb2
  have hvi:=hV i hi0 (by omega)
  rw[if_neg (by omega)] at hvi
  have hps:=lS (L:=dQ s k) hi0 (by omega)
  refine aK<|aG<|aI<|wq<|wm Z<|wy (aH underlying52 sz3 Z Z (RdC.right h_c [_]))<|wy (aX underlying3 Z Z (RdC.right h_c [_]))<|wg Z<|wn Z<|aM<|wm Z<|wm Z<|wy (aH underlying52 sz3 Z Z (rdr 0 Z)) ?_
  refine wy (aX underlying3 Z Z (rdr 0 Z))<|wm Z<|wA Z Z<|wy (aH underlying52 sz3 Z Z (rdr 0 Z))<|bY (bG 0 Z sz3 Z Z) ?_
  rintro _ _ rfl
  refine aA<|aM<|wA Z Z<|wm Z<|aA ?_
  exact⟨i+1,upd V i ((rd V i)+(rd (dQ s k) i)),⟨by omega,by omega,(by rw[aV];exact hVl),(aIc hi0 (by omega) hVl hV)⟩,by omega,(G4 Z Z Z Z),fun _ h=>h⟩
 ·refine aZ<|wq<|wm Z<|wn Z ?_
  have hke:k.toNat=(dQ s k).length:=hcl.symm
  obtain rfl:V=pM (dQ s k):=aId hVl fun j h1 h2=>by rw[hV j h1 h2,if_pos (by omega),if_pos (by omega)]
  refine dJ ?_
  rw[eD,hcl]
  exact⟨_,Z,_,_,Z,Z⟩
theorem lgC {s D:List Int} {i:Int} (hent:rd D i= -1∨(0≤rd D i∧rd D i<s.length)):(0<rd D i∧ ¬rdb (smL s) (rd D i-1)=true)↔(0<rd D i∧smB s (rd D i-1)=false):=by
 constructor
 ·rintro ⟨h1,h2⟩
  rw[lQ (by omega) (by omega)] at h2
  exact⟨h1,by simpa using h2⟩
 ·rintro ⟨h1,h2⟩
  rw[lQ (by omega) (by omega),h2]
  exact⟨h1,by simp⟩
theorem smC {s D:List Int} {i:Int} (hent:rd D i= -1∨(0≤rd D i∧rd D i<s.length)):(0<rd D i∧rdb (smL s) (rd D i-1)=true)↔(0<rd D i∧smB s (rd D i-1)=true):=by
 constructor
 ·rintro ⟨h1,h2⟩
  rw[lQ (by omega) (by omega)] at h2
  exact⟨h1,h2⟩
 ·rintro ⟨h1,h2⟩
  rw[lQ (by omega) (by omega),h2]
  exact⟨h1,Z⟩
section
variable {s l D H:List Int} {k i:Int} (hk:0≤k) (hs: ∀x∈s,0≤x∧x<k) (hp:l.Perm (bL s)) (hn:0<s.length)
include hk hs hp hn
theorem bAa (i0:0≤i) (hi:i<s.length) (hD:D=(itL s k l i.toNat).1) (hH:H=(itL s k l i.toNat).2):(rd D i= -1∨(0≤rd D i∧rd D i<s.length))∧(D.length=s.length∧H.length=k.toNat):=by
 have h:=fLe hk hs hp hn (i:=i.toNat) (by omega) hD hH
 rwa[Int.toNat_of_nonneg i0] at h
theorem fLZ (i0:0≤i) (hi:i<s.length) (hD:D=(itL s k l i.toNat).1) (hH:H=(itL s k l i.toNat).2) (hc:0<rd D i∧ ¬rdb (smL s) (rd D i-1)=true):
  rd D i<s.length∧(0≤rd s (rd D i-1)∧rd s (rd D i-1)<k)∧(0≤rd H (rd s (rd D i-1))∧rd H (rd s (rd D i-1))<s.length)∧upd D (rd H (rd s (rd D i-1))) (rd D i-1)=(itL s k l (i+1).toNat).1∧upd H (rd s (rd D i-1)) (rd H (rd s (rd D i-1))+1)=(itL s k l (i+1).toNat).2:=by
 have he:=(bAa hk hs hp hn i0 hi hD hH).1
 have h:=fL hk hs hp hn (i:=i.toNat) (by omega) hD hH (by rw[Int.toNat_of_nonneg i0];exact(lgC he).1 hc)
 rw[Int.toNat_of_nonneg i0] at h
 rwa[show(i+1).toNat=i.toNat+1 by omega]
theorem bFo (i0:0≤i) (hi:i<s.length) (hD:D=(itL s k l i.toNat).1) (hH:H=(itL s k l i.toNat).2) (hc: ¬(0<rd D i∧ ¬rdb (smL s) (rd D i-1)=true)):D=(itL s k l (i+1).toNat).1∧H=(itL s k l (i+1).toNat).2:=by
 have he:=(bAa hk hs hp hn i0 hi hD hH).1
 have h:=fLs (i:=i.toNat) hD hH (by rw[Int.toNat_of_nonneg i0];exact fun h=>hc ((lgC he).2 h))
 rwa[show(i+1).toNat=i.toNat+1 by omega]
theorem aZz (i0:0≤i) (hi:i<s.length) (hD:D=(itS s k l (s.length-1-i).toNat).1) (hH:H=(itS s k l (s.length-1-i).toNat).2):(rd D i= -1∨(0≤rd D i∧rd D i<s.length))∧(D.length=s.length∧H.length=k.toNat):=
 fSe hk hs hp hn (m:=((s.length:Int)-1-i).toNat) (by omega) (by omega) hD hH
theorem fSZ (i0:0≤i) (hi:i<s.length) (hD:D=(itS s k l (s.length-1-i).toNat).1) (hH:H=(itS s k l (s.length-1-i).toNat).2) (hc:0<rd D i∧rdb (smL s) (rd D i-1)=true):
  rd D i<s.length∧(0≤rd s (rd D i-1)∧rd s (rd D i-1)<k)∧(0≤rd H (rd s (rd D i-1))-1∧rd H (rd s (rd D i-1))-1<s.length)∧upd D (rd H (rd s (rd D i-1))-1) (rd D i-1)=(itS s k l (s.length-1-(i-1)).toNat).1∧upd H (rd s (rd D i-1)) (rd H (rd s (rd D i-1))-1)=(itS s k l (s.length-1-(i-1)).toNat).2:=by
 have he:=(aZz hk hs hp hn i0 hi hD hH).1
 have h:=fS hk hs hp hn (m:=((s.length:Int)-1-i).toNat) (by omega) (by omega) hD hH ((smC he).1 hc)
 rwa[show((s.length:Int)-1-(i-1)).toNat=((s.length:Int)-1-i).toNat+1 by omega]
theorem bFn (i0:0≤i) (hi:i<s.length) (hD:D=(itS s k l (s.length-1-i).toNat).1) (hH:H=(itS s k l (s.length-1-i).toNat).2) (hc: ¬(0<rd D i∧rdb (smL s) (rd D i-1)=true)):D=(itS s k l (s.length-1-(i-1)).toNat).1∧H=(itS s k l (s.length-1-(i-1)).toNat).2:=by
 have he:=(aZz hk hs hp hn i0 hi hD hH).1
 have h:=fSs (m:=((s.length:Int)-1-i).toNat) (i:=i) (by omega) hD hH (fun h=>hc ((smC he).2 h))
 rwa[show((s.length:Int)-1-(i-1)).toNat=((s.length:Int)-1-i).toNat+1 by omega]
end
theorem aOa {B:Nat} {w0:World} {R:List Row} {g_x:Nat} {A_s A_m A_c A_r:Option Addr} {c_s c_m c_c c_r:Nat} {s:List Int} {k:Int} {A_e:Option Addr} {n_e c_e:Nat} {row E:List Int} {j:Int} (h_x:RdC B w0 R (GG g_x) 1 1 4 [.slice A_s s.length c_s, .slice A_m s.length c_m, .slice A_c k.toNat c_c, .slice A_r s.length c_r]) (h_s:RdC B w0 R A_s s.length c_s 1 (ints .i64 s)) (hk:0≤k∧k≤1048576) (hN:s.length≤1000000) (hj:0≤j∧j<s.length) (hc:0≤rd s j∧rd s j<k) (hl:row.length=s.length∧E.length=k.toNat∧n_e=k.toNat) (hv:0≤(rd E (rd s j))-1∧(rd E (rd s j))-1<s.length):
  Ct Tryz.prog 318 #[.pointer (GG g_x), .slice A_e n_e c_e,I j] B w0 ((ri 3 A_r s.length c_r row)::(ri 3 A_e n_e c_e E)::R) (fun v R'=>v= .tuple #[]∧R'=(ri 3 A_r s.length c_r (upd row ((rd E (rd s j))-1) j))::(ri 3 A_e n_e c_e (upd E (rd s j) ((rd E (rd s j))-1)))::R):=by
 refine fn0 Tryz.func318 Z Z Z ?_
 obtain⟨hl1,hl2,hl3⟩:=hl
 have he:rd (upd E (rd s j) ((rd E (rd s j))-1)) (rd s j)=(rd E (rd s j))-1:=eF hc.1 (by omega)
 refine wq<|wm Z<|wm Z<|wy (aD Z)<|wy (aB (off:=0) (m:=0) underlying352 Z gX Z Z Z)<|wy (aJ (RdC.right h_x [_,_]) underlying52 Z Z Z)<|wm Z<|wy (aH underlying52 sz3 Z Z (RdC.right h_s [_,_]))<|wy (aX underlying3 Z Z (RdC.right h_s [_,_]))<|wy (aH underlying52 sz3 Z Z (rdr 1 Z))<|wy (aX underlying3 Z Z (rdr 1 Z))<|wS Z Z<|wy (aH underlying52 sz3 Z Z (rdr 1 Z))<|bY (bG 1 Z sz3 Z Z) ?_
 rintro _ _ rfl
 refine iW (R1:=((ri 3 A_r s.length c_r row)::(ri 3 A_e n_e c_e (upd E (rd s j) ((rd E (rd s j))-1)))::R)) Z<|aA<|bT mixed<|wD 0 Z (aN Z)<|wD 1 Z (aD Z)<|wD 2 Z (aB (off:=3) (m:=3) underlying352 Z gX Z Z Z)<|wD 3 Z (aJ (RdC.right h_x [_,_]) underlying52 Z Z Z)<|wD 4 Z (aN Z)<|wD 5 Z (aN Z)<|wD 6 Z (aD Z)<|wD 7 Z (aB (off:=0) (m:=0) underlying352 Z gX Z Z Z)<|wD 8 Z (aJ (RdC.right h_x [_,_]) underlying52 Z Z Z)<|wD 9 Z (aN Z)<|wD 10 Z (aH underlying52 sz3 Z Z (RdC.right h_s [_,_]))<|wD 11 Z (aX underlying3 Z Z (RdC.right h_s [_,_])) ?_
 refine wD 12 Z (aH underlying52 sz3 Z Z (rdr 1 Z))<|wD 13 Z (aX underlying3 Z Z (rdr 1 Z))<|wD 14 Z (aN Z)<|wD 15 Z (aH underlying52 sz3 Z Z (rdr 0 Z))<|pR 16 Z (by kernel_rfl) (bG 0 Z sz3 Z Z) ?_
 rintro _ _ rfl
 refine⟨.inl (by kernel_rfl),?_⟩
 refine xM (R1:=((ri 3 A_r s.length c_r (upd row (rd (upd E (rd s j) ((rd E (rd s j))-1)) (rd s j)) j))::(ri 3 A_e n_e c_e (upd E (rd s j) ((rd E (rd s j))-1)))::R)) Z<|wN ?_
 exact⟨Z,by rw[he]⟩
theorem aDo {B:Nat} {w0:World} {R:List Row} {g_x:Nat} {A_s A_m A_c A_r:Option Addr} {c_s c_m c_c c_r:Nat} {s:List Int} {k:Int} {A_e:Option Addr} {n_e c_e:Nat} {row E:List Int} {j:Int} (h_x:RdC B w0 R (GG g_x) 1 1 4 [.slice A_s s.length c_s, .slice A_m s.length c_m, .slice A_c k.toNat c_c, .slice A_r s.length c_r]) (h_s:RdC B w0 R A_s s.length c_s 1 (ints .i64 s)) (hk:0≤k∧k≤1048576) (hN:s.length≤1000000) (hj:0≤j∧j<s.length) (hc:0≤rd s j∧rd s j<k) (hl:row.length=s.length∧E.length=k.toNat∧n_e=k.toNat) (hv:0≤rd E (rd s j)∧rd E (rd s j)<s.length):
  Ct Tryz.prog 347 #[.pointer (GG g_x), .slice A_e n_e c_e,I j] B w0 ((ri 3 A_r s.length c_r row)::(ri 3 A_e n_e c_e E)::R) (fun v R'=>v= .tuple #[]∧R'=(ri 3 A_r s.length c_r (upd row (rd E (rd s j)) j))::(ri 3 A_e n_e c_e (upd E (rd s j) ((rd E (rd s j))+1)))::R):=by
 refine fn0 Tryz.func347 Z Z Z ?_
 obtain⟨hl1,hl2,hl3⟩:=hl
 refine aG<|bT mixed<|wD 0 Z (aN Z)<|wD 1 Z (aD Z)<|wD 2 Z (aB (off:=3) (m:=3) underlying352 Z gX Z Z Z)<|wD 3 Z (aJ (RdC.right h_x [_,_]) underlying52 Z Z Z)<|wD 4 Z (aN Z)<|wD 5 Z (aN Z)<|wD 6 Z (aD Z)<|wD 7 Z (aB (off:=0) (m:=0) underlying352 Z gX Z Z Z)<|wD 8 Z (aJ (RdC.right h_x [_,_]) underlying52 Z Z Z)<|wD 9 Z (aN Z)<|wD 10 Z (aH underlying52 sz3 Z Z (RdC.right h_s [_,_]))<|wD 11 Z (aX underlying3 Z Z (RdC.right h_s [_,_]))<|wD 12 Z (aH underlying52 sz3 Z Z (rdr 1 Z)) ?_
 refine wD 13 Z (aX underlying3 Z Z (rdr 1 Z))<|wD 14 Z (aN Z)<|wD 15 Z (aH underlying52 sz3 Z Z (rdr 0 Z))<|pR 16 Z (by kernel_rfl) (bG 0 Z sz3 Z Z) ?_
 rintro _ _ rfl
 refine⟨.inl (by kernel_rfl),?_⟩
 refine wN<|aM<|wm Z<|wm Z<|wy (aD Z)<|wy (aB (off:=0) (m:=0) underlying352 Z gX Z Z Z)<|wy (aJ (RdC.right h_x [_,_]) underlying52 Z Z Z)<|wm Z<|wy (aH underlying52 sz3 Z Z (RdC.right h_s [_,_]))<|wy (aX underlying3 Z Z (RdC.right h_s [_,_]))<|wy (aH underlying52 sz3 Z Z (rdr 1 Z))<|wy (aX underlying3 Z Z (rdr 1 Z))<|wA Z Z<|wy (aH underlying52 sz3 Z Z (rdr 1 Z))<|bY (bG 1 Z sz3 Z Z) ?_
 rintro _ _ rfl
 refine aA ?_
 exact⟨Z,Z⟩
theorem aOb {B:Nat} {w0:World} {R:List Row} {g_x:Nat} {A_s A_m A_c A_r:Option Addr} {c_s c_m c_c c_r:Nat} {s l:List Int} {k:Int} {row:List Int} (h_x:RdC B w0 R (GG g_x) 1 1 4 [.slice A_s s.length c_s, .slice A_m s.length c_m, .slice A_c k.toNat c_c, .slice A_r s.length c_r]) (h_s:RdC B w0 R A_s s.length c_s 1 (ints .i64 s)) (h_m:RdC B w0 R A_m s.length c_m 1 (bools (smL s))) (h_c:RdC B w0 R A_c k.toNat c_c 1 (ints .i64 (dQ s k))) (hk:0≤k∧k≤1048576) (hs: ∀x∈s,0≤x∧x<k) (hN:s.length≤1000000) (hp:l.Perm (bL s)) (hn:0<s.length) (hrow:row=(itF s k l).1):
  Ct Tryz.prog 319 #[.pointer (GG g_x)] B w0 ((ri 3 A_r s.length c_r row)::R) (fun v R'=>v= .tuple #[]∧R'=(ri 3 A_r s.length c_r ((itL s k l s.length).1))::R):=by
 refine fn0 Tryz.func319 Z Z Z ?_
 have hcl:(dQ s k).length=k.toNat:=dM _ _
 have hsum:(dQ s k).sum=s.length:=aEo hk.1 hs
 have hSl:(bZ (dQ s k)).length=k.toNat:=by rw[eD,hcl]
 obtain⟨f1,f2,f3,f4,f5,f6⟩:=fL0 hk.1 hs hp hn hrow (rfl:bZ (dQ s k)=_)
 refine wq<|wm Z<|wy (aD Z)<|wy (aB (off:=2) (m:=2) underlying352 Z gX Z Z Z)<|wy (aJ (RdC.right h_x [_]) underlying52 Z Z Z)<|wa (aF aEg Z (Ct.fresh (fun w hw=>vB ((RdC.right h_c [_]) w hw) (lD _ _) (by rw[hsum];omega) (by rw[hcl];omega)))) ?_
 rintro _ _ ⟨_,rfl,A_1,c_2,rfl,rfl⟩
 refine wn Z<|wq<|wm Z<|wm Z<|wm Z<|wy (aD Z)<|wy (aB (off:=0) (m:=0) underlying352 Z gX Z Z Z)<|wy (aJ (RdC.right h_x [_,_]) underlying52 Z Z Z)<|wy (aQ underlying52 Z)<|wS Z Z<|dH (R1:=((ri 3 A_r s.length c_r row)::(ri 3 A_1 ((bZ (dQ s k)).length) c_2 (bZ (dQ s k)))::R)) (Sub.refl _) (fun _ h=>h.selR (F:=[_,_]) (F':=[_,_]) [1,0] (by decide) Z)<|wa (aF aWy Z (aDo (row:=row) (E:=(bZ (dQ s k))) (j:=(((s.length:Nat):Int)-1)) (RdC.right h_x []) (RdC.right h_s []) hk hN ⟨by omega,by omega⟩ f1 ⟨f3.1,f3.2,by rw[eD,hcl]⟩ f2)) ?_
 rintro _ _ ⟨rfl,rfl⟩
 refine aA<|wq<|wm Z<|wy (aD Z)<|wy (aB (off:=3) (m:=3) underlying352 Z gX Z Z Z)<|wy (aJ (RdC.right h_x [_,_]) underlying52 Z Z Z)<|wy (aQ underlying52 Z)<|wm Z<|aA<|aI ?_
 refine fU (fun(i:Int) (D:List Int) (H:List Int)=>[(0, .pointer (GG g_x)),(2, .slice A_1 ((bZ (dQ s k)).length) c_2),(23,I ((s.length:Nat):Int)),(24,I i)]) (fun i D H=>((ri 3 A_r s.length c_r D)::(ri 3 A_1 ((bZ (dQ s k)).length) c_2 H)::R)) (fun i D H=>(0≤i)∧(i≤s.length)∧(D=(itL s k l i.toNat).1)∧(H=(itL s k l i.toNat).2)) (fun i D H=>(s.length-i).toNat) ?_ ?_
 ·exact⟨0,upd row (rd (bZ (dQ s k)) (rd s (((s.length:Nat):Int)-1))) (((s.length:Nat):Int)-1),upd (bZ (dQ s k)) (rd s (((s.length:Nat):Int)-1)) ((rd (bZ (dQ s k)) (rd s (((s.length:Nat):Int)-1)))+1),⟨by omega,by omega,(f4),(f5)⟩,(G4 Z Z Z Z),fun _ h=>h⟩
 intro i D H ⟨hi0,hi1,hD,hH⟩
 refine wq<|wL Z Z<|aA<|aG<|bM Z (fun hc1=> ?_) (fun hc1=> ?_)
 ·have hf:=bAa hk.1 hs hp hn hi0 (by omega) hD hH
  have hf1:=hf.1
  refine aK<|aG<|aI<|wq<|wm Z<|wn Z<|wq<|wm Z<|wy (aD Z)<|wy (aB (off:=3) (m:=3) underlying352 Z gX Z Z Z)<|wy (aJ (RdC.right h_x [_,_]) underlying52 Z Z Z)<|wm Z ?_
  refine wy (aH underlying52 sz3 Z Z (rdr 0 Z))<|wy (aX underlying3 Z Z (rdr 0 Z))<|wn Z<|wq<|wm Z<|wy (dV Z Z)<|wm Z<|dS 10 [(0, .pointer (GG g_x)),(2, .slice A_1 ((bZ (dQ s k)).length) c_2),(4,I (rd D i)),(23,I ((s.length:Nat):Int)),(24,I i),(46, .bool (decide ((0<(rd D i))∧(¬(rdb (smL s) ((rd D i)-1)=true)))))] ((ri 3 A_r s.length c_r D)::(ri 3 A_1 ((bZ (dQ s k)).length) c_2 H)::R) ?_ ?_
  ·refine dC 36 Z (fun hc2=> ?_) (fun hc2=> ?_)
   ·refine aC Z Z<|wm Z<|aC Z Z<|wy (aD Z)<|aC Z Z<|wy (aB (off:=1) (m:=1) underlying352 Z aKy Z Z Z)<|aC Z Z<|wy (aJ (RdC.right h_x [_,_]) underlying269 Z Z Z)<|aC Z Z<|wm Z<|aC Z Z<|wS Z Z<|aC Z Z<|wy (aH underlying269 sz4 Z Z (RdC.right h_m [_,_]))<|aC Z Z ?_
    refine wy (BV underlying4 Z Z (RdC.right h_m [_,_]))<|aC Z Z<|wy (EO Z)<|wy (bA Z Z)<|aA ?_
    exact⟨(sc Z (sc Z (sc Z (sc Z (sc Z (Sub.to Z mbA Sub.nil)))))),fun _ h=>h⟩
   ·refine aP Z Z Z Z<|aP Z Z Z Z<|aP Z Z Z Z<|aP Z Z Z Z<|aP Z Z Z Z<|aP Z Z Z Z<|aP Z Z Z Z<|aP Z Z Z Z<|aP Z Z Z Z<|wy (aS Z Z)<|aA ?_
    exact⟨(sc Z (sc Z (sc Z (sc Z (sc Z (Sub.to Z mfA Sub.nil)))))),fun _ h=>h⟩
  refine aA<|bM Z (fun hc3=> ?_) (fun hc3=> ?_)
  ·obtain ⟨g1,g2,g3,g4,g5⟩:=fLZ hk.1 hs hp hn hi0 (by omega) hD hH hc3
   refine aM<|wm Z<|wm Z<|wm Z<|wS Z Z<|wa (aF aWy Z (aDo (row:=D) (E:=H) (j:=((rd D i)-1)) (RdC.right h_x []) (RdC.right h_s []) hk hN ⟨by omega,by omega⟩ g2 ⟨hf.2.1,hf.2.2,by rw[eD,hcl]⟩ g3)) ?_
   rintro _ _ ⟨rfl,rfl⟩
   refine aA<|aM<|wA Z Z<|wm Z<|aA ?_
   exact⟨i+1,upd D (rd H (rd s ((rd D i)-1))) ((rd D i)-1),upd H (rd s ((rd D i)-1)) ((rd H (rd s ((rd D i)-1)))+1),⟨by omega,by omega,(g4),(g5)⟩,by omega,(G4 Z Z Z Z),fun _ h=>h⟩
  ·have g4:=bFo hk.1 hs hp hn hi0 (by omega) hD hH hc3
   refine aK<|aM<|wA Z Z<|wm Z<|aA ?_
   exact⟨i+1,D,H,⟨by omega,by omega,(g4.1),(g4.2)⟩,by omega,(G4 Z Z Z Z),fun _ h=>h⟩
 ·refine aBz (R1:=((ri 3 A_r s.length c_r D)::R)) (Sub.refl _) (fun _ h=>h.selR (F:=[_,_]) (F':=[_]) [0] (by decide) Z) ?_
  have hie:i.toNat=s.length:=by omega
  rw[hie] at hD
  subst hD
  refine aZ ?_
  exact⟨Z,Z⟩
theorem bEz {s D:List Int} {q:Int} (hent:rd D q= -1∨(0≤rd D q∧rd D q<s.length)):(0≤rd D q∧rdb (smL s) (rd D q)=true)↔(0≤rd D q∧smB s (rd D q)=true):=by
 constructor<;>rintro⟨h1,h2⟩<;>refine⟨h1,?_⟩
 ·rwa[lQ h1 (by omega)] at h2
 ·rwa[lQ h1 (by omega)]
theorem aVr {s l D:List Int} {k q:Int} (hk:0≤k) (hs: ∀x∈s,0≤x∧x<k) (hp:l.Perm (bL s)) (hn:0<s.length) (q0:0≤q) (hq:q<s.length) (hD:D=pQ s (itL s k l s.length).1 q):rd D q= -1∨(0≤rd D q∧rd D q<s.length):=by
 rw[hD,PE q0 (Int.le_refl _) q0 (by rw[EL hk hs hp hn];omega)]
 exact aVq hk hs hp hn q0 hq
theorem aQr {s l D:List Int} {k q:Int} (hk:0≤k) (hs: ∀x∈s,0≤x∧x<k) (hp:l.Perm (bL s)) (hn:0<s.length) (hq:(s.length:Int)≤q) (hD:D=pQ s (itL s k l s.length).1 q):D=(itS s k l 0).1:=by
 rw[hD,aQs (by rw[EL hk hs hp hn];exact hq)]
 rfl
theorem aFu {B:Nat} {w0:World} {R:List Row} {g_x:Nat} {A_s A_m A_c A_r:Option Addr} {c_s c_m c_c c_r:Nat} {s l:List Int} {k:Int} (h_x:RdC B w0 R (GG g_x) 1 1 4 [.slice A_s s.length c_s, .slice A_m s.length c_m, .slice A_c k.toNat c_c, .slice A_r s.length c_r]) (h_s:RdC B w0 R A_s s.length c_s 1 (ints .i64 s)) (h_m:RdC B w0 R A_m s.length c_m 1 (bools (smL s))) (h_c:RdC B w0 R A_c k.toNat c_c 1 (ints .i64 (dQ s k))) (hk:0≤k∧k≤1048576) (hs: ∀x∈s,0≤x∧x<k) (hN:s.length≤1000000) (hp:l.Perm (bL s)) (hn:0<s.length):
  Ct Tryz.prog 320 #[.pointer (GG g_x)] B w0 ((ri 3 A_r s.length c_r ((itL s k l s.length).1))::R) (fun v R'=>v= .tuple #[]∧R'=(ri 3 A_r s.length c_r (pK s k l))::R):=by
 refine fn0 Tryz.func320 Z Z Z ?_
 have hLl:=EL hk.1 hs hp hn
 refine aG<|wq<|wm Z<|wy (aD Z)<|wy (aB (off:=3) (m:=3) underlying352 Z gX Z Z Z)<|wy (aJ (RdC.right h_x [_]) underlying52 Z Z Z)<|wy (aQ underlying52 Z)<|wm Z<|aA<|aI ?_
 refine dR (fun(q:Int) (D:List Int)=>[(0, .pointer (GG g_x)),(10, .slice A_r s.length c_r),(11,I ((s.length:Nat):Int)),(12,I q)]) (fun q D=>((ri 3 A_r s.length c_r D)::R)) (fun q D=>(0≤q)∧(q≤s.length)∧(D=pQ s (itL s k l s.length).1 q)) (fun q D=>(s.length-q).toNat) ?_ ?_
 ·exact⟨0,(itL s k l s.length).1,⟨by omega,by omega,(aIy.symm)⟩,(G4 Z Z Z Z),fun _ h=>h⟩
 intro q D ⟨hq0,hq1,hD⟩
 refine wq<|wL Z Z<|aA<|aG<|bM Z (fun hc1=> ?_) (fun hc1=> ?_)
 ·have hf1:=aVr hk.1 hs hp hn hq0 (by omega) hD
  have hDl:D.length=s.length:=by rw[hD,WI,EL hk.1 hs hp hn]
  refine aK<|aG<|aI<|wq<|wm Z<|wy (aH underlying52 sz3 Z Z (rdr 0 Z))<|wy (aX underlying3 Z Z (rdr 0 Z))<|wg Z<|wn Z<|wq<|wm Z<|wy (jG Z Z) ?_
  refine wm Z<|dS 8 [(0, .pointer (GG g_x)),(2,I q),(10, .slice A_r s.length c_r),(11,I ((s.length:Nat):Int)),(12,I q),(27, .bool (decide ((0≤(rd D q))∧(rdb (smL s) (rd D q)=true))))] ((ri 3 A_r s.length c_r D)::R) ?_ ?_
  ·refine dC 19 Z (fun hc2=> ?_) (fun hc2=> ?_)
   ·refine aC Z Z<|wm Z<|aC Z Z<|wy (aD Z)<|aC Z Z<|wy (aB (off:=1) (m:=1) underlying352 Z aKy Z Z Z)<|aC Z Z<|wy (aJ (RdC.right h_x [_]) underlying269 Z Z Z)<|aC Z Z<|wm Z<|aC Z Z<|wy (aH underlying269 sz4 Z Z (RdC.right h_m [_]))<|aC Z Z<|wy (BV underlying4 Z Z (RdC.right h_m [_]))<|wy (bA Z Z) ?_
    refine aA ?_
    exact⟨(sc Z (sc Z (sc Z (sc Z (sc Z (Sub.to Z mbA Sub.nil)))))),fun _ h=>h⟩
   ·refine aP Z Z Z Z<|aP Z Z Z Z<|aP Z Z Z Z<|aP Z Z Z Z<|aP Z Z Z Z<|aP Z Z Z Z<|aP Z Z Z Z<|wy (aS Z Z)<|aA ?_
    exact⟨(sc Z (sc Z (sc Z (sc Z (sc Z (Sub.to Z mfA Sub.nil)))))),fun _ h=>h⟩
  refine aA<|bM Z (fun hc3=> ?_) (fun hc3=> ?_)
  ·refine aM<|wm Z<|wy (aD Z)<|wy (aB (off:=3) (m:=3) underlying352 Z gX Z Z Z)<|wy (aJ (RdC.right h_x [_]) underlying52 Z Z Z)<|wm Z<|wy (aH underlying52 sz3 Z Z (rdr 0 Z))<|bY (bG 0 Z sz3 Z Z) ?_
   rintro _ _ rfl
   refine aA<|aM<|wA Z Z<|wm Z<|aA ?_
   exact⟨q+1,upd D q (-1),⟨by omega,by omega,(by rw[hD];exact aVp hq0 (by omega) (by rw[←hD];exact(bEz hf1).1 hc3))⟩,by omega,(G4 Z Z Z Z),fun _ h=>h⟩
  ·refine aK<|aM<|wA Z Z<|wm Z<|aA ?_
   exact⟨q+1,D,⟨by omega,by omega,(by rw[hD];exact bAl hq0 (by omega) (by rw[←hD];exact fun h=>hc3 ((bEz hf1).2 h)))⟩,by omega,(G4 Z Z Z Z),fun _ h=>h⟩
 ·have hD0:=aQr hk.1 hs hp hn (by omega) hD
  refine aZ<|wq<|wm Z<|wa (aF aXb Z (aEb (RdC.right h_x [_]) (RdC.right h_c [_]) hk hs hN)) ?_
  rintro _ _ ⟨A_1,c_2,rfl,rfl⟩
  refine wn Z<|wq<|wm Z<|wy (aD Z)<|wy (aB (off:=3) (m:=3) underlying352 Z gX Z Z Z)<|wy (aJ (RdC.right h_x [_,_]) underlying52 Z Z Z)<|wy (aQ underlying52 Z)<|wS Z Z<|wn Z<|aI ?_
  refine fU (fun(i:Int) (D:List Int) (H:List Int)=>[(0, .pointer (GG g_x)),(4, .slice A_1 k.toNat c_2),(5,I i)]) (fun i D H=>((ri 3 A_1 k.toNat c_2 H)::(ri 3 A_r s.length c_r D)::R)) (fun i D H=>(-1≤i)∧(i<s.length)∧(D=(itS s k l (s.length-1-i).toNat).1)∧(H=(itS s k l (s.length-1-i).toNat).2)) (fun i D H=>(i+1).toNat) ?_ ?_
  ·exact⟨((s.length:Nat):Int)-1,D,pM (dQ s k),⟨by omega,by omega,(by rw[show((s.length:Int)-1-(((s.length:Nat):Int)-1)).toNat=0 by omega];exact hD0),(by rw[show((s.length:Int)-1-(((s.length:Nat):Int)-1)).toNat=0 by omega];rfl)⟩,(G3 Z Z Z),fun _ h=>h⟩
  intro i D H ⟨hi0,hi1,hD,hH⟩
  refine aG<|wq<|wm Z<|wy (jG Z Z)<|aA<|bM Z (fun hc4=> ?_) (fun hc4=> ?_)
  ·have hf:=aZz hk.1 hs hp hn (by omega) (by omega) hD hH
   have hf1:=hf.1
   refine aK<|aG<|aI<|wq<|wm Z<|wy (aD Z)<|wy (aB (off:=3) (m:=3) underlying352 Z gX Z Z Z)<|wy (aJ (RdC.right h_x [_,_]) underlying52 Z Z Z)<|wm Z<|wy (aH underlying52 sz3 Z Z (rdr 1 Z))<|wy (aX underlying3 Z Z (rdr 1 Z))<|wn Z<|aG ?_
   refine aM<|wm Z<|wy (dV Z Z)<|wm Z<|dS 9 [(0, .pointer (GG g_x)),(4, .slice A_1 k.toNat c_2),(5,I i),(6,I (rd D i)),(65, .bool (decide ((0<(rd D i))∧(rdb (smL s) ((rd D i)-1)=true))))] ((ri 3 A_1 k.toNat c_2 H)::(ri 3 A_r s.length c_r D)::R) ?_ ?_
   ·refine dC 56 Z (fun hc5=> ?_) (fun hc5=> ?_)
    ·refine aC Z Z<|wm Z<|aC Z Z<|wy (aD Z)<|aC Z Z<|wy (aB (off:=1) (m:=1) underlying352 Z aKy Z Z Z)<|aC Z Z<|wy (aJ (RdC.right h_x [_,_]) underlying269 Z Z Z)<|aC Z Z<|wm Z<|aC Z Z<|wS Z Z<|aC Z Z<|wy (aH underlying269 sz4 Z Z (RdC.right h_m [_,_]))<|aC Z Z ?_
     refine wy (BV underlying4 Z Z (RdC.right h_m [_,_]))<|wy (bA Z Z)<|aA ?_
     exact⟨(sc Z (sc Z (sc Z (sc Z (Sub.to Z mbA Sub.nil))))),fun _ h=>h⟩
    ·refine aP Z Z Z Z<|aP Z Z Z Z<|aP Z Z Z Z<|aP Z Z Z Z<|aP Z Z Z Z<|aP Z Z Z Z<|aP Z Z Z Z<|aP Z Z Z Z<|wy (aS Z Z)<|aA ?_
     exact⟨(sc Z (sc Z (sc Z (sc Z (Sub.to Z mfA Sub.nil))))),fun _ h=>h⟩
   refine aA<|bM Z (fun hc6=> ?_) (fun hc6=> ?_)
   ·obtain ⟨g1,g2,g3,g4,g5⟩:=fSZ hk.1 hs hp hn (by omega) (by omega) hD hH hc6
    refine aM<|wm Z<|wm Z<|wm Z<|wS Z Z<|dH (R1:=((ri 3 A_r s.length c_r D)::(ri 3 A_1 k.toNat c_2 H)::R)) (Sub.refl _) (fun _ h=>h.selR (F:=[_,_]) (F':=[_,_]) [1,0] (by decide) Z)<|wa (aF aXa Z (aOa (row:=D) (E:=H) (j:=((rd D i)-1)) (RdC.right h_x []) (RdC.right h_s []) hk hN ⟨by omega,by omega⟩ g2 ⟨hf.2.1,hf.2.2,rfl⟩ g3)) ?_
    rintro _ _ ⟨rfl,rfl⟩
    refine aA<|aM<|wm Z<|wS Z Z<|wn Z ?_
    exact⟨i-1,upd D ((rd H (rd s ((rd D i)-1)))-1) ((rd D i)-1),upd H (rd s ((rd D i)-1)) ((rd H (rd s ((rd D i)-1)))-1),⟨by omega,by omega,(g4),(g5)⟩,by omega,(G3 Z Z Z),fun _ h=>h.selR (F:=[_,_]) (F':=[_,_]) [1,0] (by decide) Z⟩
   ·have g4:=bFn hk.1 hs hp hn (by omega) (by omega) hD hH hc6
    refine aK<|aM<|wm Z<|wS Z Z<|wn Z ?_
    exact⟨i-1,D,H,⟨by omega,by omega,(g4.1),(g4.2)⟩,by omega,(G3 Z Z Z),fun _ h=>h⟩
  ·refine aBz (R1:=((ri 3 A_r s.length c_r D)::R)) (Sub.refl _) (fun _ h=>h.selR (F:=[_,_]) (F':=[_]) [1] (by decide) Z) ?_
   have hie:((s.length:Int)-1-i).toNat=s.length:=by omega
   rw[hie] at hD
   subst hD
   refine aZ ?_
   exact⟨Z,Z⟩
theorem UQ (s:List Int):(bL s).Pairwise (· ≤ ·):=by
 unfold bL iota
 exact((List.pairwise_map.2 (List.pairwise_lt_range.imp fun h=>by omega)).sublist List.filter_sublist)
theorem aFs {s l:List Int}:jZ l=bL s↔l.Perm (bL s):=by
 constructor
 ·intro h
  rw[←h]
  exact(kR l).symm
 ·intro h
  exact((kR l).trans h).eq_of_pairwise (fun a b _ _ h1 h2=>Int.le_antisymm h1 h2) (xW l) (UQ s)
theorem fFZ {s l D H:List Int} {k:Int} (hk:0≤k) (hs: ∀x∈s,0≤x∧x<k) (hp:l.Perm (bL s)) {m:Nat} (hm:m<l.length) (hr:D=(itF s k (l.drop (l.length-m))).1) (hE:H=(itF s k (l.drop (l.length-m))).2):
  (0≤rd l ((l.length-1-m:Nat):Int)∧rd l ((l.length-1-m:Nat):Int)<s.length)∧(0≤rd s (rd l ((l.length-1-m:Nat):Int))∧rd s (rd l ((l.length-1-m:Nat):Int))<k)∧(0≤rd H (rd s (rd l ((l.length-1-m:Nat):Int)))-1∧rd H (rd s (rd l ((l.length-1-m:Nat):Int)))-1<s.length)∧(D.length=s.length∧H.length=k.toNat)∧
  upd D (rd H (rd s (rd l ((l.length-1-m:Nat):Int)))-1) (rd l ((l.length-1-m:Nat):Int))=(itF s k (l.drop (l.length-(m+1)))).1∧upd H (rd s (rd l ((l.length-1-m:Nat):Int))) (rd H (rd s (rd l ((l.length-1-m:Nat):Int)))-1)=(itF s k (l.drop (l.length-(m+1)))).2:=by
 have e:l.length-1-m+1=l.length-m:=by omega
 have h:=fF (row:=D) (E:=H) hk hs hp (m:=l.length-1-m) (by omega) (by rw[e];exact hr) (by rw[e];exact hE)
 rwa[show l.length-(m+1)=l.length-1-m by omega]
theorem ZU {s l:List Int} (hp:l.Perm (bL s)):l.length≤s.length:=by rw[hp.length_eq];exact IP
set_option maxHeartbeats 2000000 in
theorem aCk {w:World} {A_s:Option Addr} {n_s c_s:Nat} {s:List Int} {k:Int} {A_l:Option Addr} {n_l c_l:Nat} {l:List Int} (h_s:Rd w A_s n_s c_s 1 (ints .i64 s)) (h_l:Rd w A_l n_l c_l 1 (ints .i64 l)) (hok:(0≤k∧k≤1048576)∧ ∀x∈s,0≤x∧x<k) (hp:l.Perm (bL s)) (hN:s.length≤1000000):
  Ct Tryz.prog 291 #[.slice A_s n_s c_s,I k, .slice A_l n_l c_l] w.heap.size w [] (fun v R'=> ∃A c,v= .tuple #[.slice A s.length c, .bool true]∧R'=[(ri 3 A s.length c (pK s k l))]):=by
 obtain rfl:=h_s.lenI
 obtain rfl:=h_l.lenI
 refine fnV Tryz.func291 Z Z ?_
 have m_s:=h_s.max
 have m_l:=h_l.max
 have hk:=hok.1
 have hs:=hok.2
 have hll:=ZU hp
 have hcl:(dQ s k).length=k.toNat:=dM _ _
 refine fP ?_
 refine aM<|wg Z<|wn Z ?_
 refine fP ?_
 refine aM<|wm Z<|wm Z<|wa (aF VH Z (Ct.fresh (fun w hw=>nI ((h_s.c _) w hw) (by first|assumption|omega|decide)))) ?_
 rintro _ _ ⟨_,rfl,A_1,c_2,rfl,rfl⟩
 refine wm Z<|wX Z Z<|wX Z Z<|wg Z<|wn Z ?_
 refine fP ?_
 refine aM<|wm Z<|wa (aF aXc Z (LF)) ?_
 rintro _ _ ⟨g_3,rfl,rfl⟩
 refine wa (aF aXd Z (Ct.fresh (fun w hw=>LX ((h_l.c _) w hw) ((rdr 0 Z) w hw) (by omega)))) ?_
 rintro _ _ ⟨_,rfl,A_5,c_6,rfl,rfl⟩
 refine wn Z ?_
 refine fP ?_
 refine wq<|wm Z<|wy (dI Z)<|wm Z<|aC Z Z<|wm Z<|aC Z Z<|wm Z<|aC Z Z<|wa (aF aXh Z (Ct.fresh (fun w hw=>UT ((h_s.c _) w hw) (by first|assumption|omega|decide)))) ?_
 rintro _ _ ⟨_,rfl,A_8,c_9,rfl,rfl⟩
 refine aC Z Z<|wa (aF bCh Z (Ct.quiet (fun w hw=>NM ((rdr 1 Z) w hw) ((rdr 0 Z) w hw) (by rw[(kR l).length_eq];omega)))) ?_
 rintro _ _ ⟨rfl,rfl⟩
 refine kK 30 Z (aFs.2 hp)<|aC Z Z<|wy (dI Z)<|wy (aS Z Z)<|aA<|aL Z<|aK ?_
 refine fP ?_
 refine wq<|wm Z<|wy (aQ underlying52 Z)<|wy (bC Z Z)<|aA<|bM Z (fun hc1=> ?_) (fun hc1=> ?_)
 ·refine wq<|wa (bS .i64 [] underlying52 zs3 Z Z Z) ?_
  rintro _ _ ⟨g_12,rfl,rfl⟩
  refine wg Z<|wn Z<|aT [0] 99 (by decide) Z ?_
  refine aOz Z Gd.refl ⟨_,_,Z,Z,?_⟩
  have e:s=[]:=List.eq_nil_of_length_eq_zero (by omega)
  subst e
  rw[UL hp]
  exact⟨_,_,Z,Z⟩
 ·have hn:0<s.length:=by omega
  refine aK ?_
  refine fP ?_
  refine aM<|wm Z<|wm Z<|wa (aF aXe Z (Ct.fresh (fun w hw=>SL ((h_s.c _) w hw) (by first|assumption|omega|decide)))) ?_
  rintro _ _ ⟨_,rfl,A_13,c_14,rfl,rfl⟩
  refine wm Z<|wa (bS .i64 [-1] underlying52 zs3 Z Z Z) ?_
  rintro _ _ ⟨g_16,rfl,rfl⟩
  refine wm Z<|wy (aQ underlying52 Z)<|wa (aF bCu Z (Ct.fresh (fun w hw=>YM ((rdr 0 Z) w hw) Z Z ⟨by omega,by omega⟩))) ?_
  rintro _ _ ⟨_,rfl,A_17,c_18,rfl,rfl⟩
  refine wy (dY (v:= .agg #[.slice A_s s.length c_s, .slice A_13 s.length c_14, .slice A_1 ((k).toNat) c_2, .slice A_17 s.length c_18]) Z (fun w=>by kernel_rfl))<|wa (bX (sz:=4) rfl rfl) ?_
  rintro _ _ ⟨g_19,rfl,rfl⟩
  refine wa (iI (sz:=1) bBc Z) ?_
  rintro _ _ ⟨g_21,rfl,rfl⟩
  refine bY (aY 0 Z Z Z bBx Z Z Z Z (Nat.le_of_ble_eq_true Z)) ?_
  rintro _ _ rfl
  refine aA ?_
  refine fP ?_
  refine aM<|wy (aJ (rdr 0 Z) underlying350 Z Z Z)<|wa (aF aXb Z (aEb (rdr 1 Z) (rdr 8 Z) hk hs hN)) ?_
  rintro _ _ ⟨A_22,c_23,rfl,rfl⟩
  refine wa (iI (sz:=1) bFf Z) ?_
  rintro _ _ ⟨g_25,rfl,rfl⟩
  refine bY (aY 0 Z Z Z gX Z Z Z Z (Nat.le_of_ble_eq_true Z)) ?_
  rintro _ _ rfl
  refine aA ?_
  refine aCb ?_
  refine fP ?_
  refine aM<|wm Z<|wa (aF aXq Z (WV)) ?_
  rintro _ _ ⟨g_26,rfl,rfl⟩
  refine aA ?_
  refine DY ?_
  refine aKk Z aXk (JR (A:=A_l) (c:=c_l) (zs:=l) (by omega)) Z (fun _=>Z) Gd.refl (fun(kr:Nat) (D:List Int) (H:List Int)=>[(rc 52 1 g_26 [.slice A_l l.length c_l]),(rc 52 1 g_25 [.slice A_22 k.toNat c_23]),(ri 3 A_22 k.toNat c_23 H),(rc 350 1 g_21 [.pointer (GG g_19)]),(rc 352 4 g_19 [.slice A_s s.length c_s, .slice A_13 s.length c_14, .slice A_1 ((k).toNat) c_2, .slice A_17 s.length c_18]),(ri 3 A_17 s.length c_18 D),(ri 3 (GG g_16) 1 1 ([-1])),⟨4,1,A_13,s.length,c_14,bools (smL s),false⟩,(ri 3 A_8 ((bL s).length) c_9 (bL s)),(ri 3 A_5 ((jZ l).length) c_6 (jZ l)),(rc 52 1 g_3 [.slice A_l l.length c_l]),(ri 3 A_1 ((k).toNat) c_2 (dQ s k))]) (fun kr D H=>(D=(itF s k (l.drop (l.length-kr))).1)∧(H=(itF s k (l.drop (l.length-kr))).2)) ?_ ?_ ?_ ?_
  ·exact⟨List.replicate s.length ((-1):Int),pM (dQ s k),⟨(by rw[Nat.sub_zero,List.drop_length];rfl),(by rw[Nat.sub_zero,List.drop_length];rfl)⟩,fun _ h=>h⟩
  ·intro kr D H w ⟨hD,hH⟩ hw
   exact⟨(rdr 0 Z) w hw,(h_l.c _) w hw⟩
  ·intro lr kr D H WW2 hkr ⟨hD,hH⟩ hbW2
   obtain⟨f1,f2,f3,f4,f5,f6⟩:=fFZ hk.1 hs hp hkr hD hH
   refine aM<|wn Z ?_
   intro WW23 hbW23
   refine aI<|aM<|wy (aJ (rdr 3 Z) underlying350 Z Z Z)<|wy (aJ (rdr 1 Z) underlying52 Z Z Z)<|wm Z<|dH (R1:=[(ri 3 A_17 s.length c_18 D),(ri 3 A_22 k.toNat c_23 H),(rc 52 1 g_26 [.slice A_l l.length c_l]),(rc 52 1 g_25 [.slice A_22 k.toNat c_23]),(rc 350 1 g_21 [.pointer (GG g_19)]),(rc 352 4 g_19 [.slice A_s s.length c_s, .slice A_13 s.length c_14, .slice A_1 ((k).toNat) c_2, .slice A_17 s.length c_18]),(ri 3 (GG g_16) 1 1 ([-1])),⟨4,1,A_13,s.length,c_14,bools (smL s),false⟩,(ri 3 A_8 ((bL s).length) c_9 (bL s)),(ri 3 A_5 ((jZ l).length) c_6 (jZ l)),(rc 52 1 g_3 [.slice A_l l.length c_l]),(ri 3 A_1 ((k).toNat) c_2 (dQ s k))]) (Sub.refl _) (fun _ h=>h.sel [5,2,0,1,3,4,6,7,8,9,10,11] (by decide) Z)<|wa (aF aXa Z (aOa (row:=D) (E:=H) (j:=(rd l ((l.length-1-kr:Nat):Int))) (rdr 3 Z) (h_s.cb hbW23 _) hk hN f1 f2 ⟨f4.1,f4.2,Z⟩ f3)) ?_
   rintro _ _ ⟨rfl,rfl⟩
   refine aA ?_
   exact⟨upd D ((rd H (rd s (rd l ((l.length-1-kr:Nat):Int))))-1) (rd l ((l.length-1-kr:Nat):Int)),upd H (rd s (rd l ((l.length-1-kr:Nat):Int))) ((rd H (rd s (rd l ((l.length-1-kr:Nat):Int))))-1),⟨(f5),(f6)⟩,fun _=>fun _ h=>h.sel [2,3,1,4,5,0,6,7,8,9,10,11] (by decide) Z⟩
  intro WW25 DW2 D H ⟨hD,hH⟩ hbW25 hGW25
  rw[Nat.sub_self,List.drop_zero] at hD
  refine aCd ?_
  refine aSb ?_
  refine v_w ?_
  refine wq<|wy (aJ (rdr 3 Z) underlying350 Z Z Z)<|dH (R1:=[(ri 3 A_17 s.length c_18 D),(rc 52 1 g_26 [.slice A_l l.length c_l]),(rc 52 1 g_25 [.slice A_22 k.toNat c_23]),(ri 3 A_22 k.toNat c_23 H),(rc 350 1 g_21 [.pointer (GG g_19)]),(rc 352 4 g_19 [.slice A_s s.length c_s, .slice A_13 s.length c_14, .slice A_1 ((k).toNat) c_2, .slice A_17 s.length c_18]),(ri 3 (GG g_16) 1 1 ([-1])),⟨4,1,A_13,s.length,c_14,bools (smL s),false⟩,(ri 3 A_8 ((bL s).length) c_9 (bL s)),(ri 3 A_5 ((jZ l).length) c_6 (jZ l)),(rc 52 1 g_3 [.slice A_l l.length c_l]),(ri 3 A_1 ((k).toNat) c_2 (dQ s k))]) (Sub.refl _) (fun _ h=>h.sel [5,0,1,2,3,4,6,7,8,9,10,11] (by decide) Z)<|wa (aF bCt Z (aOb (row:=D) (rdr 4 Z) (h_s.cb hbW25 _) (rdr 6 Z) (rdr 10 Z) hk hs hN hp hn hD)) ?_
  rintro _ _ ⟨rfl,rfl⟩
  refine aA<|wq<|wy (aJ (rdr 4 Z) underlying350 Z Z Z)<|wa (aF bCs Z (aFu (rdr 4 Z) (h_s.cb hbW25 _) (rdr 6 Z) (rdr 10 Z) hk hs hN hp hn)) ?_
  rintro _ _ ⟨rfl,rfl⟩
  refine aA<|wq<|wy (aJ (rdr 4 Z) underlying350 Z Z Z)<|wy (aD Z)<|wy (aB (off:=3) (m:=3) underlying352 Z gX Z Z Z)<|wy (aJ (rdr 5 Z) underlying52 Z Z Z)<|wg Z<|wn Z<|aT [0] 99 (by decide) Z ?_
  refine aOz Z hGW25 ⟨_,_,Z,Z,?_⟩
  exact⟨_,_,Z,Z⟩
end Go.Proofs.YtdbebmmhdefgdaaGreat
namespace Go.Eng
open Go Go.RowKit
section
variable {P:Program} {n:Nd} {B:Nat} {w0:World} {ops:Array Oper} {K:Env→List Row→Prop} {L:Env} {R Rc:List Row} {op:Op} {ty:TypeId} {pos:String} {aft:Array Edge}
def WDc (P:Program) (n:Nd) (B:Nat) (w0:World) (ops:Array Oper) (K:Env→List Row→Prop) (fuel:Nat) (listed:Array Bool) (L:Env) (R Rc:List Row):Prop:=
 ∀a w (Q:Exit→Act→World→Prop),Sat n L a→Hp B w0 w R→(∀w,Hp B w0 w R→Hp B w0 w Rc)→(∀c a w,¬Q (.panic c) a w)→(∀a' w' L' R',Sat n L' a'→Hp B w0 w' R'→K L' R'→Q .normal a' w')→wE P ops Q fuel (fun w=>Hp B w0 w Rc) listed a w
def aYe (P:Program) (n:Nd) (B:Nat) (w0:World) (ops:Array Oper) (K:Env→List Row→Prop) (fuel:Nat) (listed:Array Bool) (L:Env) (R Rc:List Row) (i:Nat):Prop:=
 ∀a w (Q:Exit→Act→World→Prop),Sat n L a→Hp B w0 w R→(∀w,Hp B w0 w R→Hp B w0 w Rc)→(∀c a w,¬Q (.panic c) a w)→(∀a' w' L' R',Sat n L' a'→Hp B w0 w' R'→K L' R'→Q .normal a' w')→
  wpOp P ops Q i (fun a' w'=> ∃S':World→Prop,S' w'∧(WU ops listed i=true∨ ∀x,S' x→Hp B w0 x Rc)∧wE P ops Q fuel S' (listed.setIfInBounds i true) a' w') a w
theorem QC {d:Nat} {v:Value} {fuel:Nat} {listed:Array Bool} (i:Nat) (hi:ops[i]? =some {dst:=some d,op:=op,type:=ty,pos:=pos,after:=aft,guard:=none}) (hc:chk ops listed i=true) (hn:Nat.blt d n=true)
  (hy:Yl P n B w0 op ty L Rc v) (h:WDc P n B w0 ops K fuel (listed.setIfInBounds i true) ((d,v)::L) R Rc):WDc P n B w0 ops K (fuel+1) listed L R Rc:=by
 intro a w Q hs hp hsub hpan hq
 simp only[chk,Bool.and_eq_true] at hc
 obtain⟨⟨⟨h1,h2⟩,h3⟩,h4⟩:=hc
 refine xL hi (Region.noSelect_spec h1) (fun c a w hh=>(hpan c _ w hh).elim) fuel _ listed a w h4 (Region.free_spec hi h2) (by simpa using h3) (.inl ⟨rfl,fun w hw=>hy a w _ rfl rfl hs hw⟩) (hsub w hp) ?_
 exact h _ w Q (hs.put hn v) hp hsub hpan hq
theorem bAn {fuel:Nat} {listed:Array Bool} (hr:Region.ready .any ops listed=[]) (h:K L R):WDc P n B w0 ops K fuel listed L R Rc:=by
 intro a w Q hs hp _ hpan hq
 cases fuel with
 |zero=>exact⟨hr,hq _ _ L R hs hp h⟩
 |succ fuel=>exact⟨fun _=>hq _ _ L R hs hp h,by rw[hr];simp⟩
theorem bFb {Post:Value→List Row→Prop} {fuel:Nat} {listed:Array Bool} (i:Nat) (hi:ops[i]? =some {dst:=none,op:=op,type:=ty,pos:=pos,after:=aft,guard:=none}) (ha:Ac P n B w0 op ty L R Post)
  (h: ∀v R',Post v R'→(∀w,Hp B w0 w R'→Hp B w0 w Rc)∧WDc P n B w0 ops K fuel (listed.setIfInBounds i true) L R' Rc):aYe P n B w0 ops K fuel listed L R Rc i:=by
 intro a w Q hs hp hsub hpan hq
 unfold wpOp
 simp only[hi]
 rw[if_pos (by simp[Region.wanted])]
 refine .inl (ha a w _ _ Q rfl rfl hs hp fun v w' R' hp' hv=> ?_)
 obtain⟨h1,h2⟩:=h v R' hv
 exact⟨fun w=>Hp B w0 w Rc,h1 w' hp', .inr fun _ h=>h,h2 _ w' Q hs hp' h1 hpan hq⟩
theorem aQw {fuel:Nat} {listed:Array Bool} (i:Nat) (hr:Region.ready .any ops listed=[i]) (hi:aYe P n B w0 ops K fuel listed L R Rc i):WDc P n B w0 ops K (fuel+1) listed L R Rc:=by
 intro a w Q hs hp hsub hpan hq
 refine⟨fun h0=>absurd (hr▸h0) (by simp),fun k hk=> ?_⟩
 rw[hr] at hk
 obtain rfl:=List.mem_singleton.1 hk
 exact hi a w Q hs hp hsub hpan hq
end
end Go.Eng
namespace Go.Proofs.YtdbebmmhdefgdaaGreat
open Go Go.Eng Go.Pure
set_option maxRecDepth 100000
theorem vM {s l:List Int} {k:Int} (hk:0≤k) (hs: ∀x∈s,0≤x∧x<k) (hp:l.Perm (bL s)):(pK s k l).length=s.length∧(pK s k l).Perm (iota s.length)∧(∀q:Int,0≤q→q+1<s.length→rd s (rd (pK s k l) q)≤rd s (rd (pK s k l) (q+1)))∧(l.Pairwise (bU s)→(pK s k l).Pairwise (bU s)):=by
 refine⟨aOn hk hs hp,?_⟩
 rcases Nat.eq_zero_or_pos s.length with h|h
 ·have e:s=[]:=List.eq_nil_of_length_eq_zero h
  subst e
  rw[UL hp]
  exact⟨.refl _,fun q h0 h1=>by simp at h1;omega,fun _=> .nil⟩
 ·exact aDu hk hs hp h
open Tryz
variable {w:World} {A_s:Option Addr} {n_s c_s:Nat} {s:List Int} {k:Int}
theorem TJ {A_x:Option Addr} {n_x c_x:Nat} {x:List Int} {i:Int} (h_s:Rd w A_s n_s c_s 1 (ints .i64 s)) (h_x:Rd w A_x n_x c_x 1 (ints .i64 x)) (hi:0≤i∧i<s.length) (hx:x.length=s.length) (hlo:i<rd x i) (hhi:rd x i≤s.length) (hN:s.length≤1000000):
  Ct Tryz.prog 321 #[.slice A_s n_s c_s, .slice A_x n_x c_x,I i] w.heap.size w [] (fun v R'=>v= .slice (iY A_s i.toNat c_s 1) ((min (rd x i+1) ((s.length:Nat):Int)).toNat-i.toNat) (c_s-i.toNat)):=by
 obtain rfl:=h_s.lenI
 obtain rfl:=h_x.lenI
 refine fn1 Tryz.func321 Z Z Z ?_
 have m_s:=h_s.max
 have m_x:=h_x.max
 refine wq<|wn Z<|wq<|wm Z<|wm Z<|wm Z<|wm Z<|wy (aH underlying52 sz3 Z Z (h_x.c _))<|wy (aX underlying3 Z Z (h_x.c _))<|wA Z Z<|wm Z<|wy (aQ underlying52 Z) ?_
 refine wy (vQ Z Z)<|wy (aBv underlying52 sz3 Z Z Z (h_s.c _) (by omega) (by omega) (by omega))<|wn Z<|dJ ?_
 refine⟨_,Z,?_⟩
 rfl
set_option maxHeartbeats 1000000 in
theorem aNl {A_f:Option Addr} {n_f c_f:Nat} {f:List Int} {A_o:Option Addr} {n_o c_o:Nat} {o:List Int} (h_s:Rd w A_s n_s c_s 1 (ints .i64 s)) (h_f:Rd w A_f n_f c_f 1 (ints .i64 f)) (h_o:Rd w A_o n_o c_o 1 (ints .i64 o)) (hs:Nn s) (hf:f=bL s) (hop:o.Perm (iota s.length)) (hoo:o.Pairwise (pcS s)) (hN:s.length≤1000000):
  Ct Tryz.prog 292 #[.slice A_s n_s c_s, .slice A_f n_f c_f, .slice A_o n_o c_o] w.heap.size w [] (fun v R'=> ∃(nx nm:List Int) (n la:Int) (A:Option Addr) (c:Nat),v= .tuple #[.slice A f.length c,I (n+1)]∧rJ s nx (bL s).length∧xE s o nx s.length nm n la∧R'=[(ri 3 A f.length c (f.map (rd nm)))]):=by
 obtain rfl:=h_s.lenI
 obtain rfl:=h_f.lenI
 obtain rfl:=h_o.lenI
 refine fn2 Tryz.func292 Z Z Z ?_
 have m_s:=h_s.max
 have m_f:=h_f.max
 have m_o:=h_o.max
 have hol:o.length=s.length:=by rw[hop.length_eq,bF]
 have hfl:f.length≤s.length:=by rw[hf];exact IP
 refine wq<|wg Z<|wn Z<|wq<|wm Z<|wy (aQ underlying52 Z)<|wa (dE underlying52 zb3 Z Z) ?_
 rintro _ _ ⟨g_1,rfl,rfl⟩
 refine bN (v:= .slice (GG g_1) s.length s.length) Z<|wn Z<|aG<|wq<|wm Z<|wy (aQ underlying52 Z)<|wm Z<|aA<|aI ?_
 refine dR (fun(i:Int) (V:List Int)=>[(0, .slice A_s s.length c_s),(1, .slice A_f f.length c_f),(2, .slice A_o o.length c_o),(8, .slice (GG g_1) s.length s.length),(22, .slice A_f f.length c_f),(23,I ((f.length:Nat):Int)),(24,I i)]) (fun i V=>[(ri 3 (GG g_1) s.length s.length V)]) (fun i V=>(0≤i)∧(i≤f.length)∧(rJ s V i)) (fun i V=>(f.length-i).toNat) ?_ ?_
 ·exact⟨0,List.replicate s.length (0:Int),⟨by omega,by omega,(aTx)⟩,(G7 Z Z Z Z Z Z Z),fun _ h=>h⟩
 intro i V ⟨hi0,hi1,hV⟩
 have hVl:=hV.len
 have hfi:i<f.length→0≤rd f i∧rd f i<s.length:=fun h=>by subst hf;exact(nD hi0 h).1
 refine wq<|wL Z Z<|aA<|aG<|bM Z (fun hc1=> ?_) (fun hc1=> ?_)
 ·have hfi2:=hfi (by omega)
  refine aK<|aG<|aI<|wq<|wm Z<|wy (aH underlying52 sz3 Z Z (h_f.c _))<|wy (aX underlying3 Z Z (h_f.c _))<|wg Z<|wn Z<|wq<|wm Z<|wm Z ?_
  refine wm Z<|wy (aQ underlying52 Z)<|wy (aH underlying52 sz3 Z Z (rdr 0 Z))<|bY (bG 0 Z sz3 Z Z) ?_
  rintro _ _ rfl
  refine aA<|wq<|wm Z<|wA Z Z<|wm Z<|wy (aQ underlying52 Z)<|wL Z Z<|aA<|bM Z (fun hc2=> ?_) (fun hc2=> ?_)
  ·refine aM<|wm Z<|wm Z<|wm Z<|wm Z<|wA Z Z<|wy (aH underlying52 sz3 Z Z (h_f.c _))<|wy (aX underlying3 Z Z (h_f.c _))<|wy (aH underlying52 sz3 Z Z (rdr 0 Z))<|bY (bG 0 Z sz3 Z Z) ?_
   rintro _ _ rfl
   refine aA<|aM<|wA Z Z<|wm Z<|aA ?_
   exact⟨i+1,upd (upd V (rd f i) ((s.length:Nat):Int)) (rd f i) (rd f (i+1)),⟨by omega,by omega,(by subst hf;exact hV.step2 hi0 (by omega) (by omega))⟩,by omega,(G7 Z Z Z Z Z Z Z),fun _ h=>h⟩
  ·refine aK<|aM<|wA Z Z<|wm Z<|aA ?_
   exact⟨i+1,upd V (rd f i) ((s.length:Nat):Int),⟨by omega,by omega,(by subst hf;exact hV.step1 hi0 (by omega) (by omega))⟩,by omega,(G7 Z Z Z Z Z Z Z),fun _ h=>h⟩
 ·have hV2:rJ s V (bL s).length:=by have e:i=(bL s).length:=(by rw[←hf];omega);rw[←e];exact hV
  refine aZ<|wq<|wm Z<|wy (aQ underlying52 Z)<|wa (dE underlying52 zb3 Z Z) ?_
  rintro _ _ ⟨g_2,rfl,rfl⟩
  refine bN (v:= .slice (GG g_2) s.length s.length) Z<|wn Z<|wq<|wg Z<|wn Z<|aG<|wq<|wm Z<|wy (aQ underlying52 Z)<|wm Z<|aA ?_
  refine aI ?_
  refine DX (fun(q:Int) (U:List Int) (n:Int) (la:Int)=>[(0, .slice A_s s.length c_s),(1, .slice A_f f.length c_f),(8, .slice (GG g_1) s.length s.length),(11, .slice (GG g_2) s.length s.length),(12,I n),(13,I la),(51, .slice A_o o.length c_o),(52,I ((o.length:Nat):Int)),(53,I q)]) (fun q U n la=>[(ri 3 (GG g_2) s.length s.length U),(ri 3 (GG g_1) s.length s.length V)]) (fun q U n la=>(0≤q)∧(q≤o.length)∧(xE s o V q U n la)) (fun q U n la=>(o.length-q).toNat) ?_ ?_
  ·exact⟨0,List.replicate s.length (0:Int),0,-1,⟨by omega,by omega,(aNo)⟩,(G9 Z Z Z Z Z Z Z Z Z),fun _ h=>h⟩
  intro q U n la ⟨hq0,hq1,hM⟩
  have hUl:=hM.len
  have hMb:=hM.bd
  have hla:=hM.last_in hop (by omega)
  have hlx:0≤la→la<s.length∧la<rd V la∧rd V la≤s.length:=fun h=>by
   rcases hla with e|⟨e,e2⟩
   ·omega
   ·have g:=hV2.nx e.1 e.2 e2
    exact⟨e.2,g.gt,g.le⟩
  have hoq:q<o.length→0≤rd o q∧rd o q<s.length:=fun h=>aW.1 (hop.subset (bH (L:=o) hq0 h))
  have hoz:q<o.length→(rd V (rd o q)=0↔fG s (rd o q)=false):=fun h=>hV2.zero (hoq h).1 (hoq h).2
  refine wq<|wL Z Z<|aA<|aG<|bM Z (fun hc3=> ?_) (fun hc3=> ?_)
  ·have hoq2:=hoq (by omega)
   have hoz2:=hoz (by omega)
   refine aK<|aG<|aI<|wq<|wy (aH underlying52 sz3 Z Z (h_o.c _))<|wy (aX underlying3 Z Z (h_o.c _))<|wn Z<|aG<|wq<|wm Z<|wm Z<|wy (aH underlying52 sz3 Z Z (rdr 1 Z)) ?_
   refine wy (aX underlying3 Z Z (rdr 1 Z))<|wy (bC Z Z)<|aA<|bM Z (fun hc4=> ?_) (fun hc4=> ?_)
   ·have hfq:=hoz2.1 hc4
    refine aZ<|aM<|wA Z Z<|wm Z<|aA ?_
    exact⟨q+1,U,n,la,⟨by omega,by omega,(hM.skip hfq)⟩,by omega,(G9 Z Z Z Z Z Z Z Z Z),fun _ h=>h⟩
   ·have hfq:fG s (rd o q)=true:=by
     cases e:fG s (rd o q) with
     |true=>rfl
     |false=>exact absurd (hoz2.2 e) hc4
    have hgx:=hV2.nx hoq2.1 hoq2.2 hfq
    have hg1:=hgx.gt
    have hg2:=hgx.le
    have hlm: -1≤la:=by omega
    refine aK<|aG<|wq<|wm Z<|wy (jG Z Z)<|wm Z<|dS 29 [(0, .slice A_s s.length c_s),(1, .slice A_f f.length c_f),(8, .slice (GG g_1) s.length s.length),(11, .slice (GG g_2) s.length s.length),(12,I n),(15,I (rd o q)),(51, .slice A_o o.length c_o),(52,I ((o.length:Nat):Int)),(53,I q),(93, .bool (decide ((0≤la)∧((((rd V (rd o q))=((s.length:Nat):Int))∨((rd V la)=((s.length:Nat):Int)))∨(¬((((s).drop (la).toNat).take ((min (rd V la+1) ((s.length:Nat):Int)).toNat-la.toNat))=(((s).drop (rd o q).toNat).take ((min (rd V (rd o q)+1) ((s.length:Nat):Int)).toNat-(rd o q).toNat))))))))] [(ri 3 (GG g_2) s.length s.length U),(ri 3 (GG g_1) s.length s.length V)] ?_ ?_
    ·refine dC 64 Z (fun hc5=> ?_) (fun hc5=> ?_)
     ·refine aC Z Z<|wm Z<|aC Z Z<|wm Z<|aC Z Z<|wy (aH underlying52 sz3 Z Z (rdr 1 Z))<|aC Z Z<|wy (aX underlying3 Z Z (rdr 1 Z))<|aC Z Z<|wm Z<|aC Z Z<|wy (aQ underlying52 Z)<|aC Z Z<|wy (bC Z Z)<|aC Z Z ?_
      refine wm Z<|dS 8 [(0, .slice A_s s.length c_s),(1, .slice A_f f.length c_f),(8, .slice (GG g_1) s.length s.length),(11, .slice (GG g_2) s.length s.length),(12,I n),(13,I la),(15,I (rd o q)),(51, .slice A_o o.length c_o),(52,I ((o.length:Nat):Int)),(53,I q),(64, .bool true),(80, .bool (decide (((rd V (rd o q))=((s.length:Nat):Int))∨((rd V la)=((s.length:Nat):Int)))))] [(ri 3 (GG g_2) s.length s.length U),(ri 3 (GG g_1) s.length s.length V)] ?_ ?_
      ·refine dC 72 Z (fun hc6=> ?_) (fun hc6=> ?_)
       ·refine aP Z Z Z Z<|aP Z Z Z Z<|aP Z Z Z Z<|aP Z Z Z Z<|aP Z Z Z Z<|aP Z Z Z Z<|aP Z Z Z Z<|aC Z Z<|wy (bA Z Z)<|aA ?_
        exact⟨(sc Z (sc Z (sc Z (sc Z (sc Z (sc Z (sc Z (sc Z (sc Z (sc Z (sc Z (Sub.to Z mtA Sub.nil)))))))))))),fun _ h=>h⟩
       ·refine aC Z Z<|wm Z<|aC Z Z<|wm Z<|aC Z Z<|wy (aH underlying52 sz3 Z Z (rdr 1 Z))<|aC Z Z<|wy (aX underlying3 Z Z (rdr 1 Z))<|aC Z Z<|wm Z<|aC Z Z<|wy (aQ underlying52 Z)<|aC Z Z<|wy (bC Z Z)<|aC Z Z ?_
        refine wy (aS Z Z)<|aA ?_
        exact⟨(sc Z (sc Z (sc Z (sc Z (sc Z (sc Z (sc Z (sc Z (sc Z (sc Z (sc Z (Sub.to Z mbA Sub.nil)))))))))))),fun _ h=>h⟩
      refine aC Z Z<|wm Z<|dS 11 [(0, .slice A_s s.length c_s),(1, .slice A_f f.length c_f),(8, .slice (GG g_1) s.length s.length),(11, .slice (GG g_2) s.length s.length),(12,I n),(15,I (rd o q)),(51, .slice A_o o.length c_o),(52,I ((o.length:Nat):Int)),(53,I q),(64, .bool true),(92, .bool (decide ((((rd V (rd o q))=((s.length:Nat):Int))∨((rd V la)=((s.length:Nat):Int)))∨(¬((((s).drop (la).toNat).take ((min (rd V la+1) ((s.length:Nat):Int)).toNat-la.toNat))=(((s).drop (rd o q).toNat).take ((min (rd V (rd o q)+1) ((s.length:Nat):Int)).toNat-(rd o q).toNat)))))))] [(ri 3 (GG g_2) s.length s.length U),(ri 3 (GG g_1) s.length s.length V)] ?_ ?_
      ·refine dC 81 Z (fun hc7=> ?_) (fun hc7=> ?_)
       ·refine aP Z Z Z Z<|aP Z Z Z Z<|aP Z Z Z Z<|aP Z Z Z Z<|aP Z Z Z Z<|aP Z Z Z Z<|aP Z Z Z Z<|aP Z Z Z Z<|aP Z Z Z Z<|aP Z Z Z Z<|aC Z Z<|wy (bA Z Z)<|aA ?_
        exact⟨(sc Z (sc Z (sc Z (sc Z (sc Z (sc Z (sc Z (sc Z (sc Z (sc Z (Sub.to Z mtA Sub.nil))))))))))),fun _ h=>h⟩
       ·refine aC Z Z<|wm Z<|aC Z Z<|wm Z<|aC Z Z<|wm Z<|aC Z Z<|wa (aF aWz Z (Ct.quiet (fun w hw=>TJ ((h_s.c _) w hw) ((rdr 1 Z) w hw) (by first|assumption|omega|decide) (by first|assumption|omega|decide) (by first|assumption|omega|decide) (by first|assumption|omega|decide) (by first|assumption|omega|decide)))) ?_
        rintro _ _ ⟨rfl,rfl⟩
        refine aC Z Z<|wm Z<|aC Z Z<|wm Z<|aC Z Z<|wm Z<|aC Z Z<|wa (aF aWz Z (Ct.quiet (fun w hw=>TJ ((h_s.c _) w hw) ((rdr 1 Z) w hw) (by first|assumption|omega|decide) (by first|assumption|omega|decide) (by first|assumption|omega|decide) (by first|assumption|omega|decide) (by first|assumption|omega|decide)))) ?_
        rintro _ _ ⟨rfl,rfl⟩
        refine aC Z Z<|wa (aF bCh Z (Ct.quiet (fun w hw=>NM ((RdC.cutI (h_s.c _) (by omega) (by omega)) w hw) ((RdC.cutI (h_s.c _) (by omega) (by omega)) w hw) (by rw[List.length_take,List.length_drop];omega)))) ?_
        rintro _ _ ⟨rfl,rfl⟩
        refine aC Z Z<|wy (EO Z)<|aC Z Z<|wy (aS Z Z)<|aA ?_
        exact⟨(sc Z (sc Z (sc Z (sc Z (sc Z (sc Z (sc Z (sc Z (sc Z (sc Z (Sub.to Z mbA Sub.nil))))))))))),fun _ h=>h⟩
      refine wy (bA Z Z)<|aA ?_
      exact⟨(sc Z (sc Z (sc Z (sc Z (sc Z (sc Z (sc Z (sc Z (sc Z (Sub.to Z mbA Sub.nil)))))))))),fun _ h=>h⟩
     ·refine aP Z Z Z Z<|aP Z Z Z Z<|aP Z Z Z Z<|aP Z Z Z Z<|aP Z Z Z Z<|aP Z Z Z Z<|aP Z Z Z Z<|aP Z Z Z Z<|dX Z Z Z<|dX Z Z Z<|dX Z Z Z<|dX Z Z Z<|dX Z Z Z<|dX Z Z Z<|dX Z Z Z ?_
      refine aP Z Z Z Z<|aP Z Z Z Z<|dX Z Z Z<|dX Z Z Z<|dX Z Z Z<|dX Z Z Z<|dX Z Z Z<|dX Z Z Z<|dX Z Z Z<|dX Z Z Z<|dX Z Z Z<|dX Z Z Z<|aP Z Z Z Z<|wy (aS Z Z)<|aA ?_
      exact⟨(sc Z (sc Z (sc Z (sc Z (sc Z (sc Z (sc Z (sc Z (sc Z (Sub.to Z mfA Sub.nil)))))))))),fun _ h=>h⟩
    refine aA<|bM Z (fun hc8=> ?_) (fun hc8=> ?_)
    ·have hst:=aNn (n:=n) hlx hoq2.1 hg1 hg2 hc8
     refine aM<|wm Z<|wA Z Z<|wn Z<|aM<|wm Z<|wm Z<|wm Z<|wm Z<|wy (aH underlying52 sz3 Z Z (rdr 0 Z))<|bY (bG 0 Z sz3 Z Z) ?_
     rintro _ _ rfl
     refine wn Z<|aM<|wA Z Z<|wm Z<|aA ?_
     exact⟨q+1,upd U (rd o q) (n+1),n+1,rd o q,⟨by omega,by omega,(hM.step hs hop hoo hV2 hq0 (by omega) hfq hst)⟩,by omega,(G9 Z Z Z Z Z Z Z Z Z),fun _ h=>h⟩
    ·have hst:=aNm (n:=n) hlm hlx hoq2.1 hg1 hg2 hc8
     refine aK<|aM<|wm Z<|wm Z<|wm Z<|wm Z<|wy (aH underlying52 sz3 Z Z (rdr 0 Z))<|bY (bG 0 Z sz3 Z Z) ?_
     rintro _ _ rfl
     refine wn Z<|aM<|wA Z Z<|wm Z<|aA ?_
     exact⟨q+1,upd U (rd o q) n,n,rd o q,⟨by omega,by omega,(hM.step hs hop hoo hV2 hq0 (by omega) hfq hst)⟩,by omega,(G9 Z Z Z Z Z Z Z Z Z),fun _ h=>h⟩
  ·refine aZ<|wq<|dH (R1:=[(ri 3 none 0 0 ([])),(ri 3 (GG g_2) s.length s.length U),(ri 3 (GG g_1) s.length s.length V)]) (Sub.refl _) (fun _ h=>h.nil 3 1)<|wn Z<|aG<|wq<|wm Z<|wy (aQ underlying52 Z)<|wm Z<|aA<|aI ?_
   refine jP (fun(A1:Option Addr) (n1:Nat) (c1:Nat) (acc:List Int) (j:Int)=>[(11, .slice (GG g_2) s.length s.length),(12,I n),(16, .slice A1 n1 c1),(102, .slice A_f f.length c_f),(103,I ((f.length:Nat):Int)),(104,I j)]) (fun A1 n1 c1 acc j=>[(ri 3 A1 n1 c1 acc),(ri 3 (GG g_2) s.length s.length U),(ri 3 (GG g_1) s.length s.length V)]) (fun A1 n1 c1 acc j=>(n1=acc.length)∧(0≤j)∧(j≤f.length)∧(acc=(f.take j.toNat).map (rd U))) (fun A1 n1 c1 acc j=>(f.length-j).toNat) ?_ ?_
   ·exact⟨none,0,0,[],0,⟨(Z),by omega,by omega,(Z)⟩,(G6 Z Z Z Z Z Z),fun _ h=>h⟩
   intro A1 n1 c1 acc j ⟨hn1,hj0,hj1,hacc⟩
   have hal:=congrArg List.length hacc
   rw[List.length_map,List.length_take] at hal
   have hfj:j<f.length→0≤rd f j∧rd f j<s.length:=fun h=>by subst hf;exact(nD hj0 h).1
   refine wq<|wL Z Z<|aA<|aG<|bM Z (fun hc9=> ?_) (fun hc9=> ?_)
   ·refine aK<|aG<|aI<|wq<|wy (aH underlying52 sz3 Z Z (h_f.c _))<|wy (aX underlying3 Z Z (h_f.c _))<|wn Z<|aM<|wm Z<|wm Z<|wm Z<|wy (aH underlying52 sz3 Z Z (rdr 1 Z))<|wy (aX underlying3 Z Z (rdr 1 Z)) ?_
    refine wa (bS .i64 [rd U (rd f j)] underlying52 zs3 Z Z Z) ?_
    rintro _ _ ⟨g_4,rfl,rfl⟩
    refine wa (bE 1 Z underlying52 zb3 Z Z Z (rdr 0 Z)) ?_
    rintro _ _ ⟨A_5,c_6,rfl,rfl⟩
    refine bN (v:= .slice A_5 (n1+1) c_6) Z<|wn Z<|aM<|wA Z Z<|wm Z<|aA ?_
    exact⟨A_5,n1+1,c_6,acc++([rd U (rd f j)]),j+1,⟨(by rw[List.length_append,hn1];try rfl),by omega,by omega,(by rw[dD hj0 (by omega),List.map_append,hacc];rfl)⟩,by omega,(G6 Z Z Z Z Z Z),fun _ h=>h.sel [1,2,3] (by decide) Z⟩
   ·refine aZ<|wq<|wm Z<|wm Z<|wA Z Z<|wg Z<|wn Z<|aT [0] 99 (by decide) Z ?_
    refine⟨_,_,Z,Z,?_⟩
    have hM2:xE s o V s.length U n la:=by have e:q=s.length:=(by omega);rw[←e];exact hM
    rw[List.take_of_length_le (by omega)] at hacc
    subst hacc
    obtain rfl:n1=f.length:=by omega
    exact⟨V,U,n,la,_,_,Z,hV2,hM2,Z⟩
set_option maxHeartbeats 1000000 in
theorem KG {w:World} {s:List Int} (h_s:Rd w A_s n_s c_s 1 (ints .i64 s)) (IH: ∀ {w:World} {A_t:Option Addr} {n_t c_t:Nat} {t:List Int} {j:Int},Rd w A_t n_t c_t 1 (ints .i64 t)→t.length<s.length→((0≤j∧j≤1048576)∧ ∀x∈t,0≤x∧x<j)→t.length≤1000000→Ct Tryz.prog 265 #[.slice A_t n_t c_t,I j] w.heap.size w [] (fun v R'=> ∃(b:List Int) (A:Option Addr) (c:Nat),v= .slice A t.length c∧b.Perm (iota t.length)∧b.Pairwise (bU t)∧R'=[(ri 3 A t.length c b)])) (hok:(0≤k∧k≤1048576)∧ ∀x∈s,0≤x∧x<k) (hN:s.length≤1000000):
  Ct Tryz.prog 265 #[.slice A_s n_s c_s,I k] w.heap.size w [] (fun v R'=> ∃(b:List Int) (A:Option Addr) (c:Nat),v= .slice A s.length c∧b.Perm (iota s.length)∧b.Pairwise (bU s)∧R'=[(ri 3 A s.length c b)]):=by
 obtain rfl:=h_s.lenI
 refine fn1 Tryz.func265 Z Z Z ?_
 have m_s:=h_s.max
 refine wq<|wn Z<|wq<|wm Z<|wa (aF aXh Z (Ct.fresh (fun w hw=>UT ((h_s.c _) w hw) (by first|assumption|omega|decide)))) ?_
 rintro _ _ ⟨_,rfl,A_1,c_2,rfl,rfl⟩
 refine wn Z<|wq<|wm Z<|wm Z<|wm Z<|wa (aF aXg Z (Ct.fresh (fun w hw=>aCk ((h_s.c _) w hw) ((rdr 0 Z) w hw) hok (.refl _) hN))) ?_
 rintro _ _ ⟨_,rfl,A_3,c_4,rfl,rfl⟩
 refine wm Z<|wX Z Z<|wX Z Z<|wg Z<|wn Z<|aG<|wq<|wm Z<|wy (aQ underlying52 Z)<|wL Z Z<|aA<|bM Z (fun hc1=> ?_) (fun hc1=> ?_)
 ·refine wq<|wm Z<|wn Z<|aT [0] 99 (by decide) Z ?_
  refine⟨_,Z,?_⟩
  exact⟨_,_,_,Z,(vM hok.1.1 hok.2 (.refl _)).2.1,(vM hok.1.1 hok.2 (.refl _)).2.2.2 (aMm (by omega)),Z⟩
 ·have hn1:0<s.length:=by have:=IP (s:=s);omega
  have hpc:=ZP hok.1.1 hok.2 (l:=bL s) (.refl _) hn1
  have hsn:Nn s:=fun x hx=>(hok.2 x hx).1
  have hless:=aHt hn1
  refine aK<|wq<|wm Z<|wm Z<|wm Z<|wa (aF bDa Z (Ct.fresh (fun w hw=>aNl ((h_s.c _) w hw) ((rdr 1 Z) w hw) ((rdr 0 Z) w hw) hsn Z hpc.1 hpc.2 hN))) ?_
  rintro _ _ ⟨_,rfl,nx,nm,n,la,A_6,c_7,rfl,hNx,hNm,rfl⟩
  refine wm Z<|wX Z Z<|wX Z Z<|wg Z<|wn Z<|wq<|dH (R1:=[(ri 3 none 0 0 ([])),(ri 3 A_6 ((bL s).length) c_7 ((bL s).map (rd nm))),(ri 3 A_3 ((s).length) c_4 (pK s k (bL s))),(ri 3 A_1 ((bL s).length) c_2 (bL s))]) (Sub.refl _) (fun _ h=>h.nil 3 1)<|wn Z<|aG<|wq<|wm Z ?_
  refine wm Z<|wa (aF aXj Z (Ct.fresh (fun w hw=>IH ((rdr 1 Z) w hw) (by rw[List.length_map];exact hless) ⟨by have:=hNm.bd;omega,aNk hNm hpc.1⟩ (by rw[List.length_map];omega)))) ?_
  rintro _ _ ⟨_,rfl,b1,A_9,c_10,rfl,hp_b1,hs_b1,rfl⟩
  refine wy (aQ underlying52 Z)<|wm Z<|aA<|aI ?_
  refine jP (fun(A1:Option Addr) (n1:Nat) (c1:Nat) (acc:List Int) (i:Int)=>[(0, .slice A_s s.length c_s),(1,I k),(5, .slice A_1 ((bL s).length) c_2),(10, .slice A1 n1 c1),(35, .slice A_9 (((bL s).map (rd nm)).length) c_10),(36,I ((((bL s).map (rd nm)).length:Nat):Int)),(37,I i)]) (fun A1 n1 c1 acc i=>[(ri 3 A_9 (((bL s).map (rd nm)).length) c_10 b1),(ri 3 A1 n1 c1 acc),(ri 3 A_6 ((bL s).length) c_7 ((bL s).map (rd nm))),(ri 3 A_3 ((s).length) c_4 (pK s k (bL s))),(ri 3 A_1 ((bL s).length) c_2 (bL s))]) (fun A1 n1 c1 acc i=>(n1=acc.length)∧(0≤i)∧(i≤b1.length)∧(acc=(b1.take i.toNat).map (rd (bL s)))) (fun A1 n1 c1 acc i=>(b1.length-i).toNat) ?_ ?_
  ·exact⟨none,0,0,[],0,⟨(Z),by omega,by omega,(Z)⟩,(G7 Z Z Z Z Z Z Z),fun _ h=>h⟩
  intro A1 n1 c1 acc i ⟨hn1,hi0,hi1,hacc⟩
  have hml:((bL s).map (rd nm)).length=(bL s).length:=List.length_map _
  have hbl:b1.length=(bL s).length:=by rw[hp_b1.length_eq,bF,List.length_map]
  have hal:=congrArg List.length hacc
  rw[List.length_map,List.length_take] at hal
  have hbi:i<b1.length→0≤rd b1 i∧rd b1 i<(bL s).length:=fun h=>by
   have:=aW.1 (hp_b1.subset (bH (L:=b1) hi0 h))
   rwa[List.length_map] at this
  refine wq<|wL Z Z<|aA<|aG<|bM Z (fun hc2=> ?_) (fun hc2=> ?_)
  ·refine aK<|aG<|aI<|wq<|wy (aH underlying52 sz3 Z Z (rdr 0 Z))<|wy (aX underlying3 Z Z (rdr 0 Z))<|wn Z<|aM<|wm Z<|wm Z<|wm Z<|wy (aH underlying52 sz3 Z Z (rdr 4 Z))<|wy (aX underlying3 Z Z (rdr 4 Z)) ?_
   refine wa (bS .i64 [rd (bL s) (rd b1 i)] underlying52 zs3 Z Z Z) ?_
   rintro _ _ ⟨g_13,rfl,rfl⟩
   refine wa (bE 2 Z underlying52 zb3 Z Z Z (rdr 0 Z)) ?_
   rintro _ _ ⟨A_14,c_15,rfl,rfl⟩
   refine bN (v:= .slice A_14 (n1+1) c_15) Z<|wn Z<|aM<|wA Z Z<|wm Z<|aA ?_
   exact⟨A_14,n1+1,c_15,acc++([rd (bL s) (rd b1 i)]),i+1,⟨(by rw[List.length_append,hn1];try rfl),by omega,by omega,(by rw[dD hi0 (by omega),List.map_append,hacc];rfl)⟩,by omega,(G7 Z Z Z Z Z Z Z),fun _ h=>h.sel [1,2,3,4,5] (by decide) Z⟩
  ·have hac:acc=b1.map (rd (bL s)):=by rw[hacc,List.take_of_length_le (by omega)]
   have hr:=aLy hsn hNm hpc.1 hpc.2 hNx hp_b1 hs_b1
   have hap:acc.Perm (bL s):=by rw[hac];exact hr.1
   have hao:acc.Pairwise (bU s):=by rw[hac];exact hr.2
   refine aZ<|wq<|wm Z<|wm Z<|wm Z<|wa (aF aXg Z (Ct.fresh (fun w hw=>aCk ((h_s.c _) w hw) ((rdr 1 Z) w hw) hok hap hN))) ?_
   rintro _ _ ⟨_,rfl,A_16,c_17,rfl,rfl⟩
   refine wm Z<|wX Z Z<|wX Z Z<|wn Z<|wq<|wm Z<|wn Z<|aT [0] 99 (by decide) Z ?_
   refine⟨_,Z,?_⟩
   exact⟨_,_,_,Z,(vM hok.1.1 hok.2 hap).2.1,(vM hok.1.1 hok.2 hap).2.2.2 hao,Z⟩
theorem aFq (m:Nat): ∀ {w:World} {A_s:Option Addr} {n_s c_s:Nat} {s:List Int} {k:Int},Rd w A_s n_s c_s 1 (ints .i64 s)→s.length<m→((0≤k∧k≤1048576)∧ ∀x∈s,0≤x∧x<k)→s.length≤1000000→
  Ct Tryz.prog 265 #[.slice A_s n_s c_s,I k] w.heap.size w [] (fun v R'=> ∃(b:List Int) (A:Option Addr) (c:Nat),v= .slice A s.length c∧b.Perm (iota s.length)∧b.Pairwise (bU s)∧R'=[(ri 3 A s.length c b)]):=by
 induction m with
 |zero=>intro w A n c s k _ h;omega
 |succ m ih=>
  intro w A n c s k h_s hm hok hN
  exact KG h_s (fun h1 h2 h3 h4=>ih h1 (by omega) h3 h4) hok hN
theorem KL {s:List Int} (h_s:Rd w A_s n_s c_s 1 (ints .i64 s)) (hok:(0≤k∧k≤1048576)∧ ∀x∈s,0≤x∧x<k) (hN:s.length≤1000000):
  Ct Tryz.prog 265 #[.slice A_s n_s c_s,I k] w.heap.size w [] (fun v R'=> ∃(b:List Int) (A:Option Addr) (c:Nat),v= .slice A s.length c∧b.Perm (iota s.length)∧b.Pairwise (bU s)∧R'=[(ri 3 A s.length c b)]):=aFq (s.length+1) h_s (by omega) hok hN
theorem aLe {s:List Int} (h_s:Rd w A_s n_s c_s 1 (ints .i64 s)) (hok:(0≤k∧k≤1048576)∧ ∀x∈s,0≤x∧x<k) (hN:s.length≤100000):
  Ct Tryz.prog 219 #[.slice A_s n_s c_s,I k] w.heap.size w [] (fun v R'=> ∃(b:List Int) (A:Option Addr) (c:Nat),v= .tuple #[.slice A s.length c,I 0]∧b.Perm (iota s.length)∧b.Pairwise (bU s)∧R'=[(ri 3 A s.length c b)]):=by
 obtain rfl:=h_s.lenI
 refine fn2 Tryz.func219 Z Z Z ?_
 have m_s:=h_s.max
 refine wq<|wg Z<|wn Z<|aG<|wq<|wm Z<|wy (aQ underlying52 Z)<|wy (Yl.f (dV Z Z))<|aA<|aL Z<|aK<|aG ?_
 refine wq<|wm Z<|wm Z<|wa (aF VH Z (Ct.fresh (fun w hw=>nI ((h_s.c _) w hw) (by first|assumption|omega|decide)))) ?_
 rintro _ _ ⟨_,rfl,A_1,c_2,rfl,rfl⟩
 refine wm Z<|wX Z Z<|wX Z Z<|wg Z<|wn Z<|wq<|wm Z<|wy (dI Z)<|aA<|aL Z<|aK<|wq ?_
 refine wm Z<|wm Z<|wa (aF aXj Z (Ct.fresh (fun w hw=>KL ((h_s.c _) w hw) hok (by omega)))) ?_
 rintro _ _ ⟨_,rfl,b1,A_4,c_5,rfl,hp_b1,hs_b1,rfl⟩
 refine wg Z<|wn Z<|aT [0] 99 (by decide) Z ?_
 refine⟨_,_,Z,Z,?_⟩
 exact⟨b1,_,_,Z,hp_b1,hs_b1,Z⟩
theorem ME {A_u:Option Addr} {n_u c_u:Nat} {u:List Int} (h_u:Rd w A_u n_u c_u 1 (ints .u8 u)) (bh_u:aO u) (hN:u.length≤100000):
  Ct Tryz.prog 146 #[.slice A_u n_u c_u] w.heap.size w [] (fun v R'=> ∃(b:List Int) (A:Option Addr) (c:Nat),v= .tuple #[.slice A u.length c,I 0]∧b.Perm (iota u.length)∧b.Pairwise (bU u)∧R'=[(ri 3 A u.length c b)]):=by
 obtain rfl:=h_u.lenI
 refine fn2 Tryz.func146 Z Z Z ?_
 have m_u:=h_u.max
 refine wq<|wg Z<|wn Z<|wq<|dH (R1:=[(ri 3 none 0 0 ([]))]) (Sub.refl _) (fun _ h=>h.nil 3 1)<|wn Z<|aG<|wq<|wm Z<|wy (aQ underlying22 Z) ?_
 refine wy (Yl.t (vZ Z Z) (by omega))<|aA<|bO Z<|aG<|wq<|wm Z<|wy (aQ underlying22 Z)<|wm Z<|aA<|aI ?_
 refine jP (fun(A1:Option Addr) (n1:Nat) (c1:Nat) (acc:List Int) (i:Int)=>[(4, .slice A1 n1 c1),(10, .slice A_u u.length c_u),(11,I ((u.length:Nat):Int)),(12,I i)]) (fun A1 n1 c1 acc i=>[(ri 3 A1 n1 c1 acc)]) (fun A1 n1 c1 acc i=>(n1=acc.length)∧(0≤i)∧(i≤u.length)∧(acc=u.take i.toNat)) (fun A1 n1 c1 acc i=>(u.length-i).toNat) ?_ ?_
 ·exact⟨none,0,0,[],0,⟨(Z),by omega,by omega,(Z)⟩,(G4 Z Z Z Z),fun _ h=>h⟩
 intro A1 n1 c1 acc i ⟨hn1,hi0,hi1,hacc⟩
 have hal:=congrArg List.length hacc
 rw[List.length_take] at hal
 refine wq<|wL Z Z<|aA<|aG<|bM Z (fun hc1=> ?_) (fun hc1=> ?_)
 ·have hbi:=bh_u.rd i
  refine aK<|aG<|aI<|wq<|wy (aH underlying22 sz5 Z Z (h_u.c _))<|wy (aX underlying5 Z Z (h_u.c _))<|wn Z<|aM<|wm Z<|wm Z<|wy (iV underlying5 underlying3 Z)<|wa (bS .i64 [rd u i] underlying52 zs3 Z Z Z) ?_
  rintro _ _ ⟨g_2,rfl,rfl⟩
  refine wa (bE 1 Z underlying52 zb3 Z Z Z (rdr 0 Z)) ?_
  rintro _ _ ⟨A_3,c_4,rfl,rfl⟩
  refine bN (v:= .slice A_3 (n1+1) c_4) Z<|wn Z<|aM<|wA Z Z<|wm Z<|aA ?_
  exact⟨A_3,n1+1,c_4,acc++([rd u i]),i+1,⟨(by rw[List.length_append,hn1];try rfl),by omega,by omega,(by rw[dD hi0 (by omega),hacc])⟩,by omega,(G4 Z Z Z Z),fun _ h=>h.sel [1] (by decide) Z⟩
 ·have hau:acc=u:=by rw[hacc,List.take_of_length_le (by omega)]
  refine aZ<|wq<|wm Z<|wa (aF bDv Z (Ct.fresh (fun w hw=>aLe ((rdr 0 Z) w hw) ⟨by omega,fun x hx=>by rw[hau] at hx;have:=bh_u x hx;omega⟩ (by omega)))) ?_
  rintro _ _ ⟨_,rfl,b1,A_5,c_6,rfl,hp_b1,hs_b1,rfl⟩
  refine wX Z Z<|wX Z Z<|wg Z<|wn Z<|aT [0] 99 (by decide) Z ?_
  refine⟨_,_,Z,Z,?_⟩
  subst hau
  exact⟨b1,_,_,Z,hp_b1,hs_b1,Z⟩
variable {B g n_u c_u:Nat} {w0:World} {R:List Row} {a0 a1 a2:Int} {A_u:Option Addr} {u:List Int}
theorem aBo (hr:0≤a0∧a0<1000000):
  Ct Tryz.prog 149 #[.pointer (GG g),I 1] B w0 ((rc 138 3 g [I a0,I a1,I a2])::R) (fun v R'=>v=I (a0+1)∧R'=(rc 138 3 g [I (a0+1),I a1,I a2])::R):=by
 refine fn1 Tryz.func149 Z Z Z ?_
 refine wq<|wn Z<|wq<|wm Z<|wy (aD Z)<|wy (aB (off:=0) (m:=0) underlying135 Z sz2 Z Z Z)<|wm Z<|wa (aEz Z (fun w hw=>⟨_,run_call_add (P:=Tryz.prog) Tryz.func222 (by kernel_rfl) (by kernel_rfl) (by kernel_rfl) .i64 (by kernel_rfl) (y:=1) (s:=a0+1) (hw.cellAt 0 (r:=(rc 138 3 g [I a0,I a1,I a2])) (j:=0) Z Z Z) (hw.openAt 0 (r:=(rc 138 3 g [I a0,I a1,I a2])) 0 Z Z Z) (by have:IntKind.i64.wrap (a0+1)=a0+1:=(by rw[IntKind.wrap_i64];omega);simp[Op.intArith,this]),hw.set1 0 (r:=(rc 138 3 g [I a0,I a1,I a2])) (j:=0) (v:=I (a0+1)) Z Z Z⟩)) ?_
 rintro _ _ ⟨rfl,rfl⟩
 refine wn Z<|dJ ?_
 refine⟨_,Z,?_⟩
 exact⟨Z,Z⟩
theorem aBn (hr:0≤a1∧a1<1000000):
  Ct Tryz.prog 149 #[.pointer (some ⟨g,1,none⟩),I 1] B w0 ((rc 138 3 g [I a0,I a1,I a2])::R) (fun v R'=>v=I (a1+1)∧R'=(rc 138 3 g [I a0,I (a1+1),I a2])::R):=by
 refine fn1 Tryz.func149 Z Z Z ?_
 refine wq<|wn Z<|wq<|wm Z<|wy (aD Z)<|wy (aB (off:=0) (m:=1) underlying135 Z sz2 Z Z Z)<|wm Z<|wa (aEz Z (fun w hw=>⟨_,run_call_add (P:=Tryz.prog) Tryz.func222 (by kernel_rfl) (by kernel_rfl) (by kernel_rfl) .i64 (by kernel_rfl) (y:=1) (s:=a1+1) (hw.cellAt 0 (r:=(rc 138 3 g [I a0,I a1,I a2])) (j:=1) Z Z Z) (hw.openAt 0 (r:=(rc 138 3 g [I a0,I a1,I a2])) 1 Z Z Z) (by have:IntKind.i64.wrap (a1+1)=a1+1:=(by rw[IntKind.wrap_i64];omega);simp[Op.intArith,this]),hw.set1 0 (r:=(rc 138 3 g [I a0,I a1,I a2])) (j:=1) (v:=I (a1+1)) Z Z Z⟩)) ?_
 rintro _ _ ⟨rfl,rfl⟩
 refine wn Z<|dJ ?_
 refine⟨_,Z,?_⟩
 exact⟨Z,Z⟩
theorem aBm (hr:0≤a2∧a2<1000000):
  Ct Tryz.prog 149 #[.pointer (some ⟨g,2,none⟩),I 1] B w0 ((rc 138 3 g [I a0,I a1,I a2])::R) (fun v R'=>v=I (a2+1)∧R'=(rc 138 3 g [I a0,I a1,I (a2+1)])::R):=by
 refine fn1 Tryz.func149 Z Z Z ?_
 refine wq<|wn Z<|wq<|wm Z<|wy (aD Z)<|wy (aB (off:=0) (m:=2) underlying135 Z sz2 Z Z Z)<|wm Z<|wa (aEz Z (fun w hw=>⟨_,run_call_add (P:=Tryz.prog) Tryz.func222 (by kernel_rfl) (by kernel_rfl) (by kernel_rfl) .i64 (by kernel_rfl) (y:=1) (s:=a2+1) (hw.cellAt 0 (r:=(rc 138 3 g [I a0,I a1,I a2])) (j:=2) Z Z Z) (hw.openAt 0 (r:=(rc 138 3 g [I a0,I a1,I a2])) 2 Z Z Z) (by have:IntKind.i64.wrap (a2+1)=a2+1:=(by rw[IntKind.wrap_i64];omega);simp[Op.intArith,this]),hw.set1 0 (r:=(rc 138 3 g [I a0,I a1,I a2])) (j:=2) (v:=I (a2+1)) Z Z Z⟩)) ?_
 rintro _ _ ⟨rfl,rfl⟩
 refine wn Z<|dJ ?_
 refine⟨_,Z,?_⟩
 exact⟨Z,Z⟩
theorem VW {w:World}:
  Ct Tryz.prog 47 #[] w.heap.size w [] (fun v R'=> ∃g,v= .pointer (GG g)∧R'=[(rc 138 3 g [I 0,I 0,I 0])]):=by
 refine fn1 Tryz.func47 Z Z Z ?_
 refine wq<|wn Z<|wq<|wy (dY (v:= .agg #[I 0,I 0,I 0]) Z (fun w=>by kernel_rfl))<|wa (bX (sz:=3) rfl rfl) ?_
 rintro _ _ ⟨g_1,rfl,rfl⟩
 refine wn Z<|aT [0] 99 (by decide) Z ?_
 refine⟨_,Z,?_⟩
 exact⟨_,Z,Z⟩
theorem KX (h_u:RdC B w0 R A_u n_u c_u 1 (ints .u8 u)) (hn_u:n_u=u.length) (bh_u:aO u) (hN:u.length≤100000) (ha:0≤a0∧a0<1000000):
  Ct Tryz.prog 84 #[.pointer (GG g),I 0, .slice A_u n_u c_u] B w0 ((rc 138 3 g [I a0,I a1,I a2])::R) (fun v R'=> ∃(b:List Int) (A:Option Addr) (c:Nat),v= .tuple #[.slice A u.length c,I 0]∧b.Perm (iota u.length)∧b.Pairwise (bU u)∧R'=(ri 3 A u.length c b)::(rc 138 3 g [I (a0+1),I a1,I a2])::R):=by
 subst hn_u
 refine fn2 Tryz.func84 Z Z Z ?_
 refine wq<|wg Z<|wn Z<|aG<|wq<|wm Z<|wy (cZ underlying76 Z Z)<|wm Z<|aC Z Z<|wm Z<|aC Z Z<|wy (Yl.f (eP Z Z) (by decide)) ?_
 refine wy (aS Z Z)<|wm Z<|aC Z Z<|wm Z<|aC Z Z<|wy (Yl.f (jG Z Z) (by decide))<|wy (aS Z Z)<|aA<|aL Z<|aK<|wq<|wy (dY (v:= .agg #[.func (.func 146) #[] #[], .func (.func 147) #[] #[], .func (.func 148) #[] #[]]) Z (fun w=>by kernel_rfl))<|wm rfl<|wy (aYi (v:= .func (.func 146) #[] #[]) rfl rfl (fun w=>by kernel_rfl)) ?_
 refine wn Z<|wq<|wm Z<|wm Z<|wa (JY aXr Z Z (Ct.fresh (fun w hw=>ME ((RdC.right h_u [_]) w hw) bh_u hN))) ?_
 rintro _ _ ⟨_,rfl,b1,A_1,c_2,rfl,hp_b1,hs_b1,rfl⟩
 refine wm Z<|wX Z Z<|wX Z Z<|wg Z<|wn Z<|aG<|wq<|wm Z<|wy (Yl.t (bC Z Z) (by decide))<|aA<|bO Z<|aM<|wm Z ?_
 refine wm Z<|wy (aD Z)<|wy (aB (off:=0) (m:=0) underlying138 Z aKz Z Z Z)<|wy (dB (q:=0) (rdr 1 Z) underlying136 aLa Z Z (Nat.le_of_ble_eq_true Z) (by decide) (by decide) Z)<|wa (aF aPu Z (Ct.at 1 Z (aBo (by omega)))) ?_
 rintro _ _ ⟨rfl,rfl⟩
 refine aA<|wq<|wm Z<|wm Z<|wg Z<|wn Z<|bR (R1:=((ri 3 A_1 u.length c_2 b1)::(rc 138 3 g [I (a0+1),I a1,I a2])::R)) (fun _ h=>h) ?_
 refine⟨_,_,Z,Z,?_⟩
 exact⟨b1,_,_,Z,hp_b1,hs_b1,Z⟩
theorem KW (h_u:RdC B w0 R A_u n_u c_u 1 (ints .u8 u)) (hn_u:n_u=u.length) (bh_u:aO u) (hN:u.length≤100000) (ha:0≤a1∧a1<1000000):
  Ct Tryz.prog 84 #[.pointer (GG g),I 1, .slice A_u n_u c_u] B w0 ((rc 138 3 g [I a0,I a1,I a2])::R) (fun v R'=> ∃(b:List Int) (A:Option Addr) (c:Nat),v= .tuple #[.slice A u.length c,I 0]∧b.Perm (iota u.length)∧b.Pairwise (bU u)∧R'=(ri 3 A u.length c b)::(rc 138 3 g [I a0,I (a1+1),I a2])::R):=by
 subst hn_u
 refine fn2 Tryz.func84 Z Z Z ?_
 refine wq<|wg Z<|wn Z<|aG<|wq<|wm Z<|wy (cZ underlying76 Z Z)<|wm Z<|aC Z Z<|wm Z<|aC Z Z<|wy (Yl.f (eP Z Z) (by decide)) ?_
 refine wy (aS Z Z)<|wm Z<|aC Z Z<|wm Z<|aC Z Z<|wy (Yl.f (jG Z Z) (by decide))<|wy (aS Z Z)<|aA<|aL Z<|aK<|wq<|wy (dY (v:= .agg #[.func (.func 146) #[] #[], .func (.func 147) #[] #[], .func (.func 148) #[] #[]]) Z (fun w=>by kernel_rfl))<|wm rfl<|wy (aYi (v:= .func (.func 147) #[] #[]) rfl rfl (fun w=>by kernel_rfl)) ?_
 refine wn Z<|wq<|wm Z<|wm Z<|wa (JY bEk Z Z (Ct.fresh (fun w hw=>aHj ((RdC.right h_u [_]) w hw) bh_u hN))) ?_
 rintro _ _ ⟨_,rfl,b1,A_1,c_2,rfl,hp_b1,hs_b1,rfl⟩
 refine wm Z<|wX Z Z<|wX Z Z<|wg Z<|wn Z<|aG<|wq<|wm Z<|wy (Yl.t (bC Z Z) (by decide))<|aA<|bO Z<|aM<|wm Z ?_
 refine wm Z<|wy (aD Z)<|wy (aB (off:=0) (m:=0) underlying138 Z aKz Z Z Z)<|wy (dB (q:=1) (rdr 1 Z) underlying136 aLa Z Z (Nat.le_of_ble_eq_true Z) (by decide) (by decide) Z)<|wa (aF aPu Z (Ct.at 1 Z (aBn (by omega)))) ?_
 rintro _ _ ⟨rfl,rfl⟩
 refine aA<|wq<|wm Z<|wm Z<|wg Z<|wn Z<|bR (R1:=((ri 3 A_1 u.length c_2 b1)::(rc 138 3 g [I a0,I (a1+1),I a2])::R)) (fun _ h=>h) ?_
 refine⟨_,_,Z,Z,?_⟩
 exact⟨b1,_,_,Z,hp_b1,hs_b1,Z⟩
theorem KV (h_u:RdC B w0 R A_u n_u c_u 1 (ints .u8 u)) (hn_u:n_u=u.length) (bh_u:aO u) (hN:u.length≤100000) (ha:0≤a2∧a2<1000000):
  Ct Tryz.prog 84 #[.pointer (GG g),I 2, .slice A_u n_u c_u] B w0 ((rc 138 3 g [I a0,I a1,I a2])::R) (fun v R'=> ∃(b:List Int) (A:Option Addr) (c:Nat),v= .tuple #[.slice A u.length c,I 0]∧b.Perm (iota u.length)∧b.Pairwise (bU u)∧R'=(ri 3 A u.length c b)::(rc 138 3 g [I a0,I a1,I (a2+1)])::R):=by
 subst hn_u
 refine fn2 Tryz.func84 Z Z Z ?_
 refine wq<|wg Z<|wn Z<|aG<|wq<|wm Z<|wy (cZ underlying76 Z Z)<|wm Z<|aC Z Z<|wm Z<|aC Z Z<|wy (Yl.f (eP Z Z) (by decide)) ?_
 refine wy (aS Z Z)<|wm Z<|aC Z Z<|wm Z<|aC Z Z<|wy (Yl.f (jG Z Z) (by decide))<|wy (aS Z Z)<|aA<|aL Z<|aK<|wq<|wy (dY (v:= .agg #[.func (.func 146) #[] #[], .func (.func 147) #[] #[], .func (.func 148) #[] #[]]) Z (fun w=>by kernel_rfl))<|wm rfl<|wy (aYi (v:= .func (.func 148) #[] #[]) rfl rfl (fun w=>by kernel_rfl)) ?_
 refine wn Z<|wq<|wm Z<|wm Z<|wa (JY bEj Z Z (Ct.fresh (fun w hw=>aAz ((RdC.right h_u [_]) w hw) bh_u hN))) ?_
 rintro _ _ ⟨_,rfl,o1,A_1,c_2,rfl,hl_o1,hq_o1,rfl⟩
 refine wm Z<|wX Z Z<|wX Z Z<|wg Z<|wn Z<|aG<|wq<|wm Z<|wy (Yl.t (bC Z Z) (by decide))<|aA<|bO Z<|aM<|wm Z ?_
 refine wm Z<|wy (aD Z)<|wy (aB (off:=0) (m:=0) underlying138 Z aKz Z Z Z)<|wy (dB (q:=2) (rdr 1 Z) underlying136 aLa Z Z (Nat.le_of_ble_eq_true Z) (by decide) (by decide) Z)<|wa (aF aPu Z (Ct.at 1 Z (aBm (by omega)))) ?_
 rintro _ _ ⟨rfl,rfl⟩
 refine aA<|wq<|wm Z<|wm Z<|wg Z<|wn Z<|bR (R1:=((ri 3 A_1 u.length c_2 o1)::(rc 138 3 g [I a0,I a1,I (a2+1)])::R)) (fun _ h=>h) ?_
 refine⟨_,_,Z,Z,?_⟩
 obtain⟨b,hb,hs⟩:=nW u
 obtain rfl:=places hb hs hl_o1 hq_o1
 exact⟨o1,_,_,Z,hb,hs,Z⟩
variable {B g n_u c_u:Nat} {w0:World} {R:List Row} {a0 a1 a2 so:Int} {A_u:Option Addr} {u:List Int}
theorem DN (h_u:RdC B w0 R A_u n_u c_u 1 (ints .u8 u)) (hn_u:n_u=u.length) (hb:so<0∨2<so):
  Ct Tryz.prog 84 #[.pointer (GG g),I so, .slice A_u n_u c_u] B w0 ((rc 138 3 g [I a0,I a1,I a2])::R) (fun v R'=>v= .tuple #[.slice none 0 0,I 1]∧R'=(rc 138 3 g [I a0,I a1,I a2])::R):=by
 subst hn_u
 refine fn2 Tryz.func84 Z Z Z ?_
 refine wq<|wg Z<|wn Z<|aG<|wq<|wm Z<|wy (cZ underlying76 Z Z)<|wm Z<|aC Z Z<|wm Z<|aC Z Z<|wL Z Z ?_
 refine wy (aS Z Z)<|wm Z<|dS 3 [(0, .pointer (GG g)),(1,I so),(2, .slice A_u u.length c_u),(20, .bool (decide ((so<0)∨(3≤so))))] ((rc 138 3 g [I a0,I a1,I a2])::R) ?_ ?_
 ·refine dC 17 Z (fun hc1=> ?_) (fun hc1=> ?_)
  ·refine aP Z Z Z Z<|aP Z Z Z Z<|wy (bA Z Z)<|aA ?_
   exact⟨(sc Z (sc Z (sc Z (Sub.to Z mtA Sub.nil)))),fun _ h=>h⟩
  ·refine aC Z Z<|wm Z<|aC Z Z<|wy (jG Z Z)<|wy (aS Z Z)<|aA ?_
   exact⟨(sc Z (sc Z (sc Z (Sub.to Z mbA Sub.nil)))),fun _ h=>h⟩
 refine kK 20 Z (by omega)<|aA<|bO Z<|wq<|wg Z<|wn Z<|dJ ?_
 refine⟨_,_,Z,Z,?_⟩
 exact⟨Z,Z⟩
theorem DR (h_u:RdC B w0 R A_u n_u c_u 1 (ints .u8 u)) (hn_u:n_u=u.length) (bh_u:aO u) (hN:u.length≤100000) (ha:(0≤a0∧a0<1000000)∧(0≤a1∧a1<1000000)∧(0≤a2∧a2<1000000)):
  Ct Tryz.prog 84 #[.pointer (GG g),I so, .slice A_u n_u c_u] B w0 ((rc 138 3 g [I a0,I a1,I a2])::R) (fun v R'=> ∃(b:List Int) (A:Option Addr) (c:Nat) (e d0 d1 d2:Int),v= .tuple #[.slice A b.length c,I e]∧
   (((so<0∨2<so)∧e=1∧b=[]∧d0=a0∧d1=a1∧d2=a2)∨(¬(so<0∨2<so)∧e=0∧b.Perm (iota u.length)∧b.Pairwise (bU u)∧[d0,d1,d2]=upd [a0,a1,a2] so (rd [a0,a1,a2] so+1)∧(d0≤a0+1∧0≤d0)∧(d1≤a1+1∧0≤d1)∧(d2≤a2+1∧0≤d2)))∧R'=(ri 3 A b.length c b)::(rc 138 3 g [I d0,I d1,I d2])::R):=by
 by_cases hb:so<0∨2<so
 ·intro w hw
  refine(DN (u:=u) h_u hn_u hb w hw).mono ?_
  rintro e w' ⟨v,R',he,hh,hv,hr⟩
  subst hr
  exact⟨v,_,he,hh.nil 3 1,[],none,0,1,a0,a1,a2,hv, .inl ⟨hb,Z,Z,Z,Z,Z⟩,Z⟩
 ·have hlen: ∀b:List Int,b.Perm (iota u.length)→u.length=b.length:=fun b h=>by rw[h.length_eq,bF]
  rcases(by omega:so=0∨so=1∨so=2) with rfl|rfl|rfl
  ·refine (KX h_u hn_u bh_u hN ha.1).mono ?_
   rintro v R' ⟨b,A,c,hv,hp,hs,hr⟩
   rw[hlen b hp] at hv hr
   exact⟨b,A,c,0,a0+1,a1,a2,hv, .inr ⟨hb,Z,hp,hs,Z,by omega,by omega,by omega⟩,hr⟩
  ·refine (KW h_u hn_u bh_u hN ha.2.1).mono ?_
   rintro v R' ⟨b,A,c,hv,hp,hs,hr⟩
   rw[hlen b hp] at hv hr
   exact⟨b,A,c,0,a0,a1+1,a2,hv, .inr ⟨hb,Z,hp,hs,Z,by omega,by omega,by omega⟩,hr⟩
  ·refine (KV h_u hn_u bh_u hN ha.2.2).mono ?_
   rintro v R' ⟨b,A,c,hv,hp,hs,hr⟩
   rw[hlen b hp] at hv hr
   exact⟨b,A,c,0,a0,a1,a2+1,hv, .inr ⟨hb,Z,hp,hs,Z,by omega,by omega,by omega⟩,hr⟩
end Go.Proofs.YtdbebmmhdefgdaaGreat
namespace Go.Pure
open Go Go.Eng
section
variable {p:List Int}
def fK (p:List Int):Nat→List Bool→Int→List Int × List Bool
 |0,E,_=>([],E)
 |f+1,E,k=>if rdb E k=true then([],E) else(k::(fK p f (oQ E k true) (rd p k)).1,(fK p f (oQ E k true) (rd p k)).2)
def cntF (E:List Bool):Nat:=E.countP fun b=> !b
theorem aQo (n:Nat):cntF (List.replicate n false)=n:=by unfold cntF;rw[List.countP_replicate];simp
theorem zK {E:List Bool} {k:Int} (k0:0≤k) (hk:k<E.length) (h:rdb E k≠true):cntF (oQ E k true)+1=cntF E:=by
 have hlt:k.toNat<E.length:=by omega
 have e:E[k.toNat]=false:=by
  have h2:rdb E k=E[k.toNat]:=by unfold rdb;rw[List.getD_eq_getElem?_getD,List.getElem?_eq_getElem hlt];rfl
  rw[h2] at h
  simpa using h
 unfold cntF oQ
 rw[List.countP_set hlt,e]
 simp only[Bool.not_true,Bool.not_false,Bool.false_eq_true,if_false,if_true,Nat.add_zero]
 have:0<E.countP fun b=> !b:=List.countP_pos_iff.2 ⟨E[k.toNat],List.getElem_mem hlt,by rw[e];rfl⟩
 omega
theorem rR {f:Nat} {E:List Bool} {k:Int} (h:rdb E k=true):fK p f E k=([],E):=by
 cases f with
 |zero=>rfl
 |succ f=>rw[fK,if_pos h]
theorem JG {E:List Bool} {k:Int} (k0:0≤k) (hk:k<E.length) (h:rdb E k≠true):0<cntF E:=by have:=zK k0 hk h;omega
theorem EU {f:Nat} {E:List Bool} {k:Int} (k0:0≤k) (hk:k<E.length) (hf:cntF E≤f) (h:rdb E k≠true):fK p f E k=(k::(fK p (f-1) (oQ E k true) (rd p k)).1,(fK p (f-1) (oQ E k true) (rd p k)).2):=by
 have:=JG k0 hk h
 obtain⟨g,rfl⟩: ∃g,f=g+1:=⟨f-1,by omega⟩
 rw[fK,if_neg h]
 rfl
def iD (p:List Int):Nat→List Bool × List (List Int)
 |0=>(List.replicate p.length false,[])
 |i+1=>((fK p p.length (iD p i).1 i).2,if (fK p p.length (iD p i).1 i).1=[] then(iD p i).2 else(iD p i).2++[(fK p p.length (iD p i).1 i).1])
def dW (p:List Int):List (List Int):=(iD p p.length).2
theorem pY (hp:p.Perm (iota p.length)): ∀(f:Nat) (E:List Bool) (k:Int),E.length=p.length→0≤k→k<p.length→(fK p f E k).2.length=p.length∧(∀x∈(fK p f E k).1,0≤x∧x<p.length)∧(fK p f E k).1.length+cntF (fK p f E k).2=cntF E
 |0,E,k,hl,_,_=>And.intro hl (And.intro (fun x hx=>absurd hx (List.not_mem_nil (a:=x))) (Nat.zero_add _))
 | f+1,E,k,hl,k0,hk=>by
  rw[fK]
  split
  ·exact And.intro hl (And.intro (fun x hx=>absurd hx (List.not_mem_nil (a:=x))) (Nat.zero_add _))
  ·rename_i h
   have hn:=aW.1 (hp.subset (bH (L:=p) k0 hk))
   have ih:=pY hp f (oQ E k true) (rd p k) (by rw[kG];exact hl) hn.1 hn.2
   have hc:=zK k0 (by omega) h
   refine⟨ih.1,fun x hx=> ?_,?_⟩
   ·rcases List.mem_cons.1 hx with rfl|hx
    ·exact⟨k0,hk⟩
    ·exact ih.2.1 x hx
   ·have:=ih.2.2
    simp only[List.length_cons]
    omega
theorem kU (hp:p.Perm (iota p.length)): ∀i:Nat,i≤p.length→(iD p i).1.length=p.length∧(∀c∈(iD p i).2,∀x∈c,0≤x∧x<p.length)∧(iD p i).2.flatten.length+cntF (iD p i).1=p.length
 |0,_=>⟨by simp[iD],fun c hc=>(by cases hc),by simp[iD,aQo]⟩
 | i +1,hi=>by
  have ih:=kU hp i (by omega)
  have hw:=pY hp p.length (iD p i).1 i ih.1 (by omega) (by omega)
  rw[iD]
  refine⟨hw.1,?_,?_⟩
  ·intro c hc x hx
   split at hc
   ·exact ih.2.1 c hc x hx
   ·rcases List.mem_append.1 hc with hc|hc
    ·exact ih.2.1 c hc x hx
    ·obtain rfl:=List.mem_singleton.1 hc
     exact hw.2.1 x hx
  ·split
   ·rename_i h
    have h2:=hw.2.2
    rw[h] at h2
    have:=ih.2.2
    simp only[List.length_nil] at h2
    show(iD p i).2.flatten.length+cntF (fK p p.length (iD p i).1 i).2=p.length
    omega
   ·rw [List.flatten_append,List.length_append]
    have h2:=hw.2.2
    have:=ih.2.2
    simp only[List.flatten_cons,List.flatten_nil,List.append_nil]
    omega
theorem aEj (hp:p.Perm (iota p.length)): ∀c∈dW p,∀x∈c,0≤x∧x<p.length:=(kU hp p.length (Nat.le_refl _)).2.1
theorem aQj (hp:p.Perm (iota p.length)):(dW p).flatten.length≤p.length:=by have:=(kU hp p.length (Nat.le_refl _)).2.2;unfold dW;omega
theorem JC (p:List Int): ∀i:Nat,(iD p i).2.length≤i
 |0=>by simp[iD]
 |i+1=>by
  have:=JC p i
  rw[iD]
  split
  ·exact Nat.le_succ_of_le this
  ·rw[List.length_append];simp only[List.length_singleton];omega
theorem aVj {i:Int} {E E2:List Bool} {ls:List (List Int)} {acc:List Int} (i0:0≤i) (hcy:iD p i.toNat=(E,ls)) (hse:fK p p.length E i=(acc,E2)) (hne:acc≠[]):iD p (i+1).toNat=(E2,ls++[acc]):=by
 rw[show(i+1).toNat=i.toNat+1 by omega,iD,hcy]
 simp only[show((i.toNat:Nat):Int)=i by omega,hse,if_neg hne]
theorem bAi {i:Int} {E E2:List Bool} {ls:List (List Int)} {acc:List Int} (i0:0≤i) (hcy:iD p i.toNat=(E,ls)) (hse:fK p p.length E i=(acc,E2)) (hne:acc=[]):iD p (i+1).toNat=(E2,ls):=by
 rw[show(i+1).toNat=i.toNat+1 by omega,iD,hcy]
 simp only[show((i.toNat:Nat):Int)=i by omega,hse,if_pos hne]
theorem XL (hp:p.Perm (iota p.length)) {f:Nat} {E E2:List Bool} {acc:List Int} {i k:Int} (hl:E.length=p.length) (i0:0≤i) (hi:i<p.length) (hw:(acc++(fK p f E2 k).1,(fK p f E2 k).2)=fK p p.length E i):acc.length≤p.length:=by
 have h:=(pY hp p.length E i hl i0 hi).2.2
 rw[←hw] at h
 simp only[List.length_append] at h
 have:cntF E≤E.length:=List.countP_le_length
 omega
def jV (l c:List Int):List Int:=c.reverse.map (rd l)
def backL (l:List Int) (cs:List (List Int)):List Int:=(cs.reverse.map (jV l)).flatten
theorem aBj {l:List Int} {cs:List (List Int)} {k:Nat} (hk:k<cs.length):(((cs.reverse).take (k+1)).map (jV l)).flatten=(((cs.reverse).take k).map (jV l)).flatten++jV l (rdl cs (cs.length-1-k)):=by
 have hlt:k<cs.reverse.length:=by rw[List.length_reverse];exact hk
 rw[List.take_add_one,List.getElem?_eq_getElem hlt,List.map_append,List.flatten_append]
 congr 1
 simp only[Option.toList_some,List.map_cons,List.map_nil,List.flatten_cons,List.flatten_nil,List.append_nil]
 congr 1
 rw[List.getElem_reverse]
 unfold rdl
 rw[List.getD_eq_getElem?_getD,List.getElem?_eq_getElem (by omega)]
 simp only[Option.getD_some]
 congr 1
 omega
theorem XI {l c:List Int} {k:Nat} (hk:k<c.length):((c.reverse).take (k+1)).map (rd l)=((c.reverse).take k).map (rd l)++[rd l (rd c (c.length-1-k))]:=by
 have hlt:k<c.reverse.length:=by rw[List.length_reverse];exact hk
 rw[List.take_add_one,List.getElem?_eq_getElem hlt,List.map_append]
 congr 1
 simp only[Option.toList_some,List.map_cons,List.map_nil]
 congr 2
 rw[List.getElem_reverse,eT (by omega) (by omega)]
 congr 1
 omega
theorem mI (l c:List Int):(jV l c).length=c.length:=by simp[jV]
theorem UR {cs:List (List Int)}: ∀ {k:Nat} {l:List Int},(((cs.reverse).take k).map (jV l)).flatten.length≤cs.flatten.length:=by
 intro k l
 have h1:(((cs.reverse).take k).map (jV l)).flatten.length=(((cs.reverse).take k).map List.length).sum:=by
  rw[List.length_flatten,List.map_map]
  congr 2
  funext c
  exact mI l c
 have h2:cs.flatten.length=((cs.reverse).map List.length).sum:=by rw[List.length_flatten,List.map_reverse,List.sum_reverse]
 rw[h1,h2]
 conv=>rhs;rw[←List.take_append_drop k cs.reverse]
 rw[List.map_append,List.sum_append]
 omega
end
end Go.Pure
namespace Go.Proofs.YtdbebmmhdefgdaaGreat
open Go Go.Eng Go.Pure
open Tryz
set_option maxRecDepth 100000
variable {a V l s P acc u:List Int} {i:Int} {n n_a c_a:Nat} {w:World} {A_a:Option Addr}
theorem aGu (hd:a.Nodup) (i0:0≤i) (hi:i<a.length):rd a i∉a.take i.toNat:=fun h=>by
 obtain⟨q,hq,e⟩:=List.mem_iff_getElem.1 h
 rw[List.length_take] at hq
 rw[List.getElem_take] at e
 have:=jH hd (i:=(q:Int)) (j:=i) (by omega) (by omega) i0 hi (by rw[eT (i:=(q:Int)) (by omega) (by omega)];simp only[Int.toNat_natCast];exact e)
 omega
theorem aFz {E:List Bool} (i0:0≤i) (hi:i<a.length) (hl:E.length=n) (ha:0≤rd a i∧rd a i<n) (h: ∀x:Int,0≤x→x<n→(rdb E x=true↔x∈a.take i.toNat)): ∀x:Int,0≤x→x<n→(rdb (oQ E (rd a i) true) x=true↔x∈a.take (i+1).toNat):=by
 intro x x0 x1
 rw[dD i0 hi,vE ha.1 (by omega) x0,List.mem_append,List.mem_singleton]
 split
 ·rename_i e;exact⟨fun _=> .inr e,fun _=>rfl⟩
 ·rename_i e;rw[h x x0 x1];exact⟨.inl,fun h=>h.resolve_right e⟩
theorem aOl (i0:0≤i) (hi:i<a.length) (hd:a.Nodup) (hl:V.length=n) (ha: ∀q:Int,0≤q→q<a.length→0≤rd a q∧rd a q<n) (h: ∀q:Int,0≤q→q<i→rd V (rd a q)=q): ∀q:Int,0≤q→q<i+1→rd (upd V (rd a i) i) (rd a q)=q:=by
 intro q q0 q1
 have h1:=ha i i0 hi
 have h2:=ha q q0 (by omega)
 rw[fI h1.1 h2.1 (by omega)]
 split
 ·rename_i e;exact jH hd i0 hi q0 (by omega) e.symm
 ·rename_i e
  refine h q q0 ?_
  rcases Int.lt_or_le q i with g|g
  ·exact g
  ·obtain rfl:q=i:=by omega
   exact absurd Z e
def fsL (l:List Int):List Int:=(iota l.length).map (lfC l)
theorem vN (l:List Int):(fsL l).length=l.length:=by unfold fsL;rw[List.length_map,bF]
theorem YP (i0:0≤i) (hi:i<l.length):rd (fsL l) i=lfC l i:=by
 unfold fsL
 rw[tY i0 (by rw[bF];exact hi),vF i0 hi]
theorem AY (hl:aO l):(bW (iota l.length) l (256:Int).toNat).length=l.length:=by
 have:=(jL (l:=l) hl).1.length_eq
 rwa[bF] at this
theorem aDe (hl:aO l):(bW (iota l.length) l (256:Int).toNat).Perm (iota (bW (iota l.length) l (256:Int).toNat).length):=by
 rw[AY hl]
 exact(jL (l:=l) hl).1
theorem aWx (hl:aO l) (h1:V.length=(bW (iota l.length) l (256:Int).toNat).length) (h2: ∀q:Int,0≤q→q<(bW (iota l.length) l (256:Int).toNat).length→rd V (rd (bW (iota l.length) l (256:Int).toNat) q)=q):V=fsL l:=by
 rw[AY hl] at h1 h2
 refine bI (by rw[h1,vN]) fun j j0 j1=> ?_
 rw[YP j0 (by omega)]
 obtain⟨q,q0,q1,e,f⟩:=UE (l:=l) hl j0 (by omega)
 rw[f,←e]
 exact h2 q q0 q1
theorem aDl (i0:0≤i) (hi:i<a.length) (h:acc=P++ofT s (a.take i.toNat)) (h0:rd a i=0):acc=P++ofT s (a.take (i+1).toNat):=by
 rw[TS i0 hi,if_pos h0,List.append_nil];exact h
theorem aNh (i0:0≤i) (hi:i<a.length) (h:acc=P++ofT s (a.take i.toNat)) (h0: ¬rd a i=0):acc++[rd s (rd a i-1)]=P++ofT s (a.take (i+1).toNat):=by
 rw[TS i0 hi,if_neg h0,←List.append_assoc,h]
theorem aBu (hd:a.Nodup) (i0:0≤i) (hi:i<a.length) (h0:rd a i=0):i+1=zat (a.take (i+1).toNat):=by rw[QS hd i0 hi,if_pos h0]
theorem aJv {m:Int} (hd:a.Nodup) (i0:0≤i) (hi:i<a.length) (h:m=zat (a.take i.toNat)) (h0: ¬rd a i=0):m=zat (a.take (i+1).toNat):=by rw[QS hd i0 hi,if_neg h0];exact h
theorem aDm (s:List Int) (l:List Int):(ofT s l).length≤l.length:=by unfold ofT;rw[List.length_map];exact List.length_filter_le _ _
set_option maxHeartbeats 800000 in
theorem OY (h_a:Rd w A_a n_a c_a 1 (ints .i64 a)) (hp:a.Perm (iota a.length)) (hN:a.length≤1000000):
  Ct Tryz.prog 150 #[.slice A_a n_a c_a] w.heap.size w [] (fun v R'=> ∃A c V,v= .tuple #[.slice A a.length c, .bool true]∧V.length=a.length∧(∀q:Int,0≤q→q<a.length→rd V (rd a q)=q)∧R'=[(ri 3 A a.length c V)]):=by
 obtain rfl:=h_a.lenI
 refine fn2 Tryz.func150 Z Z Z ?_
 have m_a:=h_a.max
 have hnd:a.Nodup:=hp.symm.nodup (eX _)
 have hall: ∀q:Int,0≤q→q<a.length→0≤rd a q∧rd a q<a.length:=fun q q0 q1=>aW.1 (hp.subset (bH q0 q1))
 refine wq<|wg Z<|wn Z<|wq<|wm Z<|wy (aQ underlying52 Z)<|wa (dE underlying52 zb3 Z Z) ?_
 rintro _ _ ⟨g_1,rfl,rfl⟩
 refine bN (v:= .slice (GG g_1) a.length a.length) Z<|wn Z<|wq<|wm Z<|wy (aQ underlying52 Z)<|wa (QN underlying269 zb4 Z Z (by omega) (by omega) (by omega)) ?_
 rintro _ _ ⟨g_2,rfl,rfl⟩
 refine bN (v:= .slice (GG g_2) a.length a.length) Z<|wn Z<|aG<|wq<|wm Z<|wy (aQ underlying52 Z)<|wm Z<|aA<|aI ?_
 refine fU (fun(i:Int) (V:List Int) (E:List Bool)=>[(0, .slice A_a a.length c_a),(4, .slice (GG g_1) a.length a.length),(5, .slice (GG g_2) a.length a.length),(14, .slice A_a a.length c_a),(15,I ((a.length:Nat):Int)),(16,I i)]) (fun i V E=>[⟨4,1,(GG g_2),a.length,a.length,bools E,false⟩,(ri 3 (GG g_1) a.length a.length V)]) (fun i V E=>(0≤i)∧(i≤a.length)∧(V.length=a.length)∧(E.length=a.length)∧(∀x:Int,0≤x→x<a.length→(rdb E x=true↔x∈a.take i.toNat))∧(∀q:Int,0≤q→q<i→rd V (rd a q)=q)) (fun i V E=>(a.length-i).toNat) ?_ ?_
 ·exact⟨0,List.replicate a.length (0:Int),List.replicate a.length false,⟨by omega,by omega,(by rw[List.length_replicate]),(by rw[List.length_replicate]),(fun x h0 h1=>by rw[EF];simp),(fun q h0 h1=>by omega)⟩,(G6 rfl rfl rfl rfl rfl rfl),fun _ h=>h⟩
 intro i V E ⟨hi0,hi1,hVl,hEl,hE,hV⟩
 refine wq<|wL Z Z<|aA<|aG<|bM Z (fun hc1=> ?_) (fun hc1=> ?_)
 ·have ha:=hall i hi0 (by omega)
  have hno:=aGu hnd hi0 (by omega)
  refine aK<|aG<|aI<|wq<|wm Z<|wy (aH underlying52 sz3 Z Z (h_a.c _))<|wy (aX underlying3 Z Z (h_a.c _))<|wg Z<|wn Z<|aG<|wq<|wm Z ?_
  refine wy (Yl.f (eP Z Z))<|wm Z<|aC Z Z<|wm Z<|aC Z Z<|wm Z<|aC Z Z<|wy (aQ underlying52 Z)<|aC Z Z<|wy (Yl.f (jG Z Z))<|wy (aS Z Z)<|wm Z<|aC Z Z<|wm Z<|aC Z Z ?_
  refine wm Z<|aC Z Z<|wy (aH underlying269 sz4 Z Z (rdr 0 Z))<|aC Z Z<|wy (Yl.f (BV underlying4 Z Z (rdr 0 Z)) (fun h=>hno ((hE _ ha.1 ha.2).1 h)))<|wy (aS Z Z)<|aA<|aL Z<|aK<|aM<|wm Z<|wm Z<|wm Z<|wm Z<|wm Z ?_
  refine wy (aH underlying52 sz3 Z Z (rdr 1 Z))<|bY (bG 1 Z sz3 Z Z) ?_
  rintro _ _ rfl
  refine wy (aH underlying269 sz4 Z Z (rdr 0 Z))<|bY (uP 0 Z sz4 Z Z) ?_
  rintro _ _ rfl
  refine aA<|aM<|wA Z Z<|wm Z<|aA ?_
  exact⟨i+1,upd V (rd a i) i,oQ E (rd a i) true,⟨by omega,by omega,(by rw[aV];exact hVl),(by rw[kG];exact hEl),(aFz hi0 (by omega) hEl ha hE),(aOl hi0 (by omega) hnd hVl hall hV)⟩,by omega,(G6 Z Z Z Z Z Z),fun _ h=>h⟩
 ·refine aZ<|wq<|wm Z<|wg Z<|wn Z<|aT [1] 99 (by decide) Z ?_
  refine⟨_,_,Z,Z,?_⟩
  exact⟨_,_,V,Z,hVl,fun q h0 h1=>hV q h0 (by omega),Z⟩
theorem aLu (h_a:Rd w A_a n_a c_a 1 (ints .i64 a)) (hp:a.Perm (iota a.length)) (hN:a.length≤1000000):
  Ct Tryz.prog 197 #[.slice A_a n_a c_a] w.heap.size w [] (fun v R'=>v= .bool true):=by
 obtain rfl:=h_a.lenI
 refine fn1 Tryz.func197 Z Z Z ?_
 have m_a:=h_a.max
 refine wq<|wn Z<|wq<|wm Z<|wa (aF aPt Z (Ct.fresh (fun w hw=>OY ((h_a.c _) w hw) hp hN))) ?_
 rintro _ _ ⟨_,rfl,A_1,c_2,inv,rfl,hl_inv,hq_inv,rfl⟩
 refine wm Z<|wX Z Z<|wX Z Z<|wg Z<|wn Z<|wq<|wm Z<|wn Z<|aT [] 99 (by decide) Z ?_
 refine⟨_,Z,?_⟩
 rfl
set_option maxHeartbeats 800000 in
theorem aUp {A_u:Option Addr} {n_u c_u:Nat} (h_u:Rd w A_u n_u c_u 1 (ints .u8 u)) (bh_u:aO u) (hN:u.length≤1000000):
  Ct Tryz.prog 184 #[.slice A_u n_u c_u] w.heap.size w [] (fun v R'=> ∃A c,v= .slice A (fsL u).length c∧R'=[(ri 3 A ((fsL u).length) c (fsL u))]):=by
 obtain rfl:=h_u.lenI
 refine fn1 Tryz.func184 Z Z Z ?_
 have m_u:=h_u.max
 refine wq<|wn Z<|wq<|wm Z<|wy (aQ underlying22 Z)<|wa (dE underlying52 zb3 Z Z) ?_
 rintro _ _ ⟨g_1,rfl,rfl⟩
 refine bN (v:= .slice (GG g_1) u.length u.length) Z<|wn Z<|wq<|wm Z<|wy (aQ underlying22 Z)<|wa (dE underlying52 zb3 Z Z) ?_
 rintro _ _ ⟨g_2,rfl,rfl⟩
 refine bN (v:= .slice (GG g_2) u.length u.length) Z<|wn Z<|aG<|wq<|wm Z<|wy (aQ underlying22 Z)<|wm Z<|aA<|aI ?_
 refine fU (fun(i:Int) (V:List Int) (K:List Int)=>[(3, .slice (GG g_1) u.length u.length),(4, .slice (GG g_2) u.length u.length),(15, .slice A_u u.length c_u),(16,I ((u.length:Nat):Int)),(17,I i)]) (fun i V K=>[(ri 3 (GG g_2) u.length u.length K),(ri 3 (GG g_1) u.length u.length V)]) (fun i V K=>(0≤i)∧(i≤u.length)∧(V.length=u.length)∧(K.length=u.length)∧(∀j:Int,0≤j→j<i→rd V j=j)∧(∀j:Int,0≤j→j<i→rd K j=rd u j)) (fun i V K=>(u.length-i).toNat) ?_ ?_
 ·exact⟨0,List.replicate u.length (0:Int),List.replicate u.length (0:Int),⟨by omega,by omega,(by rw[List.length_replicate]),(by rw[List.length_replicate]),(fun j h1 h2=>by omega),(fun j h1 h2=>by omega)⟩,(G5 rfl rfl rfl rfl rfl),fun _ h=>h⟩
 intro i V K ⟨hi0,hi1,hVl,hKl,hV,hK⟩
 refine wq<|wL Z Z<|aA<|aG<|bM Z (fun hc1=> ?_) (fun hc1=> ?_)
 ·have hbi:=bh_u.rd i
  refine aK<|aG<|aI<|wq<|wm Z<|wy (aH underlying22 sz5 Z Z (h_u.c _))<|wy (aX underlying5 Z Z (h_u.c _))<|wg Z<|wn Z<|aM<|wm Z<|wm Z<|wm Z ?_
  refine wm Z<|wm Z<|wm Z<|wy (iV underlying5 underlying3 Z)<|wy (aH underlying52 sz3 Z Z (rdr 1 Z))<|bY (bG 1 Z sz3 Z Z) ?_
  rintro _ _ rfl
  refine wy (aH underlying52 sz3 Z Z (rdr 0 Z))<|bY (bG 0 Z sz3 Z Z) ?_
  rintro _ _ rfl
  refine aA<|aM<|wA Z Z<|wm Z<|aA ?_
  exact⟨i+1,upd V i i,upd K i (rd u i),⟨by omega,by omega,(by rw[aV];exact hVl),(by rw[aV];exact hKl),(eH (f:=fun j=>j) hi0 (by omega) hV Z),(eH (f:=fun j=>rd u j) hi0 (by omega) hK Z)⟩,by omega,(G5 Z Z Z Z Z),fun _ h=>h⟩
 ·obtain rfl:V=iota u.length:=bI (by rw[bF];omega) fun j h0 h1=>by rw[vF h0 (by omega)];exact hV j h0 (by omega)
  obtain rfl:u=K:=(bI (by omega) fun j h0 h1=>hK j h0 (by omega):K=u).symm
  refine aZ<|wq<|wm Z<|wm Z<|wa (aF IX Z (Ct.fresh (fun w hw=>rY ((rdr 1 Z) w hw) ((rdr 0 Z) w hw) (by omega) bh_u (fun i hi=>aW.1 hi) (by rw[bF];omega)))) ?_
  rintro _ _ ⟨_,rfl,A_3,c_4,rfl,rfl⟩
  refine wm Z<|wX Z Z<|wX Z Z<|wn Z<|wq<|wm Z<|wa (aF aPt Z (Ct.fresh (fun w hw=>OY ((rdr 0 Z) w hw) (aDe bh_u) (by rw[AY bh_u];omega)))) ?_
  rintro _ _ ⟨_,rfl,A_5,c_6,inv,rfl,hl_inv,hq_inv,rfl⟩
  refine wm Z<|wX Z Z<|wX Z Z<|wg Z<|wn Z<|wq<|wm Z<|wn Z<|aT [0] 99 (by decide) Z ?_
  refine⟨_,Z,?_⟩
  obtain rfl:inv=fsL u:=aWx bh_u hl_inv hq_inv
  have el:(bW (iota u.length) u (256:Int).toNat).length=(fsL u).length:=by rw[AY bh_u,vN]
  rw[el]
  exact⟨_,_,Z,Z⟩
theorem aOv (hu:aO u):(fsL u).Perm (iota (fsL u).length):=by
 rw[vN]
 exact zS (fun x h0 h1=>UF (l:=u) hu h0 h1) fun x y x0 x1 y0 y1 e=>aNw (l:=u) hu x0 x1 y0 y1 e
set_option maxHeartbeats 1500000 in
theorem aIp {A_p:Option Addr} {n_p c_p:Nat} {p:List Int} (h_p:Rd w A_p n_p c_p 1 (ints .i64 p)) (hp:p.Perm (iota p.length)) (hN:p.length≤1000000):
  Ct Tryz.prog 183 #[.slice A_p n_p c_p] w.heap.size w [] (fun v R'=> ∃(A:Option Addr) (c:Nat) (vals:List Value) (Rs:List Row),v= .tuple #[.slice A vals.length c, .bool true]∧SlR .i64 Rs vals (dW p)∧R'=⟨52,1,A,vals.length,c,vals,false⟩::Rs):=by
 obtain rfl:=h_p.lenI
 refine fn2 Tryz.func183 Z Z Z ?_
 have m_p:=h_p.max
 refine wq<|wg Z<|wn Z<|aG<|wq<|wm Z<|wa (aF aXo Z (Ct.quiet (fun w hw=>aLu ((h_p.c _) w hw) hp hN))) ?_
 rintro _ _ ⟨rfl,rfl⟩
 refine wy (dI Z)<|aA<|aL Z<|aK<|wq<|wm Z<|wy (aQ underlying52 Z)<|wa (QN underlying269 zb4 Z Z (by omega) (by omega) (by omega)) ?_
 rintro _ _ ⟨g_1,rfl,rfl⟩
 refine bN (v:= .slice (GG g_1) p.length p.length) Z<|wn Z<|wq<|wa (nN [] underlying232 bBh Z Z Z Z) ?_
 rintro _ _ ⟨g_3,rfl,rfl⟩
 refine wn Z<|aG<|wq<|wm Z<|wy (aQ underlying52 Z)<|wm Z<|aA<|aI ?_
 refine DW (fun(i:Int) (A1:Option Addr) (n1:Nat) (c1:Nat) (vals:List Value) (ls:List (List Int)) (E:List Bool) (Rs:List Row)=>[(0, .slice A_p p.length c_p),(4, .slice (GG g_1) p.length p.length),(5, .slice A1 n1 c1),(17,I ((p.length:Nat):Int)),(18,I i)]) (fun i A1 n1 c1 vals ls E Rs=>(⟨52,1,A1,n1,c1,vals,false⟩::⟨4,1,(GG g_1),p.length,p.length,bools E,false⟩::Rs)) (fun i A1 n1 c1 vals ls E Rs=>(0≤i)∧(i≤p.length)∧(n1=vals.length)∧(SlR .i64 Rs vals ls)∧(iD p i.toNat=(E,ls))) (fun i A1 n1 c1 vals ls E Rs=>(p.length-i).toNat) ?_ ?_
 ·exact⟨0,GG g_3,0,0,[],[],List.replicate p.length false,[],⟨by omega,by omega,(Z),(SlR.nil _),(Z)⟩,(G5 Z Z Z Z Z),fun _ h=>h⟩
 intro i A1 n1 c1 vals ls E Rs ⟨hi0,hi1,hn1,hsl,hcy⟩
 have hEl:E.length=p.length:=by have h:=(kU hp i.toNat (by omega)).1;rw[hcy] at h;exact h
 have hfew:vals.length≤i.toNat:=by have h:=JC p i.toNat;rw[hcy] at h;rw[hsl.1];exact h
 refine wq<|wL Z Z<|aA<|aG<|bM Z (fun hc1=> ?_) (fun hc1=> ?_)
 ·refine aK<|aG<|aI<|wq<|wm Z<|wn Z<|wq<|dH (R1:=((ri 3 none 0 0 ([]))::⟨52,1,A1,n1,c1,vals,false⟩::⟨4,1,(GG g_1),p.length,p.length,bools E,false⟩::Rs)) (Sub.refl _) (fun _ h=>h.nil 3 1)<|wn Z<|aG<|aG ?_
  refine aM<|wm Z<|wn Z<|aI ?_
  refine aCa (fun(k:Int) (A2:Option Addr) (n2:Nat) (c2:Nat) (acc:List Int) (E2:List Bool) (f:Nat)=>[(0, .slice A_p p.length c_p),(4, .slice (GG g_1) p.length p.length),(5, .slice A1 n1 c1),(7, .slice A2 n2 c2),(8,I k),(17,I ((p.length:Nat):Int)),(18,I i)]) (fun k A2 n2 c2 acc E2 f=>((ri 3 A2 n2 c2 acc)::⟨52,1,A1,n1,c1,vals,false⟩::⟨4,1,(GG g_1),p.length,p.length,bools E2,false⟩::Rs)) (fun k A2 n2 c2 acc E2 f=>(0≤k)∧(k<p.length)∧(n2=acc.length)∧(E2.length=p.length)∧(cntF E2≤f)∧((acc++(fK p f E2 k).1,(fK p f E2 k).2)=fK p p.length E i)) (fun k A2 n2 c2 acc E2 f=>f) ?_ ?_
  ·exact⟨i,none,0,0,[],E,p.length,⟨by omega,by omega,(Z),(hEl),(by have:cntF E≤E.length:=List.countP_le_length;omega),(Z)⟩,(G7 Z Z Z Z Z Z Z),fun _ h=>h⟩
  intro k A2 n2 c2 acc E2 f ⟨hk0,hk1,hn2,hE2l,hf,hw⟩
  have hal:=XL hp hEl hi0 (by omega) hw
  refine aG<|wq<|wm Z<|wm Z<|wy (aH underlying269 sz4 Z Z (rdr 2 Z))<|wy (BV underlying4 Z Z (rdr 2 Z))<|wy (EO Z)<|aA<|bM Z (fun hc2=> ?_) (fun hc2=> ?_)
  ·have hgo:=EU (p:=p) hk0 (by omega) hf hc2
   have hup:=zK hk0 (by omega) hc2
   have hpos:=JG hk0 (by omega) hc2
   have hpk:=aW.1 (hp.subset (bH (L:=p) hk0 hk1))
   refine aK<|aG<|aI<|wq<|wm Z<|wm Z<|wy (aH underlying269 sz4 Z Z (rdr 2 Z))<|bY (uP 2 Z sz4 Z Z) ?_
   rintro _ _ rfl
   refine aA<|aM<|wm Z<|wm Z<|wa (bS .i64 [k] underlying52 zs3 Z Z Z) ?_
   rintro _ _ ⟨g_6,rfl,rfl⟩
   refine wa (bE 1 Z underlying52 zb3 Z Z Z (rdr 0 Z)) ?_
   rintro _ _ ⟨A_7,c_8,rfl,rfl⟩
   refine bN (v:= .slice A_7 (n2+1) c_8) Z<|wn Z<|aM<|wm Z<|wm Z<|wy (aH underlying52 sz3 Z Z (h_p.c _))<|wy (aX underlying3 Z Z (h_p.c _))<|wn Z ?_
   exact⟨rd p k,A_7,n2+1,c_8,acc++([k]),oQ E2 k true,(f-1),⟨by omega,by omega,(by rw[List.length_append,hn2];rfl),(by rw[kG];exact hE2l),by omega,(by rw[←hw,hgo];simp only[List.append_assoc,List.singleton_append])⟩,by omega,(G7 Z Z Z Z Z Z Z),fun _ h=>h.selR (F:=[_,_,_,_]) (F':=[_,_,_]) [1,2,3] (by decide) Z⟩
  ·have hse:fK p p.length E i=(acc,E2):=by rw[←hw,rR (Decidable.not_not.1 hc2),List.append_nil]
   refine aZ<|wq<|wm Z<|wy (aQ underlying52 Z)<|wy (dV Z Z)<|aA<|bM Z (fun hc3=> ?_) (fun hc3=> ?_)
   ·refine aM<|wm Z<|wm Z<|wa (nN [Value.slice A2 n2 c2] underlying232 bBh Z Z Z Z) ?_
    rintro _ _ ⟨g_10,rfl,rfl⟩
    refine wa (rG 2 Z Z underlying232 bFg Z Z Z Z Z (rdr 0 Z) (by simp[Value.oneCell']) (by dsimp only;omega)) ?_
    rintro _ _ ⟨A_11,c_12,rfl,rfl⟩
    refine bN (v:= .slice A_11 (n1+1) c_12) Z<|wn Z<|aM<|wA Z Z<|wm Z<|aA ?_
    exact⟨i+1,A_11,n1+1,c_12,vals++([Value.slice A2 n2 c2]),(ls++[acc]),E2,((ri 3 A2 n2 c2 acc)::Rs),⟨by omega,by omega,(by rw[List.length_append,hn1];rfl),(hsl.snoc hn2),(aVj hi0 hcy hse (fun e=>by rw[e] at hn2;simp at hn2;omega))⟩,by omega,(G5 rfl rfl rfl rfl rfl),fun _ h=>h.selR (F:=[_,_,_,_]) (F':=[_,_,_]) [2,3,1] (by decide) rfl⟩
   ·refine aK<|aM<|wA Z Z<|wm Z<|aA ?_
    exact⟨i+1,A1,n1,c1,vals,ls,E2,Rs,⟨by omega,by omega,(hn1),(hsl),(bAi hi0 hcy hse (List.eq_nil_of_length_eq_zero (by omega)))⟩,by omega,(G5 Z Z Z Z Z),fun _ h=>h.selR (F:=[_,_,_]) (F':=[_,_]) [1,2] (by decide) Z⟩
 ·refine aZ<|wq<|wm Z<|wg Z<|wn Z<|aT [0] 2 (by decide) Z ?_
  refine⟨_,_,Z,Z,?_⟩
  obtain rfl:ls=dW p:=by unfold dW;rw[←show i.toNat=p.length by omega,hcy]
  subst hn1
  exact⟨_,_,vals,Rs,Z,hsl,Z⟩
end Go.Proofs.YtdbebmmhdefgdaaGreat
namespace Go.Proofs
open Go.Shelf
def Tryz.laysSlF06_f276_ren:Go.Shelf.Ren:=⟨fun|6=>276|15=>192|14=>304|28=>251|29=>252|20=>329|21=>330|22=>331|23=>332|24=>333|25=>334|26=>335|27=>336|46=>358|47=>282|48=>283|49=>359|50=>360|57=>366|n=>n,fun|22=>228|24=>230|25=>315|3=>3|39=>167|0=>0|53=>123|55=>112|4=>4|46=>289|45=>288|50=>97|5=>5|9=>9|66=>316|70=>320|76=>337|77=>338|n=>n,fun|n=>n⟩
theorem Tryz.laysSlF06_f276:Go.Proofs.SlLaysF0.n6 Tryz.prog Tryz.laysSlF06_f276_ren:= {
 mixed:=by kernel_rfl
 f6:=⟨Tryz.f276.name,by decide,Tryz.func276.trans (congrArg some (by kernel_rfl))⟩
 f14:=⟨Tryz.f304.name,by decide,Tryz.func304.trans (congrArg some (by kernel_rfl))⟩
 f15:=Tryz.func192.trans (congrArg some (by kernel_rfl))
 f20:=⟨Tryz.f329.name,by decide,Tryz.func329.trans (congrArg some (by kernel_rfl))⟩
 f21:=⟨Tryz.f330.name,by decide,Tryz.func330.trans (congrArg some (by kernel_rfl))⟩
 f22:=⟨Tryz.f331.name,by decide,Tryz.func331.trans (congrArg some (by kernel_rfl))⟩
 f23:=⟨Tryz.f332.name,by decide,Tryz.func332.trans (congrArg some (by kernel_rfl))⟩
 f24:=⟨Tryz.f333.name,by decide,Tryz.func333.trans (congrArg some (by kernel_rfl))⟩
 f25:=⟨Tryz.f334.name,by decide,Tryz.func334.trans (congrArg some (by kernel_rfl))⟩
 f26:=⟨Tryz.f335.name,by decide,Tryz.func335.trans (congrArg some (by kernel_rfl))⟩
 f27:=⟨Tryz.f336.name,by decide,Tryz.func336.trans (congrArg some (by kernel_rfl))⟩
 f28:=Tryz.func251.trans (congrArg some (by kernel_rfl))
 f29:=Tryz.func252.trans (congrArg some (by kernel_rfl))
 f46:=⟨Tryz.f358.name,by decide,Tryz.func358.trans (congrArg some (by kernel_rfl))⟩
 f47:=Tryz.func282.trans (congrArg some (by kernel_rfl))
 f48:=Tryz.func283.trans (congrArg some (by kernel_rfl))
 f49:=⟨Tryz.f359.name,by decide,Tryz.func359.trans (congrArg some (by kernel_rfl))⟩
 f50:=⟨Tryz.f360.name,by decide,Tryz.func360.trans (congrArg some (by kernel_rfl))⟩
 f57:=⟨Tryz.f366.name,by decide,Tryz.func366.trans (congrArg some (by kernel_rfl))⟩
 t0:=Tryz.underlying0
 a0:=Tryz.isAgg0
 z0:=Tryz.sizeOf0
 v0:=Tryz.zeroValue0
 t3:=Tryz.underlying3
 a3:=Tryz.isAgg3
 z3:=Tryz.sizeOf3
 v3:=Tryz.zeroValue3
 t4:=Tryz.underlying4
 a4:=Tryz.isAgg4
 z4:=Tryz.sizeOf4
 v4:=Tryz.zeroValue4
 t5:=Tryz.underlying5
 a5:=Tryz.isAgg5
 z5:=Tryz.sizeOf5
 v5:=Tryz.zeroValue5
 t9:=Tryz.underlying9
 a9:=Tryz.isAgg9
 z9:=Tryz.sizeOf9
 v9:=Tryz.zeroValue9
 t22:=Tryz.underlying228
 a22:=Tryz.isAgg228
 z22:=Tryz.sizeOf228
 v22:=Tryz.zeroValue228
 t25:=Tryz.underlying315
 a25:=Tryz.isAgg315
 z25:=Tryz.sizeOf315
 v25:=Tryz.zeroValue315
 t39:=Tryz.underlying167
 a39:=Tryz.isAgg167
 z39:=Tryz.sizeOf167
 v39:=Tryz.zeroValue167
 t45:=Tryz.underlying288
 a45:=Tryz.isAgg288
 z45:=Tryz.sizeOf288
 v45:=Tryz.zeroValue288
 t46:=Tryz.underlying289
 a46:=Tryz.isAgg289
 z46:=Tryz.sizeOf289
 v46:=Tryz.zeroValue289
 t50:=Tryz.underlying97
 a50:=Tryz.isAgg97
 z50:=Tryz.sizeOf97
 v50:=Tryz.zeroValue97
 t53:=Tryz.underlying123
 a53:=Tryz.isAgg123
 z53:=Tryz.sizeOf123
 v53:=Tryz.zeroValue123
 t55:=Tryz.underlying112
 a55:=Tryz.isAgg112
 z55:=Tryz.sizeOf112
 v55:=Tryz.zeroValue112
 t66:=Tryz.underlying316
 a66:=Tryz.isAgg316
 z66:=Tryz.sizeOf316
 v66:=Tryz.zeroValue316
 t70:=Tryz.underlying320
 a70:=Tryz.isAgg320
 z70:=Tryz.sizeOf320
 v70:=Tryz.zeroValue320
 t76:=Tryz.underlying337
 a76:=Tryz.isAgg337
 z76:=Tryz.sizeOf337
 v76:=Tryz.zeroValue337
 t77:=Tryz.underlying338
 a77:=Tryz.isAgg338
 z77:=Tryz.sizeOf338
 v77:=Tryz.zeroValue338}
open Go.RowKit Go.Lib Go.Sort in
theorem Tryz.slices_SortFunc {α:Type} [Inhabited α] (k:Nat) (aE: ∀w,(isAgg 230).run Tryz.prog w= .ok true w) (zE: ∀w,(Go.sizeOf 230).run Tryz.prog w= .ok k w) (enc:α→List Value) (hk: ∀x,(enc x).length=k) (h1: ∀x,∀v∈enc x,v.oneCell'=true) (cf:α→α→Int) (hO:SWO (ltOf cf)) (g:Nat) (cb:Array Value) (blk off cap:Nat) (d:Array α) (w:World) (eg: ∀args w,(callFunc g args).run Tryz.prog w= .ok (.enter g args) w) (hcmp:CmpLays Tryz.prog g cb enc k cf blk off d.size w) (hH:HoldsK enc k w blk off d) (hblk:blk<w.heap.size) (hsz:d.size<4611686018427387904):
  Calls Tryz.prog 276 #[.slice (some ⟨blk,off,none⟩) d.size cap, .func (.func g) #[] cb] w fun e w'=>
   e= .returned (.tuple #[])∧ ∃d' n os,PermIn 0 d.size d d'∧SortedIn (ltOf cf) 0 d.size d'∧w'=sortWorldK enc k w blk off n d' os:=AnyQ.slices_SortFunc Tryz.laysSlF06_f276 k aE zE enc hk h1 cf hO g cb blk off cap d w eg hcmp hH hblk hsz
end Go.Proofs
