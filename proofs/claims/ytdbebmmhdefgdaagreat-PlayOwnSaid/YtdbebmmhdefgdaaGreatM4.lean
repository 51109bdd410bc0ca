/- Several texts of our own in one: F10, Q18, F11, Q31, H2, W1, P1, E29, P2, P3, P4, P5, Q4, C1, F3, E28, S4, N3, N4, F2, N5, N6, Q46, B1, B4, B5, Q49, E36, P10, P11, B6, Q35, Q50, B7, E37, B8, B9, B2, V3, B3, L1, E38, Y1, Y2, Y3, Y4. -/
import Derived.Tactics
import Derived.Tactics2
import Derived.Defers
import Derived.Laws.Pointers
import Derived.Laws.LoneSync
import Derived.RegionTactic
import Derived.RegionCalls
import Derived.ChangeAlike
import Derived.Lib.MakeNoZero
import Derived.Ground.SlsfProg
import Derived.Shelf.SlSortCmp.NoneTotal
import Derived.Test.YtdbebmmhdefgdaaGreatProg
import Derived.Lib.AppendZeros
import Derived.Maps.AppendAt
import Derived.Shelf.Abstract
import Derived.WalkKit
import Derived.OwnWalkIn
import Derived.TacticsInMore
import Derived.LoopNIn
import Derived.LoopIn
import Derived.Sort.QuietTacIn
import Derived.Test.YtdbebmmhdefgdaaGreatM3
namespace Go.Proofs.YtdbebmmhdefgdaaGreat
open Go Go.Eng Go.Pure
open Tryz
set_option linter.unusedVariables false
set_option maxRecDepth 100000
theorem JF {w:World} {A_u:Option Addr} {n_u c_u:Nat} {u:List Int} (h_u:Rd w A_u n_u c_u 1 (ints .u8 u)) (hN:u.length≤1000000):
  Ct Tryz.prog 178 #[.slice A_u n_u c_u] w.heap.size w [] (fun v R'=> ∃A c,v= .slice A (cB u).length c∧R'=[(ri 3 A ((cB u).length) c (cB u))]):=by
 obtain rfl:=h_u.lenI
 refine fn1 Tryz.func178 Z Z Z ?_
 have m_u:=h_u.max
 refine wq<|wg Z<|aA<|wq<|eY (R1:=[(ri 3 none 0 0 ([]))]) (Sub.refl _) (fun _ h=>h.nil 3 1)<|wg Z<|aA<|aF<|wq<|wg Z<|aA<|aI ?_
 refine lI (fun(a:Int) (A1:Option Addr) (n1:Nat) (c1:Nat) (acc:List Int)=>[(0, .slice A_u u.length c_u),(3, .slice A1 n1 c1),(4,I a)]) (fun(a:Int) (A1:Option Addr) (n1:Nat) (c1:Nat) (acc:List Int)=>[(ri 3 A1 n1 c1 acc)]) (fun(a:Int) (A1:Option Addr) (n1:Nat) (c1:Nat) (acc:List Int)=>(0≤a)∧(a≤u.length)∧(n1=acc.length)∧(acc.length≤a)∧(cB u=acc++cB (u.drop a.toNat))) (fun(a:Int) (A1:Option Addr) (n1:Nat) (c1:Nat) (acc:List Int)=>(u.length-a).toNat) ?_ ?_
 ·exact⟨0,none,0,0,[],⟨(by omega),(by omega),(Z),(by simp),(Z)⟩,(G3 Z Z Z),fun _ h=>h⟩
 intro a A1 n1 c1 acc ⟨ha0,ha1,hn1,hlu,hfac⟩
 refine aF<|wq<|wm Z<|wm Z<|wy (aV underlying22 Z)<|wL Z Z<|aA<|bR Z (fun hc1=> ?_) (fun hc1=> ?_)
 ·refine aM<|aI<|wq<|wm Z<|wm Z<|wA Z Z<|wg Z<|wg Z<|aA<|aF<|aI ?_
  refine jB (fun(i:Int) (j:Int)=>[(0, .slice A_u u.length c_u),(3, .slice A1 n1 c1),(4,I a),(5,I i),(6,I j)]) (fun(i:Int) (j:Int)=>[(ri 3 A1 n1 c1 acc)]) (fun(i:Int) (j:Int)=>(a≤i)∧(i<j)∧(j≤u.length)∧(lF u a (j-i))∧(lC u a (j-i) (j-a))) (fun(i:Int) (j:Int)=>(u.length-j).toNat) ?_ ?_
  ·exact⟨a,a+1,⟨(by omega),(by omega),(by omega),(sS.1),(sS.2)⟩,(G5 Z Z Z Z Z),fun _ h=>h⟩
  intro i j ⟨hai,hij,hj,hL,hP⟩
  refine aF ?_
  refine KD [(0, .slice A_u u.length c_u),(3, .slice A1 n1 c1),(4,I a),(5,I i),(6,I j),(28, .bool (decide ((j<((u.length:Nat):Int))∧((rd u i)≤(rd u j)))))] [(ri 3 A1 n1 c1 acc)] ?_ ?_
  ·refine dQ mixed<|wD 0 Z (aJ Z)<|wD 1 Z (aJ Z)<|wD 2 Z (aV underlying22 Z)<|wD 3 Z (sU Z Z)<|wD 4 Z (aJ Z)<|tO 18 Z (fun hc2=> ?_) (fun hc2=> ?_)
   ·refine aU 5 Z (by kernel_rfl) Z Z Z (aJ Z)<|aU 6 Z (by kernel_rfl) Z Z Z (aJ Z)<|aU 7 Z (by kernel_rfl) Z Z Z (aB underlying22 sz5 Z Z (h_u.c _) (by omega) (by omega))<|aU 8 Z (by kernel_rfl) Z Z Z (aZ underlying5 Z Z (h_u.c _) (by omega) (by omega))<|aU 9 Z (by kernel_rfl) Z Z Z (aJ Z)<|aU 10 Z (by kernel_rfl) Z Z Z (aJ Z)<|aU 11 Z (by kernel_rfl) Z Z Z (aB underlying22 sz5 Z Z (h_u.c _) (by omega) (by omega))<|aU 12 Z (by kernel_rfl) Z Z Z (aZ underlying5 Z Z (h_u.c _) (by omega) (by omega))<|aU 13 Z (by kernel_rfl) Z Z Z (aAp Z Z)<|wD 14 Z (aX Z Z)<|dD (by kernel_rfl) ?_
    exact⟨(sc Z (sc Z (sc Z (sc Z (sc Z (Sub.to Z (mb (by first|omega|exact⟨fun h=>⟨(by assumption),h⟩,fun h=>h.2⟩|exact .inl (by assumption)|exact⟨.inr,fun h=>h.resolve_left (by assumption)⟩|exact⟨fun h=>h.resolve_left (by assumption), .inr⟩|simp[*])) Sub.nil)))))),fun _ h=>h⟩
   ·refine dC 5 Z (by kernel_rfl) Z Z Z Z<|dC 6 Z (by kernel_rfl) Z Z Z Z<|dC 7 Z (by kernel_rfl) Z Z Z Z<|dC 8 Z (by kernel_rfl) Z Z Z Z<|dC 9 Z (by kernel_rfl) Z Z Z Z<|dC 10 Z (by kernel_rfl) Z Z Z Z<|dC 11 Z (by kernel_rfl) Z Z Z Z<|dC 12 Z (by kernel_rfl) Z Z Z Z<|dC 13 Z (by kernel_rfl) Z Z Z Z<|wD 14 Z (bG Z Z)<|dD (by kernel_rfl) ?_
    exact⟨(sc Z (sc Z (sc Z (sc Z (sc Z (Sub.to Z (zJ (by first|omega|exact⟨fun h=>⟨(by assumption),h⟩,fun h=>h.2⟩|exact .inl (by assumption)|exact⟨.inr,fun h=>h.resolve_left (by assumption)⟩|exact⟨fun h=>h.resolve_left (by assumption), .inr⟩|simp[*])) Sub.nil)))))),fun _ h=>h⟩
  refine bR Z (fun hc3=> ?_) (fun hc3=> ?_)
  ·refine aM<|aI<|aF<|aF<|dQ mixed<|wD 0 Z (aJ Z)<|wD 1 Z (aJ Z)<|wD 2 Z (aB underlying22 sz5 Z Z (h_u.c _) (by omega) (by omega))<|wD 3 Z (aZ underlying5 Z Z (h_u.c _) (by omega) (by omega))<|wD 4 Z (aJ Z)<|wD 5 Z (aJ Z)<|wD 6 Z (aB underlying22 sz5 Z Z (h_u.c _) (by omega) (by omega))<|wD 7 Z (aZ underlying5 Z Z (h_u.c _) (by omega) (by omega))<|wD 8 Z (sU Z Z)<|dD (by kernel_rfl) ?_
   refine bR Z (fun hc4=> ?_) (fun hc4=> ?_)
   ·refine aN<|wm Z<|wg Z<|aA<|aN<|wm Z<|wA Z Z<|wg Z<|aA ?_
    exact⟨a,j+1,⟨(by omega),(by omega),(by omega),((EJ ha0 hai hij hL hP hc4).1),((EJ ha0 hai hij hL hP hc4).2)⟩,(by omega),(G5 Z Z Z Z Z),fun _ h=>h⟩
   ·refine aN<|wm Z<|wA Z Z<|wg Z<|aA<|aN<|wm Z<|wA Z Z<|wg Z<|aA ?_
    exact⟨i+1,j+1,⟨(by omega),(by omega),(by omega),((EK ha0 hai hij hL hP hc3.2 hc4).1),((EK ha0 hai hij hL hP hc3.2 hc4).2)⟩,(by omega),(G5 Z Z Z Z Z),fun _ h=>h⟩
  ·refine bF<|aI ?_
   refine lI (fun(b:Int) (A2:Option Addr) (n2:Nat) (c2:Nat) (ac2:List Int)=>[(0, .slice A_u u.length c_u),(3, .slice A2 n2 c2),(4,I b),(5,I i),(6,I j)]) (fun(b:Int) (A2:Option Addr) (n2:Nat) (c2:Nat) (ac2:List Int)=>[(ri 3 A2 n2 c2 ac2)]) (fun(b:Int) (A2:Option Addr) (n2:Nat) (c2:Nat) (ac2:List Int)=>(a≤b)∧(b≤j)∧(n2=ac2.length)∧(ac2.length≤b)∧(cB u=ac2++cB (u.drop b.toNat))∧(b≤i→lF u b (j-i)∧lC u b (j-i) (j-b))) (fun(b:Int) (A2:Option Addr) (n2:Nat) (c2:Nat) (ac2:List Int)=>(j-b).toNat) ?_ ?_
   ·exact⟨a,A1,n1,c1,acc,⟨(by omega),(by omega),(hn1),(hlu),(hfac),(fun _=>⟨hL,hP⟩)⟩,(G5 Z Z Z Z Z),fun _ h=>h⟩
   intro b A2 n2 c2 ac2 ⟨hb0,hb1,hn2,hlu2,hfac2,hLP⟩
   refine aF<|wq<|wm Z<|wm Z<|wy (aAp Z Z)<|aA<|bR Z (fun hc5=> ?_) (fun hc5=> ?_)
   ·refine aM<|aI<|wq<|wm Z<|wm Z<|wm Z<|wS Z Z<|wa (bV .i64 [j-i] underlying52 zs3 Z Z Z) ?_
    rintro _ _ ⟨g_2,rfl,rfl⟩
    refine wa (bX 1 Z underlying52 zb3 Z Z Z (rdr 0 Z) (by omega)) ?_
    rintro _ _ ⟨A_3,c_4,rfl,rfl⟩
    refine bY (v:= .slice A_3 (n2+1) c_4) Z<|wg Z<|aA<|aN<|wm Z<|wm Z<|wm Z<|wS Z Z<|wA Z Z<|wg Z<|aA ?_
    exact⟨b+(j-i),A_3,n2+1,c_4,ac2++([j-i]),⟨(by omega),(by omega),(by rw[List.length_append,hn2];rfl),(by rw[List.length_append,List.length_singleton];omega),(by rw[hfac2,PH (by omega) hc5 hij hj (hLP hc5).1 (hLP hc5).2 hc3,List.append_assoc];rfl),(fun h=>JH (by omega) hij (hLP hc5).1 (hLP hc5).2 h)⟩,(by omega),(G5 Z Z Z Z Z),fun _ h=>h.sel [1] (by decide) Z⟩
   ·refine bF ?_
    exact⟨b,A2,n2,c2,ac2,⟨(by omega),(by omega),(hn2),(hlu2),(hfac2)⟩,(by omega),(G3 Z Z Z),fun _ h=>h⟩
 ·refine bF<|wq<|wm Z<|wg Z<|aA<|aY [0] 99 (by decide) Z ?_
  refine⟨_,Z,?_⟩
  have e:(u.drop a.toNat).length=0:=by rw[List.length_drop];omega
  rw[EB e,List.append_nil] at hfac
  rw[hfac]
  obtain rfl:=hn1
  exact⟨_,_,Z,Z⟩
end Go.Proofs.YtdbebmmhdefgdaaGreat

namespace Go.Pure
open Go Go.Eng
def aAo (c:Int) (l:List Int):Int:=((l.filter fun x=>decide (x=c)).length:Int)
def CntI (u m:List Int) (i:Int) (V:List Int):Prop:= ∀c:Int,0≤c→c<256→rd V c=aAo c (u.take i.toNat)-aAo c (m.take i.toNat)
section
variable {u m V:List Int} {i:Int}
end
theorem XO {l:List (Int × Int)} {f:Int × Int→Int} {i:Int} (h0:0≤i) (h:i<l.length):rd (l.map f) i=f (rdp l i):=by
 unfold rd rdp
 rw[List.getD_eq_getElem?_getD,List.getD_eq_getElem?_getD,List.getElem?_map,List.getElem?_eq_getElem (by omega)]
 rfl
end Go.Pure

namespace Go.Proofs.YtdbebmmhdefgdaaGreat
open Go Go.Eng Go.Pure
open Tryz
set_option linter.unusedVariables false
set_option maxRecDepth 100000
theorem FY {s:List Int} {k:Int} (h:k=(cB s).length):dM s (cB s) k=bws s:=by rw[h];rfl
set_option maxHeartbeats 1000000 in
theorem JP {w:World} {A_u:Option Addr} {n_u c_u:Nat} {u:List Int} (h_u:Rd w A_u n_u c_u 1 (ints .u8 u)) (bh_u:aP u) (hN:u.length≤100000):
  Ct Tryz.prog 104 #[.slice A_u n_u c_u] w.heap.size w [] (fun v R'=> ∃(lt:List (Int × Int)) (A:Option Addr) (c:Nat),v= .tuple #[.slice A lt.length c,I 0]∧lt.Perm (fB (bws u) (bws u).length)∧lt.Pairwise (tF (bws u))∧R'=[(ru 5 A lt.length c (lt.map (lastB (bws u))))]):=by
 obtain rfl:=h_u.lenI
 refine fn2 Tryz.func104 Z Z Z ?_
 have m_u:=h_u.max
 have hfl:=EC u
 refine wq<|wg Z<|wg Z<|aA<|aF<|wq<|wm Z<|wy (aV underlying22 Z)<|wy (Yl.f (kU Z Z) (by omega))<|aA<|aL Z<|aM<|aF ?_
 refine aN<|eY (R1:=[⟨22,1,none,0,0,[],false⟩]) (Sub.refl _) (fun _ h=>h.nil 22 1)<|wg Z<|aA<|wq<|wg Z<|aA<|aF<|wq<|wm Z<|wa (aC aDy Z (Ct.fresh (fun w hw=>JF ((h_u.c _) w hw) (by omega)))) ?_
 rintro _ _ ⟨_,rfl,A_1,c_2,rfl,rfl⟩
 refine wy (aV underlying52 Z)<|wm Z<|aA<|aI ?_
 refine tQ (fun(k:Int) (A1:Option Addr) (n1:Nat) (c1:Nat) (vals:List Value) (a:Int)=>[(0, .slice A_u u.length c_u),(4, .slice A1 n1 c1),(5,I a),(16, .slice A_1 ((cB (u)).length) c_2),(17,I (((cB (u)).length:Nat):Int)),(18,I k)]) (fun(k:Int) (A1:Option Addr) (n1:Nat) (c1:Nat) (vals:List Value) (a:Int)=>[(ri 3 A_1 ((cB (u)).length) c_2 (cB (u))),⟨22,1,A1,n1,c1,vals,false⟩]) (fun(k:Int) (A1:Option Addr) (n1:Nat) (c1:Nat) (vals:List Value) (a:Int)=>(0≤k)∧(k≤(cB u).length)∧(n1=k.toNat)∧(SlW .u8 w vals (dM u (cB u) k))∧(a=ps (cB u) k)) (fun(k:Int) (A1:Option Addr) (n1:Nat) (c1:Nat) (vals:List Value) (a:Int)=>((cB u).length-k).toNat) ?_ ?_
 ·exact⟨0,none,0,0,[],0,⟨(by omega),(by omega),(Z),(RJ _ _),(Z)⟩,(G6 Z Z Z Z Z Z),fun _ h=>h⟩
 intro k A1 n1 c1 vals a ⟨hk0,hk1,hn1,hsl,ha⟩
 refine wq<|wL Z Z<|aA<|aF<|bR Z (fun hc1=> ?_) (fun hc1=> ?_)
 ·have hps:=kI (L:=cB u) hk0 (by omega)
  have hpl:=aCv u (k+1)
  have hnn:=xS (nA u) k
  have hrp:=nA u _ (bA (L:=cB u) hk0 (by omega))
  have hsl2:SlW .u8 w (vals++[.slice (mD A_u a.toNat c_u 1) ((a+rd (cB u) k).toNat-a.toNat) (c_u-a.toNat)]) (dM u (cB u) (k+1)):=by
   rw[rZ hk0,←ha,show(rd (cB u) k).toNat=(a+rd (cB u) k).toNat-a.toNat by omega]
   exact hsl.snoc (h_u.cutI (by omega) (by omega)) (fun x hx=>WQ (bh_u x (List.mem_of_mem_drop (List.mem_of_mem_take hx)))) (by rw[List.length_take,List.length_drop];omega)
  refine aM<|aF<|aI<|wq<|wy (aB underlying52 sz3 Z Z (rdr 0 Z) (by omega) (by omega))<|wy (aZ underlying3 Z Z (rdr 0 Z) (by omega) (by omega))<|wg Z<|aA<|wq<|wm Z<|wm Z<|wm Z<|wm Z ?_
  refine wm Z<|wA Z Z<|wy (JY underlying22 sz5 Z Z Z (h_u.c _) (by omega) (by omega) (by omega))<|wa (MX [Value.slice (mD A_u (a).toNat c_u 1) ((a+(rd (cB (u)) k)).toNat-(a).toNat) (c_u-(a).toNat)] underlying23 aFb Z Z Z Z) ?_
  rintro _ _ ⟨g_5,rfl,rfl⟩
  refine wa (qQ 2 Z Z underlying23 aFd Z Z Z Z Z (rdr 0 Z) (by simp[Value.oneCell']) (by dsimp only;omega)) ?_
  rintro _ _ ⟨A_6,c_7,rfl,rfl⟩
  refine bY (v:= .slice A_6 (n1+1) c_7) Z<|wg Z<|aA<|aN<|wm Z<|wm Z<|wA Z Z<|wg Z<|aA<|aN<|wA Z Z<|wm Z<|aA ?_
  exact⟨k+1,A_6,n1+1,c_7,vals++([Value.slice (mD A_u (a).toNat c_u 1) ((a+(rd (cB (u)) k)).toNat-(a).toNat) (c_u-(a).toNat)]),a+(rd (cB (u)) k),⟨(by omega),(by omega),(by omega),(hsl2),(by rw[hps,ha])⟩,(by omega),(G6 Z Z Z Z Z Z),fun _ h=>h.sel [1,2] (by decide) Z⟩
 ·refine bF<|wq<|wa (bV .u8 [] underlying22 zs5 Z Z Z) ?_
  rintro _ _ ⟨g_9,rfl,rfl⟩
  refine wg Z<|aA<|aF<|wq<|wm Z<|wa (aC aDx Z (Ct.fresh (fun w hw=>QU ((rdr 2 Z) w hw) (hsl.c hw) (by rw[FY (show k=(cB u).length by omega),wE,YZ];have:=EC u;omega)))) ?_
  rintro _ _ ⟨_,rfl,lt,A_11,c_12,rfl,hpt,hst,rfl⟩
  refine wy (aV underlying228 Z)<|wm Z<|aA<|aI ?_
  refine lI (fun(q:Int) (B1:Option Addr) (m1:Nat) (d1:Nat) (acc:List Int)=>[(4, .slice A1 n1 c1),(8, .slice B1 m1 d1),(37, .slice A_11 lt.length c_12),(38,I ((lt.length:Nat):Int)),(39,I q)]) (fun(q:Int) (B1:Option Addr) (m1:Nat) (d1:Nat) (acc:List Int)=>[⟨230,2,A_11,lt.length,c_12,prs lt,false⟩,(ru 5 B1 m1 d1 acc),(ri 3 A_1 ((cB (u)).length) c_2 (cB (u))),⟨22,1,A1,n1,c1,vals,false⟩]) (fun(q:Int) (B1:Option Addr) (m1:Nat) (d1:Nat) (acc:List Int)=>(0≤q)∧(q≤lt.length)∧(m1=acc.length)∧(acc.length=q.toNat)∧(acc=(lt.take q.toNat).map (lastB (dM u (cB u) k)))) (fun(q:Int) (B1:Option Addr) (m1:Nat) (d1:Nat) (acc:List Int)=>(lt.length-q).toNat) ?_ ?_
  ·exact⟨0,GG g_9,0,0,[],⟨(by omega),(by omega),(Z),(Z),(Z)⟩,(G5 Z Z Z Z Z),fun _ h=>h⟩
  intro q B1 m1 d1 acc ⟨hq0,hq1,hm1,haq,hacc⟩
  have hll:lt.length=u.length:=by rw[FY (show k=(cB u).length by omega)] at hpt;exact MQ hpt
  refine wq<|wL Z Z<|aA<|aF<|bR Z (fun hc2=> ?_) (fun hc2=> ?_)
  ·have ht:=qB.1 (hpt.subset (gW (l:=lt) hq0 (by omega)))
   have htm:=ht.2.2
   have he0:=Int.emod_nonneg ((rdp lt q).2+(rdl (dM u (cB u) k) (rdp lt q).1).length-1) (show((rdl (dM u (cB u) k) (rdp lt q).1).length:Int)≠0 by omega)
   have he1:=Int.emod_lt_of_pos ((rdp lt q).2+(rdl (dM u (cB u) k) (rdp lt q).1).length-1) (show(0:Int)<(rdl (dM u (cB u) k) (rdp lt q).1).length by omega)
   refine aM<|aF<|aI<|wq<|wy (gU underlying228 iF Z Z (rdr 0 Z) Z (by omega) (by omega))<|wy (wW underlying230 Z iF Z (rdr 0 Z) (by omega) (by omega))<|wa (jJ (sz:=2) QD Z) ?_
   rintro _ _ ⟨g_15,rfl,rfl⟩
   refine dK (iN (vs:=[I ((rdp lt q).1),I ((rdp lt q).2)]) 0 Z iF Z Z Z (by intro v hv;simp at hv;rcases hv with rfl|rfl<;>rfl) Z) ?_
   rintro _ _ rfl
   refine aA<|wq<|wm Z<|wy (cK (q:=0) (rdR 0 (r:=⟨230,2,(GG g_15),1,1,[I ((rdp lt q).1),I ((rdp lt q).2)],false⟩) Z) underlying230 sz3 Z Z (Nat.le_of_ble_eq_true Z) (by decide) (by decide) Z)<|wy (aK (rdR 0 (r:=⟨230,2,(GG g_15),1,1,[I ((rdp lt q).1),I ((rdp lt q).2)],false⟩) Z) underlying3 Z Z Z)<|wy (aB underlying23 jC Z Z (rdr 4 Z) (by first|exact ht.1|(have:=ht.2.1;rw[lG] at this;omega)) (by first|exact ht.1|(have:=ht.2.1;rw[lG] at this;omega))) ?_
   refine hsl.elim (i:=(rdp lt q).1) (by first|exact ht.1|exact ht.2.1) (by first|exact ht.1|exact ht.2.1) (fun A_16 c_17 hv_18 hr_19 hb_20 mhr_19=> ?_)
   refine wy (FT underlying22 Z Z Z (rdr 4 Z) hv_18)<|wg Z<|aA<|aN<|wm Z<|wm Z<|wy (cK (q:=1) (rdR 0 (r:=⟨230,2,(GG g_15),1,1,[I ((rdp lt q).1),I ((rdp lt q).2)],false⟩) Z) underlying230 sz3 Z Z (Nat.le_of_ble_eq_true Z) (by decide) (by decide) Z)<|wy (aK (rdR 0 (r:=⟨230,2,(GG g_15),1,1,[I ((rdp lt q).1),I ((rdp lt q).2)],false⟩) Z) underlying3 Z Z Z)<|wm Z<|wy (aV underlying22 Z)<|wA Z Z<|wS Z Z<|wm Z<|wy (aV underlying22 Z)<|wy (ZM Z Z (by omega) (by omega)) ?_
   refine wy (aB underlying22 sz5 Z Z (hr_19.c _) (by omega) (by omega))<|wy (aZ underlying5 Z Z (hr_19.c _) (by omega) (by omega))<|wa (bV .u8 [rd (rdl (dM u (cB u) k) ((rdp lt q).1)) (((((rdp lt q).2)+(((rdl (dM u (cB u) k) ((rdp lt q).1)).length:Nat):Int))-1)%(((rdl (dM u (cB u) k) ((rdp lt q).1)).length:Nat):Int))] underlying22 zs5 Z Z Z) ?_
   rintro _ _ ⟨g_22,rfl,rfl⟩
   refine wa (bX 3 Z underlying22 zb5 Z Z Z (rdr 0 Z) (by omega)) ?_
   rintro _ _ ⟨A_23,c_24,rfl,rfl⟩
   refine bY (v:= .slice A_23 (m1+1) c_24) Z<|wg Z<|aA<|aN<|wA Z Z<|wm Z<|aA ?_
   exact⟨q+1,A_23,m1+1,c_24,acc++([rd (rdl (dM u (cB u) k) ((rdp lt q).1)) (((((rdp lt q).2)+(((rdl (dM u (cB u) k) ((rdp lt q).1)).length:Nat):Int))-1)%(((rdl (dM u (cB u) k) ((rdp lt q).1)).length:Nat):Int))]),⟨(by omega),(by omega),(by rw[List.length_append,hm1];rfl),(by rw[List.length_append,haq,List.length_singleton];omega),(by rw[RB hq0 (by omega),List.map_append,hacc];rfl)⟩,(by omega),(G5 Z Z Z Z Z),fun _ h=>h.sel [2,3,4,5] (by decide) Z⟩
  ·refine bF<|wq<|wm Z<|wg Z<|wg Z<|aA<|aY [1] 99 (by decide) Z ?_
   refine⟨_,_,Z,Z,?_⟩
   have e:k=(cB u).length:=by omega
   rw[FY e] at hpt hst hacc
   rw[List.take_of_length_le (by omega)] at hacc
   subst hacc
   obtain rfl:m1=lt.length:=by rw[hm1,List.length_map]
   exact⟨lt,_,_,Z,hpt,hst,Z⟩
end Go.Proofs.YtdbebmmhdefgdaaGreat

namespace Go.Pure
open Go Go.Eng
section
variable {p:List Int}
theorem mH {j:Int} (j0:0≤j): ∀(f:Nat) (E:List Bool) (k:Int),(hp:p.Perm (iota p.length))→E.length=p.length→0≤k→k<p.length→rdb E j=true→rdb (dF p f E k).2 j=true
 |0,E,k,_,_,_,_,h=>h
 | f+1,E,k,hp,hl,k0,hk,h=>by
  rw[dF]
  split
  ·exact h
  ·have hn:=aO.1 (hp.subset (bA (L:=p) k0 hk))
   refine mH j0 f _ _ hp (by rw[gB];exact hl) hn.1 hn.2 ?_
   rw[nT k0 (by omega) j0]
   split
   ·rfl
   ·exact h
theorem AX (hp:p.Perm (iota p.length)) {f:Nat} {E:List Bool} {k:Int} (hl:E.length=p.length) (k0:0≤k) (hk:k<p.length) (hf:cntF E≤f):rdb (dF p f E k).2 k=true:=by
 by_cases h:rdb E k=true
 ·rw[lH h];exact h
 ·rw [uI k0 (by omega) hf h]
  have hn:=aO.1 (hp.subset (bA (L:=p) k0 hk))
  exact mH k0 _ _ _ hp (by rw[gB];exact hl) hn.1 hn.2 (by rw[nT k0 (by omega) k0,if_pos rfl])
theorem rT (hp:p.Perm (iota p.length)): ∀i:Nat,i≤p.length→ ∀j:Nat,j<i→rdb (eD p i).1 j=true
 |0,_,j,hj=>by omega
 | i+1,hi,j,hj=>by
  have hf:=gK hp i (by omega)
  have hc:cntF (eD p i).1≤p.length:=by have:=hf.2.2;omega
  rw[eD]
  rcases Nat.lt_or_ge j i with g|g
  ·exact mH (by omega) _ _ _ hp hf.1 (by omega) (by omega) (rT hp i (by omega) j g)
  ·obtain rfl:j=i:=by omega
   exact AX hp hf.1 (by omega) (by omega) hc
theorem PP {E:List Bool} (h: ∀j:Nat,j<E.length→rdb E j=true):cntF E=0:=by
 unfold cntF
 rw[List.countP_eq_zero]
 intro b hb
 obtain⟨j,hj,rfl⟩:=List.mem_iff_getElem.1 hb
 have:=h j hj
 have e:rdb E (j:Int)=E[j]:=by unfold rdb;rw[Int.toNat_natCast,List.getD_eq_getElem?_getD,List.getElem?_eq_getElem hj];rfl
 rw[e] at this
 rw[this];simp
theorem EQ (hp:p.Perm (iota p.length)):(bT p).flatten.length=p.length:=by
 have hf:=gK hp p.length (Nat.le_refl _)
 have:=PP (E:=(eD p p.length).1) fun j hj=>rT hp p.length (Nat.le_refl _) j (by rw[hf.1] at hj;exact hj)
 unfold bT
 omega
theorem PZ (l:List Int) (cs:List (List Int)):(backL l cs).length=cs.flatten.length:=by
 unfold backL
 rw[List.length_flatten,List.map_map,List.length_flatten,List.map_reverse,List.sum_reverse]
 congr 2
 funext c
 exact iH l c
theorem OL {l:List Int} {cs:List (List Int)} {x:Int} (h:x∈backL l cs): ∃y,y∈cs.flatten∧x=rd l y:=by
 unfold backL at h
 obtain⟨w,hw,hx⟩:=List.mem_flatten.1 h
 obtain⟨c,hc,rfl⟩:=List.mem_map.1 hw
 unfold fQ at hx
 obtain⟨y,hy,rfl⟩:=List.mem_map.1 hx
 exact⟨y,List.mem_flatten.2 ⟨c,List.mem_reverse.1 hc,List.mem_reverse.1 hy⟩,rfl⟩
theorem QA {l:List Int} (hl:aP l) (cs:List (List Int)):aP (backL l cs):=fun x hx=>by
 obtain⟨y,_,rfl⟩:=OL hx
 exact hl.rd _
theorem YT {cs:List (List Int)} {k:Int} (k0:0≤k) (hk:k<cs.length):rdl cs k∈cs:=by
 unfold rdl
 rw[List.getD_eq_getElem?_getD,List.getElem?_eq_getElem (by omega)]
 exact List.getElem_mem _
theorem JR {l acc acc2:List Int} {cs:List (List Int)} {m kr:Nat} (hm:m=cs.length) (hkr:kr<m) (hacc:acc=(((cs.reverse).take kr).map (fQ l)).flatten) (h2:acc2=acc++(((rdl cs ((m-1-kr:Nat):Int)).reverse).take (rdl cs ((m-1-kr:Nat):Int)).length).map (rd l)):acc2=(((cs.reverse).take (kr+1)).map (fQ l)).flatten:=by
 rw[JS (by omega),h2,hacc,List.take_of_length_le (l:=(rdl cs ((m-1-kr:Nat):Int)).reverse) (by rw[List.length_reverse];exact Nat.le_refl _),show((m-1-kr:Nat):Int)=(cs.length:Int)-1-kr by omega]
 rfl
theorem FW {l acc acc2 c:List Int} {kq:Nat} (hk:kq<c.length) (h:acc2=acc++((c.reverse).take kq).map (rd l)):acc2++[rd l (rd c ((c.length-1-kq:Nat):Int))]=acc++((c.reverse).take (kq+1)).map (rd l):=by
 rw[FX hk,←List.append_assoc,←h,show((c.length-1-kq:Nat):Int)=(c.length:Int)-1-kq by omega]
theorem PM {p:List Int}:(bT p).length≤p.length:=vU p p.length
end
end Go.Pure

namespace Go.Proofs.YtdbebmmhdefgdaaGreat
open Go Go.Eng Go.Pure
open Tryz
set_option linter.unusedVariables false
set_option maxRecDepth 100000
theorem FJ {B:Nat} {w0:World} {R:List Row} {A_s:Option Addr} {n_s c_s:Nat}:
  Ct Tryz.prog 185 #[.slice A_s n_s c_s] B w0 R (fun v R'=> ∃g,v= .func (.func 240) #[] #[.pointer (GG g)]∧R'=⟨232,1,GG g,1,1,[.slice A_s n_s c_s],false⟩::R):=by
 refine fn1 Tryz.func185 Z Z Z ?_
 refine wq<|wa (dZ (sz:=1) Z Z) ?_
 rintro _ _ ⟨g,rfl,rfl⟩
 refine wg Z<|aA<|wq<|wy (jQ Z Z)<|wg Z<|aA<|fC ?_
 exact⟨_,Z,g,Z,Z⟩
theorem FK {B:Nat} {w0:World} {R:List Row} {A_s:Option Addr} {n_s c_s:Nat}:
  Ct Tryz.prog 186 #[.slice A_s n_s c_s] B w0 R (fun v R'=> ∃g,v= .func (.func 241) #[] #[.pointer (GG g)]∧R'=⟨52,1,GG g,1,1,[.slice A_s n_s c_s],false⟩::R):=by
 refine fn1 Tryz.func186 Z Z Z ?_
 refine wq<|wa (dZ (sz:=1) Z Z) ?_
 rintro _ _ ⟨g,rfl,rfl⟩
 refine wg Z<|aA<|wq<|wy (jQ Z Z)<|wg Z<|aA<|fC ?_
 exact⟨_,Z,g,Z,Z⟩
set_option maxHeartbeats 2000000 in
theorem JQ {w:World} {A_u:Option Addr} {n_u c_u:Nat} {u:List Int} (h_u:Rd w A_u n_u c_u 1 (ints .u8 u)) (bh_u:aP u) (hN:u.length≤100000):
  Ct Tryz.prog 110 #[.slice A_u n_u c_u] w.heap.size w [] (fun v R'=> ∃A c,v= .tuple #[.slice A (backL u (bT (fsL u))).length c,I 0]∧R'=[(ru 5 A ((backL u (bT (fsL u))).length) c (backL u (bT (fsL u))))]):=by
 obtain rfl:=h_u.lenI
 refine fnV Tryz.func110 Z Z ?_
 have m_u:=h_u.max
 have hfp:=UW bh_u
 have hfl:=nX u
 have hcl:=VM hfp
 have hcf:=PM (p:=fsL u)
 refine gI ?_
 refine aN<|wa (dZ (sz:=1) Z Z) ?_
 rintro _ _ ⟨g_1,rfl,rfl⟩
 refine wg Z<|wg Z<|aA ?_
 refine gI ?_
 refine wq<|wy (aK (rdR 0 (r:=⟨22,1,(GG g_1),1,1,[.slice A_u u.length c_u],false⟩) Z) underlying22 Z Z Z)<|wy (aV underlying22 Z)<|wy (Yl.f (kU Z Z) (by omega))<|aA<|aL Z<|aM ?_
 refine gI ?_
 refine aN<|wy (aK (rdR 0 (r:=⟨22,1,(GG g_1),1,1,[.slice A_u u.length c_u],false⟩) Z) underlying22 Z Z Z)<|wa (aC aDt Z (Ct.fresh (fun w hw=>YI ((h_u.c _) w hw) bh_u (by omega)))) ?_
 rintro _ _ ⟨_,rfl,A_3,c_4,rfl,rfl⟩
 refine wa (aC aDu Z (Ct.fresh (fun w hw=>PL ((rdr 0 Z) w hw) hfp (by omega)))) ?_
 rintro _ _ ⟨_,rfl,A_6,c_7,vals_8,Rs_9,rfl,hsl_10,rfl⟩
 have hn_hsl_10:=hsl_10.1
 refine eY (R1:=(⟨52,1,A_6,vals_8.length,c_7,vals_8,false⟩::(ri 3 A_3 ((fsL u).length) c_4 (fsL u))::⟨22,1,(GG g_1),1,1,[.slice A_u u.length c_u],false⟩::Rs_9)) (Sub.refl _) (fun _ h=>Hp.toTail0 (X:=[_]) (Y:=[_,_]) h)<|wm Z<|wX Z Z<|wX Z Z<|wg Z<|wg Z<|aA ?_
 refine gI ?_
 refine aN<|wa (bV .u8 [] underlying22 zs5 Z Z Z) ?_
 rintro _ _ ⟨g_13,rfl,rfl⟩
 refine wa (jJ (sz:=1) aFa Z) ?_
 rintro _ _ ⟨g_14,rfl,rfl⟩
 refine dK (bQ 0 Z Z Z jC Z Z Z Z (Nat.le_of_ble_eq_true Z)) ?_
 rintro _ _ rfl
 refine aA ?_
 refine QN ?_
 refine gI ?_
 refine aN<|wm Z<|wa (aC aDs Z (FJ)) ?_
 rintro _ _ ⟨g_15,rfl,rfl⟩
 refine aA ?_
 refine yU ?_
 refine NG Z aDo (WA (A:=A_6) (c:=c_7) (xs:=vals_8) (by have:=hsl_10.1;omega)) Z (fun _=>Z) Gd.refl (fun(kr:Nat) (A1:Option Addr) (n1:Nat) (c1:Nat) (acc:List Int)=>(⟨232,1,(GG g_15),1,1,[.slice A_6 vals_8.length c_7],false⟩::⟨22,1,(GG g_14),1,1,[.slice A1 n1 c1],false⟩::(ru 5 A1 n1 c1 acc)::⟨52,1,A_6,vals_8.length,c_7,vals_8,false⟩::(ri 3 A_3 ((fsL u).length) c_4 (fsL u))::⟨22,1,(GG g_1),1,1,[.slice A_u u.length c_u],false⟩::Rs_9)) (fun(kr:Nat) (A1:Option Addr) (n1:Nat) (c1:Nat) (acc:List Int)=>(n1=acc.length)∧(acc=(((bT (fsL u)).reverse.take kr).map (fQ u)).flatten)) ?_ ?_ ?_ ?_
 ·exact⟨GG g_13,0,0,[],⟨(Z),(Z)⟩,fun _ h=>h⟩
 ·intro kr A1 n1 c1 acc w ⟨hn1,hacc⟩ hw
  exact⟨(rdR 0 (r:=⟨232,1,(GG g_15),1,1,[.slice A_6 vals_8.length c_7],false⟩) Z) w hw,(rdr 3 Z) w hw⟩
 ·intro lr kr A1 n1 c1 acc WW1 hkr ⟨hn1,hacc⟩ hbW1
  have hal:acc.length≤u.length:=by rw[hacc];exact Nat.le_trans DW (by omega)
  obtain⟨A_17,c_18,hv_19,hr_20⟩:=hsl_10.at (i:=((vals_8.length-1-kr:Nat):Int)) (by omega) (by have:=hsl_10.1;omega)
  have he_21:vals_8[vals_8.length-1-kr]?.getD undef= .slice A_17 (rdl (bT (fsL u)) ((vals_8.length-1-kr:Nat):Int)).length c_18:=by
   rw[Int.toNat_natCast] at hv_19
   rw[hv_19];rfl
  refine aFf (d:=24) (v:= .slice A_17 (rdl (bT (fsL u)) ((vals_8.length-1-kr:Nat):Int)).length c_18) (congrArg some he_21) ?_
  have hcm:rdl (bT (fsL u)) ((vals_8.length-1-kr:Nat):Int)∈bT (fsL u):=YT (by omega) (by have:=hsl_10.1;omega)
  have hcl2:(rdl (bT (fsL u)) ((vals_8.length-1-kr:Nat):Int)).length≤u.length:=by have:=List.Sublist.length_le (List.sublist_flatten_of_mem hcm);omega
  refine aN<|wg Z<|aA ?_
  intro WW13 hbW13 hlW13
  refine aI<|wq<|wm Z<|wa (aC aAl Z (FK)) ?_
  rintro _ _ ⟨g_22,rfl,rfl⟩
  refine aA<|aI ?_
  refine QK Z aAh (wG (A:=A_17) (c:=c_18) (zs:=rdl (bT (fsL u)) ((vals_8.length-1-kr:Nat):Int)) (by omega)) Z (fun _=>Z) ⟨_,hlW13.choose_spec⟩ (fun(kq:Nat) (A2:Option Addr) (n2:Nat) (c2:Nat) (acc2:List Int)=>(⟨52,1,(GG g_22),1,1,[.slice A_17 ((rdl (bT (fsL u)) ((vals_8.length-1-kr:Nat):Int)).length) c_18],false⟩::⟨232,1,(GG g_15),1,1,[.slice A_6 vals_8.length c_7],false⟩::⟨22,1,(GG g_14),1,1,[.slice A2 n2 c2],false⟩::(ru 5 A2 n2 c2 acc2)::⟨52,1,A_6,vals_8.length,c_7,vals_8,false⟩::(ri 3 A_3 ((fsL u).length) c_4 (fsL u))::⟨22,1,(GG g_1),1,1,[.slice A_u u.length c_u],false⟩::Rs_9)) (fun(kq:Nat) (A2:Option Addr) (n2:Nat) (c2:Nat) (acc2:List Int)=>(n2=acc2.length)∧(acc2=acc++((rdl (bT (fsL u)) ((vals_8.length-1-kr:Nat):Int)).reverse.take kq).map (rd u))) ?_ ?_ ?_ ?_
  ·exact⟨A1,n1,c1,acc,⟨(hn1),(by rw[List.take_zero];simp)⟩,fun _ h=>h⟩
  ·intro kq A2 n2 c2 acc2 w ⟨hn2,hacc2⟩ hw
   exact⟨(rdR 0 (r:=⟨52,1,(GG g_22),1,1,[.slice A_17 ((rdl (bT (fsL u)) ((vals_8.length-1-kr:Nat):Int)).length) c_18],false⟩) Z) w hw,(fun _ h=>hr_20 _ _ _ (h.right (R':=[_,_,_,_,_,_,_]))) w hw⟩
  ·intro lr kq A2 n2 c2 acc2 WW2 hkq ⟨hn2,hacc2⟩ hbW2
   have hel:=MJ hfp _ hcm _ (bA (L:=rdl (bT (fsL u)) ((vals_8.length-1-kr:Nat):Int)) (k:=(((rdl (bT (fsL u)) ((vals_8.length-1-kr:Nat):Int)).length-1-kq:Nat):Int)) (by omega) (by omega))
   have hal2:acc2.length≤acc.length+(rdl (bT (fsL u)) ((vals_8.length-1-kr:Nat):Int)).length:=by rw[hacc2,List.length_append,List.length_map,List.length_take,List.length_reverse];omega
   refine aN<|wg Z<|aA ?_
   intro WW23 hbW23 hlW23
   refine aI<|dQ mixed<|wD 0 Z (aK (rdR 2 (r:=⟨22,1,(GG g_14),1,1,[.slice A2 n2 c2],false⟩) Z) underlying22 Z Z Z)<|wD 1 Z (aK (rdR 6 (r:=⟨22,1,(GG g_1),1,1,[.slice A_u u.length c_u],false⟩) Z) underlying22 Z Z Z)<|wD 2 Z (aJ Z)<|wD 3 Z (aB underlying22 sz5 Z Z (h_u.cb (hbW13.trans hbW23) _) (by omega) (by omega))<|wD 4 Z (aZ underlying5 Z Z (h_u.cb (hbW13.trans hbW23) _) (by omega) (by omega))<|kF 5 Z (by kernel_rfl) Z (bV .u8 [rd u (rd (rdl (bT (fsL u)) ((vals_8.length-1-kr:Nat):Int)) (((rdl (bT (fsL u)) ((vals_8.length-1-kr:Nat):Int)).length-1-kq:Nat):Int))] underlying22 zs5 Z Z Z) ?_
   rintro _ _ ⟨g_25,rfl,rfl⟩
   refine⟨.inr fun _ h=>h.right (R':=[_]),?_⟩
   refine kF 6 Z (by kernel_rfl) Z (bX 4 Z underlying22 zb5 Z Z Z (rdr 0 Z) (by omega)) ?_
   rintro _ _ ⟨A_26,c_27,rfl,rfl⟩
   refine⟨.inl (by kernel_rfl),?_⟩
   refine QJ (v:= .slice A_26 (n2+1) c_27) Z<|sV 7 Z (by kernel_rfl) (bQ 3 Z Z Z jC Z Z Z Z (Nat.le_of_ble_eq_true Z)) ?_
   rintro _ _ rfl
   refine⟨.inl (by kernel_rfl),?_⟩
   refine dD (by kernel_rfl) ?_
   exact⟨A_26,n2+1,c_27,acc2++([rd u (rd (rdl (bT (fsL u)) ((vals_8.length-1-kr:Nat):Int)) (((rdl (bT (fsL u)) ((vals_8.length-1-kr:Nat):Int)).length-1-kq:Nat):Int))]),⟨(by rw[List.length_append,hn2];rfl),(FW hkq hacc2)⟩,fun _=>fun _ h=>h.selR (F:=[_,_,_,_,_,_,_,_]) (F':=[_,_,_,_,_,_,_]) [1,2,3,4,5,6,7] (by decide) Z⟩
  intro A2 n2 c2 acc2 ⟨hn2,hacc2⟩
  exact⟨A2,n2,c2,acc2,⟨(hn2),(JR hsl_10.1 hkr hacc hacc2)⟩,fun _=>fun _ h=>h.selR (F:=[_,_,_,_,_,_,_]) (F':=[_,_,_,_,_,_]) [1,2,3,4,5,6] (by decide) Z⟩
 intro WW15 DW1 A1 n1 c1 acc ⟨hn1,hacc⟩ hbW15 hGW15
 have hvl:=hsl_10.1
 refine QR ?_
 refine aAq ?_
 refine v_w ?_
 refine wq<|wy (aK (rdR 1 (r:=⟨22,1,(GG g_14),1,1,[.slice A1 n1 c1],false⟩) Z) underlying22 Z Z Z)<|wg Z<|wg Z<|aA<|iI (R1:=[(ru 5 A1 n1 c1 acc)]) (fun _ h=>(h.selR (F:=[_,_,_,_,_,_]) (F':=[_]) [2] (by decide) Z).left (X:=[_])) ?_
 refine aBp Z hGW15 ⟨_,_,Z,Z,?_⟩
 rw[List.take_of_length_le (by rw[List.length_reverse];omega)] at hacc
 obtain rfl:acc=backL u (bT (fsL u)):=hacc
 obtain rfl:=hn1
 exact⟨_,_,Z,Z⟩
open Tryz
set_option linter.unusedVariables false
set_option maxRecDepth 100000
set_option maxHeartbeats 800000 in
theorem aBz {w:World} {A_u:Option Addr} {n_u c_u:Nat} {u:List Int} {A_a:Option Addr} {n_a c_a:Nat} {a:List Int} (h_u:Rd w A_u n_u c_u 1 (ints .u8 u)) (h_a:Rd w A_a n_a c_a 1 (ints .i64 a)) (hp:a.Perm (iota u.length)) (hN:u.length≤1000000):
  Ct Tryz.prog 124 #[.slice A_u n_u c_u, .slice A_a n_a c_a] w.heap.size w [] (fun v R'=> ∃A c,v= .tuple #[.slice A (ofL u a).length c,I (zat a), .bool true]∧R'=[(ru 5 A ((ofL u a).length) c (ofL u a))]):=by
 obtain rfl:=h_u.lenI
 obtain rfl:=h_a.lenI
 refine fn3 Tryz.func124 Z Z Z ?_
 have m_u:=h_u.max
 have m_a:=h_a.max
 have hal0:a.length=u.length:=by rw[hp.length_eq,aW]
 have hnd:a.Nodup:=hp.symm.nodup (cO _)
 have hpa:a.Perm (iota a.length):=by rw[hal0];exact hp
 refine wq<|wg Z<|wg Z<|wg Z<|aA<|aF<|wq<|wm Z<|wy (aV underlying52 Z)<|wm Z<|wy (aV underlying22 Z)<|wy (Yl.f (qW Z Z) (by omega))<|wm Z ?_
 refine aD Z Z<|wm Z<|aD Z Z<|wa (aC aAj Z (Ct.quiet (fun w hw=>RY ((h_a.c _) w hw) hpa (by omega)))) ?_
 rintro _ _ ⟨rfl,rfl⟩
 refine aD Z Z<|wy (mE Z)<|wy (bG Z Z)<|aA<|aL Z<|aM<|wq<|wa (bV .u8 [] underlying22 zs5 Z Z Z) ?_
 rintro _ _ ⟨g_2,rfl,rfl⟩
 refine wg Z<|aA<|aF<|wq<|wm Z<|wy (aV underlying22 Z)<|wy (kU Z Z)<|aA<|bR Z (fun hc1=> ?_) (fun hc1=> ?_)
 ·refine aN<|wm Z<|wm Z<|wm Z<|wy (aV underlying22 Z)<|wS Z Z<|wy (aB underlying22 sz5 Z Z (h_u.c _) (by omega) (by omega))<|wy (aZ underlying5 Z Z (h_u.c _) (by omega) (by omega))<|wa (bV .u8 [rd u (((u.length:Nat):Int)-1)] underlying22 zs5 Z Z Z) ?_
  rintro _ _ ⟨g_5,rfl,rfl⟩
  refine wa (bX 1 Z underlying22 zb5 Z Z Z (rdr 0 Z) (by omega)) ?_
  rintro _ _ ⟨A_6,c_7,rfl,rfl⟩
  refine bY (v:= .slice A_6 (0+1) c_7) Z<|wg Z<|aA<|aF<|wq<|wm Z<|wy (aV underlying52 Z)<|wm Z<|aA<|aI ?_
  refine tQ (fun(i:Int) (A1:Option Addr) (n1:Nat) (c1:Nat) (acc:List Int) (m:Int)=>[(0, .slice A_u u.length c_u),(4, .slice A1 n1 c1),(5,I m),(32, .slice A_a a.length c_a),(33,I ((a.length:Nat):Int)),(34,I i)]) (fun(i:Int) (A1:Option Addr) (n1:Nat) (c1:Nat) (acc:List Int) (m:Int)=>[(ru 5 (GG g_5) 1 1 ([rd u (((u.length:Nat):Int)-1)])),(ru 5 A1 n1 c1 acc)]) (fun(i:Int) (A1:Option Addr) (n1:Nat) (c1:Nat) (acc:List Int) (m:Int)=>(0≤i)∧(i≤a.length)∧(n1=acc.length)∧(acc=(if 0<u.length then [rd u (u.length-1)] else [])++ofT u (a.take i.toNat))∧(m=zat (a.take i.toNat))) (fun(i:Int) (A1:Option Addr) (n1:Nat) (c1:Nat) (acc:List Int) (m:Int)=>(a.length-i).toNat) ?_ ?_
  ·exact⟨0,A_6,0+1,c_7,([])++([rd u (((u.length:Nat):Int)-1)]),0,⟨(by omega),(by omega),(by first|rfl|simp),(by first|(rw[if_pos (by omega)];rfl)|(rw[if_neg (by omega)];rfl)),(Z)⟩,(G6 Z Z Z Z Z Z),fun _ h=>h⟩
  intro i A1 n1 c1 acc m ⟨hi0,hi1,hn1,hacc,hm⟩
  have hal:acc.length≤i.toNat+1:=by
   have h1:=LH u (a.take i.toNat)
   rw[List.length_take] at h1
   rw[hacc,List.length_append]
   split<;>simp only[List.length_cons,List.length_nil]<;>omega
  have hai:i<a.length→0≤rd a i∧rd a i<u.length:=fun h=>aO.1 (hp.subset (bA hi0 h))
  refine wq<|wL Z Z<|aA<|aF<|bR Z (fun hc2=> ?_) (fun hc2=> ?_)
  ·have hai2:=hai (by omega)
   refine aM<|aF<|aI<|wq<|wm Z<|wy (aB underlying52 sz3 Z Z (h_a.c _) (by omega) (by omega))<|wy (aZ underlying3 Z Z (h_a.c _) (by omega) (by omega))<|wg Z<|wg Z<|aA<|aF<|wq<|wm Z ?_
   refine wy (bC Z Z)<|aA<|bR Z (fun hc3=> ?_) (fun hc3=> ?_)
   ·refine wq<|wm Z<|wA Z Z<|wg Z<|aA<|bF<|aN<|wA Z Z<|wm Z<|aA ?_
    exact⟨i+1,A1,n1,c1,acc,i+1,⟨(by omega),(by omega),(hn1),(LG hi0 (by omega) hacc (by assumption)),(JX hnd hi0 (by omega) (by assumption))⟩,(by omega),(G6 Z Z Z Z Z Z),fun _ h=>h⟩
   ·refine aM<|aN<|wm Z<|wm Z<|wm Z<|wS Z Z<|wy (aB underlying22 sz5 Z Z (h_u.c _) (by omega) (by omega))<|wy (aZ underlying5 Z Z (h_u.c _) (by omega) (by omega))<|wa (bV .u8 [rd u ((rd a i)-1)] underlying22 zs5 Z Z Z) ?_
    rintro _ _ ⟨g_9,rfl,rfl⟩
    refine wa (bX 2 Z underlying22 zb5 Z Z Z (rdr 0 Z) (by omega)) ?_
    rintro _ _ ⟨A_10,c_11,rfl,rfl⟩
    refine bY (v:= .slice A_10 (n1+1) c_11) Z<|wg Z<|aA<|aN<|wA Z Z<|wm Z<|aA ?_
    exact⟨i+1,A_10,n1+1,c_11,acc++([rd u ((rd a i)-1)]),m,⟨(by omega),(by omega),(by rw[List.length_append,hn1];rfl),(TM hi0 (by omega) hacc (by assumption)),(QF hnd hi0 (by omega) hm (by assumption))⟩,(by omega),(G6 Z Z Z Z Z Z),fun _ h=>h.sel [1,2] (by decide) Z⟩
  ·refine bF<|wq<|wm Z<|wm Z<|wg Z<|wg Z<|wg Z<|aA<|aY [1] 99 (by decide) Z ?_
   refine⟨_,_,_,Z,Z,Z,?_⟩
   have hte:a.take i.toNat=a:=List.take_of_length_le (by omega)
   rw[hte] at hacc hm
   obtain rfl:acc=ofL u a:=hacc
   obtain rfl:=hn1
   subst hm
   exact⟨_,_,Z,Z⟩
 ·refine aM<|aF<|wq<|wm Z<|wy (aV underlying52 Z)<|wm Z<|aA<|aI ?_
  refine tQ (fun(i:Int) (A1:Option Addr) (n1:Nat) (c1:Nat) (acc:List Int) (m:Int)=>[(0, .slice A_u u.length c_u),(4, .slice A1 n1 c1),(5,I m),(32, .slice A_a a.length c_a),(33,I ((a.length:Nat):Int)),(34,I i)]) (fun(i:Int) (A1:Option Addr) (n1:Nat) (c1:Nat) (acc:List Int) (m:Int)=>[(ru 5 A1 n1 c1 acc)]) (fun(i:Int) (A1:Option Addr) (n1:Nat) (c1:Nat) (acc:List Int) (m:Int)=>(0≤i)∧(i≤a.length)∧(n1=acc.length)∧(acc=(if 0<u.length then [rd u (u.length-1)] else [])++ofT u (a.take i.toNat))∧(m=zat (a.take i.toNat))) (fun(i:Int) (A1:Option Addr) (n1:Nat) (c1:Nat) (acc:List Int) (m:Int)=>(a.length-i).toNat) ?_ ?_
  ·exact⟨0,GG g_2,0,0,[],0,⟨(by omega),(by omega),(by first|rfl|simp),(by first|(rw[if_pos (by omega)];rfl)|(rw[if_neg (by omega)];rfl)),(Z)⟩,(G6 Z Z Z Z Z Z),fun _ h=>h⟩
  intro i A1 n1 c1 acc m ⟨hi0,hi1,hn1,hacc,hm⟩
  have hal:acc.length≤i.toNat+1:=by
   have h1:=LH u (a.take i.toNat)
   rw[List.length_take] at h1
   rw[hacc,List.length_append]
   split<;>simp only[List.length_cons,List.length_nil]<;>omega
  have hai:i<a.length→0≤rd a i∧rd a i<u.length:=fun h=>aO.1 (hp.subset (bA hi0 h))
  refine wq<|wL Z Z<|aA<|aF<|bR Z (fun hc4=> ?_) (fun hc4=> ?_)
  ·have hai2:=hai (by omega)
   refine aM<|aF<|aI<|wq<|wm Z<|wy (aB underlying52 sz3 Z Z (h_a.c _) (by omega) (by omega))<|wy (aZ underlying3 Z Z (h_a.c _) (by omega) (by omega))<|wg Z<|wg Z<|aA<|aF<|wq<|wm Z ?_
   refine wy (bC Z Z)<|aA<|bR Z (fun hc5=> ?_) (fun hc5=> ?_)
   ·refine wq<|wm Z<|wA Z Z<|wg Z<|aA<|bF<|aN<|wA Z Z<|wm Z<|aA ?_
    exact⟨i+1,A1,n1,c1,acc,i+1,⟨(by omega),(by omega),(hn1),(LG hi0 (by omega) hacc (by assumption)),(JX hnd hi0 (by omega) (by assumption))⟩,(by omega),(G6 Z Z Z Z Z Z),fun _ h=>h⟩
   ·refine aM<|aN<|wm Z<|wm Z<|wm Z<|wS Z Z<|wy (aB underlying22 sz5 Z Z (h_u.c _) (by omega) (by omega))<|wy (aZ underlying5 Z Z (h_u.c _) (by omega) (by omega))<|wa (bV .u8 [rd u ((rd a i)-1)] underlying22 zs5 Z Z Z) ?_
    rintro _ _ ⟨g_13,rfl,rfl⟩
    refine wa (bX 1 Z underlying22 zb5 Z Z Z (rdr 0 Z) (by omega)) ?_
    rintro _ _ ⟨A_14,c_15,rfl,rfl⟩
    refine bY (v:= .slice A_14 (n1+1) c_15) Z<|wg Z<|aA<|aN<|wA Z Z<|wm Z<|aA ?_
    exact⟨i+1,A_14,n1+1,c_15,acc++([rd u ((rd a i)-1)]),m,⟨(by omega),(by omega),(by rw[List.length_append,hn1];rfl),(TM hi0 (by omega) hacc (by assumption)),(QF hnd hi0 (by omega) hm (by assumption))⟩,(by omega),(G6 Z Z Z Z Z Z),fun _ h=>h.sel [1] (by decide) Z⟩
  ·refine bF<|wq<|wm Z<|wm Z<|wg Z<|wg Z<|wg Z<|aA<|aY [0] 99 (by decide) Z ?_
   refine⟨_,_,_,Z,Z,Z,?_⟩
   have hte:a.take i.toNat=a:=List.take_of_length_le (by omega)
   rw[hte] at hacc hm
   obtain rfl:acc=ofL u a:=hacc
   obtain rfl:=hn1
   subst hm
   exact⟨_,_,Z,Z⟩
theorem VV {w:World} {A_u:Option Addr} {n_u c_u:Nat} {u:List Int} (h_u:Rd w A_u n_u c_u 1 (ints .u8 u)) (bh_u:aP u) (hN:u.length≤100000):
  Ct Tryz.prog 103 #[.slice A_u n_u c_u] w.heap.size w [] (fun v R'=> ∃(b:List Int) (A:Option Addr) (c:Nat),v= .tuple #[.slice A (ofL u b).length c,I (zat b),I 0]∧b.Perm (iota u.length)∧b.Pairwise (bI u)∧R'=[(ru 5 A ((ofL u b).length) c (ofL u b))]):=by
 obtain rfl:=h_u.lenI
 refine fn3 Tryz.func103 Z Z Z ?_
 have m_u:=h_u.max
 refine wq<|wg Z<|wg Z<|wg Z<|aA<|wq<|wm Z<|wa (aC aDz Z (Ct.fresh (fun w hw=>NU ((h_u.c _) w hw) bh_u hN))) ?_
 rintro _ _ ⟨_,rfl,a1,A_1,c_2,rfl,hp_a1,hs_a1,rfl⟩
 refine wm Z<|wX Z Z<|wX Z Z<|wg Z<|wg Z<|aA<|aF<|wq<|wm Z<|wy (Yl.f (qW Z Z) (by omega))<|aA<|aL Z<|aM<|aF ?_
 refine aN<|wm Z<|wm Z<|wa (aC aEa Z (Ct.fresh (fun w hw=>aBz ((h_u.c _) w hw) ((rdr 0 Z) w hw) hp_a1 (by omega)))) ?_
 rintro _ _ ⟨_,rfl,A_4,c_5,rfl,rfl⟩
 refine wm Z<|wX Z Z<|wX Z Z<|wX Z Z<|wg Z<|wg Z<|aA<|wq<|wm Z<|wm Z<|wg Z<|wg Z<|wg Z<|aA ?_
 refine aY [0] 99 (by decide) Z ?_
 refine⟨_,_,_,Z,Z,Z,?_⟩
 exact⟨a1,_,_,Z,hp_a1,hs_a1,Z⟩
set_option maxHeartbeats 800000 in
theorem OZ {w:World} {A_u:Option Addr} {n_u c_u:Nat} {u:List Int} (h_u:Rd w A_u n_u c_u 1 (ints .u8 u)) (bh_u:aP u) (hN:u.length≤1000000):
  Ct Tryz.prog 182 #[.slice A_u n_u c_u] w.heap.size w [] (fun v R'=> ∃A c,v= .slice A (fsL u).length c∧R'=[(ri 3 A ((fsL u).length) c (fsL u))]):=by
 obtain rfl:=h_u.lenI
 refine fn1 Tryz.func182 Z Z Z ?_
 have m_u:=h_u.max
 refine wq<|wg Z<|aA<|wq<|wm Z<|wy (aV underlying22 Z)<|wa (dY underlying52 zb3 Z Z (by omega) (by omega) (by omega)) ?_
 rintro _ _ ⟨g_1,rfl,rfl⟩
 refine bY (v:= .slice (GG g_1) u.length u.length) Z<|wg Z<|aA<|wq<|wm Z<|wy (aV underlying22 Z)<|wa (dY underlying52 zb3 Z Z (by omega) (by omega) (by omega)) ?_
 rintro _ _ ⟨g_2,rfl,rfl⟩
 refine bY (v:= .slice (GG g_2) u.length u.length) Z<|wg Z<|aA<|aF<|wq<|wm Z<|wy (aV underlying22 Z)<|wm Z<|aA<|aI ?_
 refine gV (fun(i:Int) (V:List Int) (K:List Int)=>[(3, .slice (GG g_1) u.length u.length),(4, .slice (GG g_2) u.length u.length),(15, .slice A_u u.length c_u),(16,I ((u.length:Nat):Int)),(17,I i)]) (fun(i:Int) (V:List Int) (K:List Int)=>[(ri 3 (GG g_2) u.length u.length K),(ri 3 (GG g_1) u.length u.length V)]) (fun(i:Int) (V:List Int) (K:List Int)=>(0≤i)∧(i≤u.length)∧(V.length=u.length)∧(K.length=u.length)∧(∀j:Int,0≤j→j<i→rd V j=j)∧(∀j:Int,0≤j→j<i→rd K j=rd u j)) (fun(i:Int) (V:List Int) (K:List Int)=>(u.length-i).toNat) ?_ ?_
 ·exact⟨0,List.replicate u.length (0:Int),List.replicate u.length (0:Int),⟨(by omega),(by omega),(by rw[List.length_replicate]),(by rw[List.length_replicate]),(fun j h1 h2=>by omega),(fun j h1 h2=>by omega)⟩,(G5 rfl rfl rfl rfl rfl),fun _ h=>h⟩
 intro i V K ⟨hi0,hi1,hVl,hKl,hV,hK⟩
 refine wq<|wL Z Z<|aA<|aF<|bR Z (fun hc1=> ?_) (fun hc1=> ?_)
 ·have hbi:=bh_u.rd i
  refine aM<|aF<|aI<|wq<|wm Z<|wy (aB underlying22 sz5 Z Z (h_u.c _) (by omega) (by omega))<|wy (aZ underlying5 Z Z (h_u.c _) (by omega) (by omega))<|wg Z<|wg Z<|aA<|aN<|wm Z<|wm Z<|wm Z ?_
  refine wm Z<|wm Z<|wm Z<|wy (nO underlying5 underlying3 Z (by omega))<|wy (aB underlying52 sz3 Z Z (rdr 1 Z) (by omega) (by omega))<|dK (bD 1 Z sz3 Z Z (by omega) (by omega)) ?_
  rintro _ _ rfl
  refine wy (aB underlying52 sz3 Z Z (rdr 0 Z) (by omega) (by omega))<|dK (bD 0 Z sz3 Z Z (by omega) (by omega)) ?_
  rintro _ _ rfl
  refine aA<|aN<|wA Z Z<|wm Z<|aA ?_
  exact⟨i+1,upd V i i,upd K i (rd u i),⟨(by omega),(by omega),(by rw[aQ];exact hVl),(by rw[aQ];exact hKl),(gQ (f:=fun j=>j) hi0 (by omega) hV Z),(gQ (f:=fun j=>rd u j) hi0 (by omega) hK Z)⟩,(by omega),(G5 Z Z Z Z Z),fun _ h=>h⟩
 ·obtain rfl:V=iota u.length:=bB (by rw[aW];omega) fun j h0 h1=>by rw[nU h0 (by omega)];exact hV j h0 (by omega)
  obtain rfl:u=K:=(bB (by omega) fun j h0 h1=>hK j h0 (by omega):K=u).symm
  refine bF<|wq<|wm Z<|wm Z<|wa (aC aAi Z (Ct.fresh (fun w hw=>KZ ((rdr 1 Z) w hw) ((rdr 0 Z) w hw) (by omega) bh_u (fun i hi=>aO.1 hi) (by rw[aW];omega)))) ?_
  rintro _ _ ⟨_,rfl,A_3,c_4,rfl,rfl⟩
  refine wm Z<|wX Z Z<|wX Z Z<|wg Z<|aA<|wq<|wm Z<|wa (aC VD Z (Ct.fresh (fun w hw=>zB ((rdr 0 Z) w hw) (KW bh_u) (by rw[rD bh_u];omega)))) ?_
  rintro _ _ ⟨_,rfl,A_5,c_6,inv,rfl,hl_inv,hq_inv,rfl⟩
  refine wm Z<|wX Z Z<|wX Z Z<|wg Z<|wg Z<|aA<|wq<|wm Z<|wg Z<|aA<|aY [0] 99 (by decide) Z ?_
  refine⟨_,Z,?_⟩
  obtain rfl:inv=fsL u:=ZX bh_u hl_inv hq_inv
  have el:(bN (iota u.length) u (256:Int).toNat).length=(fsL u).length:=by rw[rD bh_u,nX]
  rw[el]
  exact⟨_,_,Z,Z⟩
theorem MR {u S:List Int} {m k:Int} (k0:0≤k) (hk:k<u.length) (hl:S.length=u.length) (h: ∀j:Int,k<j→j<u.length→rd S j=rd (jA u m) j) {x:Int} (hx:x=rd u (ixr m (eX u m (u.length-1-k).toNat))): ∀j:Int,k-1<j→j<u.length→rd (upd S k x) j=rd (jA u m) j:=by
 intro j h1 h2
 rw[dR k0 (by omega) (by omega)]
 split
 ·rename_i e;rw[e,BX k0 hk,hx]
 ·exact h j (by omega) h2
theorem MS {u:List Int} {m k r i:Int} (k0:0≤k) (hk:k<u.length) (hr:r=eX u m (u.length-1-k).toNat) (hi:i=ixr m r):lfC u i+1=eX u m (u.length-1-(k-1)).toNat:=by
 rw[show((u.length:Int)-1-(k-1)).toNat=(u.length-1-k).toNat+1 by omega,eX,hi,hr]
theorem ZB {u S:List Int} {m:Int} (hl:S.length=u.length) (h: ∀j:Int,-1<j→j<u.length→rd S j=rd (jA u m) j):S=jA u m:=bB (by rw[hl,nZ]) fun j h0 h1=>h j (by omega) (by omega)
theorem LC {u:List Int} {m k r:Int} (k0:0≤k) (hk:k<u.length) (h: ∀t:Nat,(t:Int)<u.length-1-k→eX u m t≠m) (hr:r=eX u m (u.length-1-k).toNat) (hne:r≠m): ∀t:Nat,(t:Int)<u.length-1-(k-1)→eX u m t≠m:=by
 intro t ht
 rcases Int.lt_or_le t (u.length-1-k) with g|g
 ·exact h t g
 ·rw[show t=(u.length-1-k).toNat by omega,←hr];exact hne
set_option maxHeartbeats 1000000 in
theorem VY {w:World} {A_u:Option Addr} {n_u c_u:Nat} {u:List Int} {m:Int} (h_u:Rd w A_u n_u c_u 1 (ints .u8 u)) (bh_u:aP u) (hok:ZJ u m) (hN:u.length≤100000):
  Ct Tryz.prog 109 #[.slice A_u n_u c_u,I m] w.heap.size w [] (fun v R'=> ∃A c,v= .tuple #[.slice A u.length c,I 0]∧R'=[(ru 5 A u.length c (jA u m))]):=by
 obtain rfl:=h_u.lenI
 refine fn2 Tryz.func109 Z Z Z ?_
 have m_u:=h_u.max
 have hfl:=nX u
 have hpre:=hok.1
 have hp1:=hok.1.1
 have hp2:=hok.1.2
 have hon0:=hok.2.1
 refine wq<|wg Z<|wg Z<|aA<|wq<|wm Z<|wy (aV underlying22 Z)<|wg Z<|aA<|aF<|wq<|wm Z ?_
 refine wy (Yl.f (kU Z Z) (by omega))<|wm Z<|aD Z Z<|wm Z<|aD Z Z<|wm Z<|aD Z Z<|wy (ZN Z Z)<|aD Z Z<|wy (Yl.f (sU Z Z) (by omega))<|wy (bG Z Z)<|wm Z<|aD Z Z<|wm Z<|aD Z Z ?_
 refine wm Z<|aD Z Z<|wy (Yl.f (kU Z Z) (by omega))<|wy (bG Z Z)<|aA<|aL Z<|aM<|wq<|wm Z<|wa (aC aDv Z (Ct.fresh (fun w hw=>OZ ((h_u.c _) w hw) bh_u (by omega)))) ?_
 rintro _ _ ⟨_,rfl,A_1,c_2,rfl,rfl⟩
 refine wg Z<|aA<|wq<|wm Z<|wa (dY underlying22 zb5 Z Z (by omega) (by omega) (by omega)) ?_
 rintro _ _ ⟨g_3,rfl,rfl⟩
 refine bY (v:= .slice (GG g_3) u.length u.length) Z<|wg Z<|aA<|wq<|wg Z<|aA<|aF<|wq<|wm Z<|wS Z Z<|wg Z<|aA<|aI ?_
 refine gV (fun(k:Int) (r:Int) (S:List Int)=>[(0, .slice A_u u.length c_u),(1,I m),(7, .slice A_1 ((fsL u).length) c_2),(8, .slice (GG g_3) u.length u.length),(9,I r),(10,I k)]) (fun(k:Int) (r:Int) (S:List Int)=>[(ru 5 (GG g_3) u.length u.length S),(ri 3 A_1 ((fsL u).length) c_2 (fsL u))]) (fun(k:Int) (r:Int) (S:List Int)=>(-1≤k)∧(k<u.length)∧(S.length=u.length)∧(r=eX u m (u.length-1-k).toNat)∧(∀t:Nat,(t:Int)<u.length-1-k→eX u m t≠m)∧(∀j:Int,k<j→j<u.length→rd S j=rd (jA u m) j)) (fun(k:Int) (r:Int) (S:List Int)=>(k+1).toNat) ?_ ?_
 ·exact⟨((u.length:Nat):Int)-1,0,List.replicate u.length (0:Int),⟨(by omega),(by omega),(by rw[List.length_replicate]),(by rw[show((u.length:Int)-1-(((u.length:Nat):Int)-1)).toNat=0 by omega];rfl),(fun t h=>by omega),(fun j h1 h2=>by omega)⟩,(G6 rfl rfl rfl rfl rfl rfl),fun _ h=>h⟩
 intro k r S ⟨hk0,hk1,hSl,hr,hon,hS⟩
 refine aF<|wq<|wm Z<|wy (yQ Z Z)<|aA<|bR Z (fun hc1=> ?_) (fun hc1=> ?_)
 ·have hk':0≤k:=by omega
  have hbd:=FE (l:=u) bh_u hpre (u.length-1-k).toNat (fun t ht=>hon t (by omega)) (by omega)
  rw[←hr] at hbd
  have hm0:0≤m:=by have:=hpre.1;omega
  have hm1:=hpre.2
  have hne:r≠m:=by rw[hr];exact hon0 _ (by omega)
  refine aM<|aF<|aI<|wq<|wm Z<|wg Z<|aA<|aF<|aI<|wq<|wm Z<|wm Z<|wy (Yl.f (bC Z Z) (hne)) ?_
  refine wg Z<|aA<|aL Z<|wq<|wm Z<|wm Z<|wy (kU Z Z)<|wg Z<|aA<|bR Z (fun hc2=> ?_) (fun hc2=> ?_)
  ·have hiv:r-1=ixr m r:=by unfold ixr;split<;>omega
   have hxx:rd u (r-1)=rd u (ixr m (eX u m (u.length-1-k).toNat)):=by rw[hiv,←hr]
   have hib:=zP (n:=u.length) hbd.1 hbd.2 hne hm0 hm1 (by omega)
   rw[←hiv] at hib
   have hfs:=IE (l:=u) hib.1 hib.2
   have hlf:=DC (l:=u) bh_u hib.1 hib.2
   have hnx:rd (fsL u) (r-1)+1=eX u m (u.length-1-(k-1)).toNat:=by rw[hfs];exact MS hk' hk1 hr hiv
   refine aN<|wm Z<|wS Z Z<|wg Z<|aA<|wq<|wm Z<|wm Z<|wm Z<|wm Z<|wy (aB underlying22 sz5 Z Z (h_u.c _) (by omega) (by omega))<|wy (aZ underlying5 Z Z (h_u.c _) (by omega) (by omega))<|wy (aB underlying22 sz5 Z Z (rdr 0 Z) (by omega) (by omega))<|dK (bD 0 Z sz5 Z Z (by omega) (by omega)) ?_
   rintro _ _ rfl
   refine aA<|aN<|wm Z<|wm Z<|wy (aB underlying52 sz3 Z Z (rdr 1 Z) (by omega) (by omega))<|wy (aZ underlying3 Z Z (rdr 1 Z) (by omega) (by omega))<|wA Z Z<|wg Z<|aA<|aN<|wm Z<|wS Z Z<|wg Z<|aA ?_
   exact⟨k-1,(rd (fsL u) (r-1))+1,upd S k (rd u (r-1)),⟨(by omega),(by omega),(by rw[aQ];exact hSl),(hnx),(LC hk' hk1 hon hr hne),(MR hk' hk1 hSl hS hxx)⟩,(by omega),(G6 Z Z Z Z Z Z),fun _ h=>h⟩
  ·have hiv:r=ixr m r:=by unfold ixr;split<;>omega
   have hxx:rd u (r)=rd u (ixr m (eX u m (u.length-1-k).toNat)):=by rw[hiv,←hr]
   have hib:=zP (n:=u.length) hbd.1 hbd.2 hne hm0 hm1 (by omega)
   rw[←hiv] at hib
   have hfs:=IE (l:=u) hib.1 hib.2
   have hlf:=DC (l:=u) bh_u hib.1 hib.2
   have hnx:rd (fsL u) (r)+1=eX u m (u.length-1-(k-1)).toNat:=by rw[hfs];exact MS hk' hk1 hr hiv
   refine aM<|wq<|wm Z<|wm Z<|wm Z<|wm Z<|wy (aB underlying22 sz5 Z Z (h_u.c _) (by omega) (by omega))<|wy (aZ underlying5 Z Z (h_u.c _) (by omega) (by omega))<|wy (aB underlying22 sz5 Z Z (rdr 0 Z) (by omega) (by omega))<|dK (bD 0 Z sz5 Z Z (by omega) (by omega)) ?_
   rintro _ _ rfl
   refine aA<|aN<|wm Z<|wm Z<|wy (aB underlying52 sz3 Z Z (rdr 1 Z) (by omega) (by omega))<|wy (aZ underlying3 Z Z (rdr 1 Z) (by omega) (by omega))<|wA Z Z<|wg Z<|aA<|aN<|wm Z<|wS Z Z<|wg Z<|aA ?_
   exact⟨k-1,(rd (fsL u) r)+1,upd S k (rd u r),⟨(by omega),(by omega),(by rw[aQ];exact hSl),(hnx),(LC hk' hk1 hon hr hne),(MR hk' hk1 hSl hS hxx)⟩,(by omega),(G6 Z Z Z Z Z Z),fun _ h=>h⟩
 ·refine bF<|aF<|wq<|wm Z<|wm Z<|wy (Yl.f (qW Z Z) (by
     have e:((u.length:Int)-1-k).toNat=u.length:=by omega
     rw[hr,e,hok.2.2]
     exact fun h=>h Z)) ?_
  refine aA<|aL Z<|aM<|wq<|wm Z<|wg Z<|wg Z<|aA<|aY [0] 99 (by decide) Z ?_
  refine⟨_,_,Z,Z,?_⟩
  obtain rfl:S=jA u m:=ZB hSl fun j h1 h2=>hS j (by omega) h2
  exact⟨_,_,Z,Z⟩
open Tryz
set_option linter.unusedVariables false
set_option maxRecDepth 100000
theorem BR {w:World}:
  Ct Tryz.prog 105 #[] w.heap.size w [] (fun v R'=> ∃A c,v= .slice A 256 c∧R'=[(ru 5 A 256 c bO)]):=by
 refine fn1 Tryz.func105 Z Z Z ?_
 refine wq<|wg Z<|aA<|wq<|wa (dY underlying22 zb5 Z Z (by omega) (by omega) (by omega)) ?_
 rintro _ _ ⟨g_1,rfl,rfl⟩
 refine bY (v:= .slice (GG g_1) ((256:Int).toNat) ((256:Int).toNat)) Z<|wg Z<|aA<|aF<|wq<|wm Z<|wy (aV underlying22 Z)<|wm Z<|aA<|aI ?_
 refine jB (fun(i:Int) (V:List Int)=>[(1, .slice (GG g_1) ((256:Int).toNat) ((256:Int).toNat)),(5,I (((256:Int).toNat:Nat):Int)),(6,I i)]) (fun(i:Int) (V:List Int)=>[(ru 5 (GG g_1) ((256:Int).toNat) ((256:Int).toNat) V)]) (fun(i:Int) (V:List Int)=>(0≤i)∧(i≤256)∧(V.length=256)∧(∀j:Int,0≤j→j<i→rd V j=j)) (fun(i:Int) (V:List Int)=>(256-i).toNat) ?_ ?_
 ·exact⟨0,List.replicate ((256:Int).toNat) (0:Int),⟨(by omega),(by omega),(Z),(fun j h1 h2=>by omega)⟩,(G3 rfl rfl rfl),fun _ h=>h⟩
 intro i V ⟨hi0,hi1,hVl,hV⟩
 refine wq<|wL Z Z<|aA<|aF<|bR Z (fun hc1=> ?_) (fun hc1=> ?_)
 ·refine aM<|aF<|aI<|wq<|wm Z<|wg Z<|aA<|aN<|wm Z<|wm Z<|wm Z<|wy (uD underlying3 underlying5 Z)<|wy (aB underlying22 sz5 Z Z (rdr 0 Z) (by omega) (by omega))<|dK (bD 0 Z sz5 Z Z (by omega) (by omega)) ?_
  rintro _ _ rfl
  refine aA<|aN<|wA Z Z<|wm Z<|aA ?_
  exact⟨i+1,upd V i (IntKind.u8.wrap i),⟨(by omega),(by omega),(by rw[aQ];exact hVl),(gQ (f:=fun j=>j) hi0 (by omega) hV (uE hi0 (by omega)))⟩,(by omega),(G3 Z Z Z),fun _ h=>h⟩
 ·refine bF<|wq<|wm Z<|wg Z<|aA<|aY [0] 99 (by decide) Z ?_
  refine⟨_,Z,?_⟩
  obtain rfl:V=bO:=YM hVl (fun j h1 h2=>hV j h1 (by omega))
  exact⟨_,_,Z,Z⟩
theorem CV {B:Nat} {w0:World} {R:List Row} {A:Option Addr} {m c:Nat} {l:List Int} {k:Int} (hm:m=l.length) (hk:0≤k∧k<l.length) (h2:1<l.length):
  Ct Tryz.prog 107 #[.slice A m c,I k] B w0 ((ru 5 A m c l)::R) (fun v R'=>v= .tuple #[]∧R'=(ru 5 A m c (mtf l k))::R):=by
 subst hm
 refine fn0 Tryz.func107 Z Z Z ?_
 refine wq<|wm Z<|wm Z<|wy (aB underlying22 sz5 Z Z (rdr 0 Z) (by omega) (by omega))<|wy (aZ underlying5 Z Z (rdr 0 Z) (by omega) (by omega))<|wg Z<|aA<|aF<|dQ mixed<|wD 0 Z (aJ Z)<|wD 1 Z (rW underlying22 sz5 Z Z (by omega) (by omega))<|wD 2 Z (aJ Z)<|wD 3 Z (aJ Z)<|wD 4 Z (kT underlying22 sz5 Z Z (rdr 0 Z) (by omega) (by omega)) ?_
 refine kF 5 Z (by kernel_rfl) Z (AQ (lo:=1) 0 Z underlying22 sz5 Z Z Z Z (by omega) (RdC.toI (h:=(k).toNat) (rdR 0 (r:=(ru 5 A l.length c l)) Z) (by first|omega|(dsimp only;omega)))) ?_
 rintro _ _ ⟨rfl,rfl⟩
 refine⟨.inl (by kernel_rfl),?_⟩
 refine dD (by kernel_rfl)<|aN<|wm Z<|wm Z<|wy (aB underlying22 sz5 Z Z (rdr 0 Z) (by omega) (by omega))<|dK (bD 0 Z sz5 Z Z (by omega) (by omega)) ?_
 rintro _ _ rfl
 refine aA ?_
 skip
 rw[aBg hk.1 hk.2]
 exact⟨Z,Z⟩
theorem zT {w:World} {A_u:Option Addr} {n_u c_u:Nat} {u:List Int} {c:Int} (h_u:Rd w A_u n_u c_u 1 (ints .u8 u)) (bh_u:aP u) (hc:0≤c∧c<256) (hm:c∈u):
  Ct Tryz.prog 106 #[.slice A_u n_u c_u, .int .u8 c] w.heap.size w [] (fun v R'=>v=I (idx u c)):=by
 obtain rfl:=h_u.lenI
 refine fn1 Tryz.func106 Z Z Z ?_
 have m_u:=h_u.max
 refine wq<|wg Z<|aA<|wq<|wm Z<|wm Z<|wa (FN Tryz.func180 (by kernel_rfl) (by kernel_rfl) (by kernel_rfl) (by kernel_rfl) Z Z (h_u.c _) bh_u hc hm) ?_
 rintro _ _ ⟨rfl,rfl⟩
 refine wg Z<|aA<|fC ?_
 refine⟨_,Z,?_⟩
 rfl
theorem OJ {w:World} {A_b:Option Addr} {n_b c_b:Nat} {b:List Int} (h_b:Rd w A_b n_b c_b 1 (ints .u8 b)) (bh_b:aP b) (hN:b.length≤1000000):
  Ct Tryz.prog 60 #[.slice A_b n_b c_b] w.heap.size w [] (fun v R'=> ∃A c,v= .slice A (b.length) c∧R'=[(ru 5 A b.length c (fT bO b))]):=by
 obtain rfl:=h_b.lenI
 refine fn1 Tryz.func60 Z Z Z ?_
 have m_b:=h_b.max
 refine wq<|wg Z<|aA<|wq<|wa (aC aAn Z (Ct.fresh (fun w hw=>BR))) ?_
 rintro _ _ ⟨_,rfl,A_1,c_2,rfl,rfl⟩
 refine wg Z<|aA<|wq<|wm Z<|wy (aV underlying22 Z)<|wa (dY underlying22 zb5 Z Z (by omega) (by omega) (by omega)) ?_
 rintro _ _ ⟨g_3,rfl,rfl⟩
 refine bY (v:= .slice (GG g_3) b.length b.length) Z<|wg Z<|aA<|aF<|wq<|wm Z<|wy (aV underlying22 Z)<|wm Z<|aA<|aI ?_
 refine gV (fun(i:Int) (V:List Int) (U:List Int)=>[(3, .slice A_1 256 c_2),(4, .slice (GG g_3) b.length b.length),(12, .slice A_b b.length c_b),(13,I ((b.length:Nat):Int)),(14,I i)]) (fun(i:Int) (V:List Int) (U:List Int)=>[(ru 5 (GG g_3) b.length b.length U),(ru 5 A_1 256 c_2 V)]) (fun(i:Int) (V:List Int) (U:List Int)=>(0≤i)∧(i≤b.length)∧(V=pJ bO (b.take i.toNat))∧(U.length=b.length)∧(∀j:Int,0≤j→j<i→rd U j=rd (fT bO b) j)) (fun(i:Int) (V:List Int) (U:List Int)=>(b.length-i).toNat) ?_ ?_
 ·exact⟨0,bO,List.replicate b.length (0:Int),⟨(by omega),(by omega),(Z),(by rw[List.length_replicate]),(fun j h1 h2=>by omega)⟩,(G5 rfl rfl rfl rfl rfl),fun _ h=>h⟩
 intro i V U ⟨hi0,hi1,hV,hUl,hU⟩
 have hvp:V.Perm bO:=by rw[hV];exact RS bh_b _
 have hvf:=xK hvp
 have hbi:=bh_b.rd i
 have hix:=hvf.2.2 _ hbi.1 hbi.2
 refine wq<|wL Z Z<|aA<|aF<|bR Z (fun hc1=> ?_) (fun hc1=> ?_)
 ·refine aM<|aF<|aI<|wq<|wm Z<|wy (aB underlying22 sz5 Z Z (h_b.c _) (by omega) (by omega))<|wy (aZ underlying5 Z Z (h_b.c _) (by omega) (by omega))<|wg Z<|wg Z<|aA<|wq<|wm Z<|wm Z ?_
  refine wa (aC aEg Z (Ct.quiet (fun w hw=>zT ((rdr 1 Z) w hw) hvf.2.1 hbi hix.1))) ?_
  rintro _ _ ⟨rfl,rfl⟩
  refine wg Z<|aA<|wq<|wm Z<|wm Z<|wm Z<|wy (uD underlying3 underlying5 Z)<|wy (aB underlying22 sz5 Z Z (rdr 0 Z) (by omega) (by omega))<|dK (bD 0 Z sz5 Z Z (by omega) (by omega)) ?_
  rintro _ _ rfl
  refine aA<|aN<|wm Z<|wm Z<|wa (aC aAm Z (Ct.at 1 Z (CV hvf.1.symm (by omega) (by omega)))) ?_
  rintro _ _ ⟨rfl,rfl⟩
  refine aA<|aN<|wA Z Z<|wm Z<|aA ?_
  exact⟨i+1,mtf V (idx V (rd b i)),upd U i (IntKind.u8.wrap (idx V (rd b i))),⟨(by omega),(by omega),(by rw[NY hi0 (by omega),←hV]),(by rw[aQ];exact hUl),(gQ (f:=fun j=>rd (fT bO b) j) hi0 (by omega) hU (by rw[SL hi0 (by omega),←hV];exact uE hix.2.1 hix.2.2))⟩,(by omega),(G5 Z Z Z Z Z),fun _ h=>h⟩
 ·refine bF<|wq<|wm Z<|wg Z<|aA<|aY [0] 99 (by decide) Z ?_
  refine⟨_,Z,?_⟩
  obtain rfl:U=fT bO b:=bB (by rw[hUl,kY]) (fun j h1 h2=>hU j h1 (by omega))
  exact⟨_,_,Z,Z⟩
theorem QB {w:World} {A_b:Option Addr} {n_b c_b:Nat} {b:List Int} (h_b:Rd w A_b n_b c_b 1 (ints .u8 b)) (bh_b:aP b) (hN:b.length≤1000000):
  Ct Tryz.prog 111 #[.slice A_b n_b c_b] w.heap.size w [] (fun v R'=> ∃A c,v= .slice A (b.length) c∧R'=[(ru 5 A b.length c (gL bO b))]):=by
 obtain rfl:=h_b.lenI
 refine fn1 Tryz.func111 Z Z Z ?_
 have m_b:=h_b.max
 refine wq<|wg Z<|aA<|wq<|wa (aC aAn Z (Ct.fresh (fun w hw=>BR))) ?_
 rintro _ _ ⟨_,rfl,A_1,c_2,rfl,rfl⟩
 refine wg Z<|aA<|wq<|wm Z<|wy (aV underlying22 Z)<|wa (dY underlying22 zb5 Z Z (by omega) (by omega) (by omega)) ?_
 rintro _ _ ⟨g_3,rfl,rfl⟩
 refine bY (v:= .slice (GG g_3) b.length b.length) Z<|wg Z<|aA<|aF<|wq<|wm Z<|wy (aV underlying22 Z)<|wm Z<|aA<|aI ?_
 refine gV (fun(i:Int) (V:List Int) (U:List Int)=>[(3, .slice A_1 256 c_2),(4, .slice (GG g_3) b.length b.length),(11, .slice A_b b.length c_b),(12,I ((b.length:Nat):Int)),(13,I i)]) (fun(i:Int) (V:List Int) (U:List Int)=>[(ru 5 (GG g_3) b.length b.length U),(ru 5 A_1 256 c_2 V)]) (fun(i:Int) (V:List Int) (U:List Int)=>(0≤i)∧(i≤b.length)∧(V=sW bO (b.take i.toNat))∧(U.length=b.length)∧(∀j:Int,0≤j→j<i→rd U j=rd (gL bO b) j)) (fun(i:Int) (V:List Int) (U:List Int)=>(b.length-i).toNat) ?_ ?_
 ·exact⟨0,bO,List.replicate b.length (0:Int),⟨(by omega),(by omega),(Z),(by rw[List.length_replicate]),(fun j h1 h2=>by omega)⟩,(G5 rfl rfl rfl rfl rfl),fun _ h=>h⟩
 intro i V U ⟨hi0,hi1,hV,hUl,hU⟩
 have hvp:V.Perm bO:=by rw[hV];exact RQ bh_b _
 have hvf:=xK hvp
 have hbi:=bh_b.rd i
 have hix:=hvf.2.2 _ hbi.1 hbi.2
 refine wq<|wL Z Z<|aA<|aF<|bR Z (fun hc1=> ?_) (fun hc1=> ?_)
 ·refine aM<|aF<|aI<|wq<|wm Z<|wy (aB underlying22 sz5 Z Z (h_b.c _) (by omega) (by omega))<|wy (aZ underlying5 Z Z (h_b.c _) (by omega) (by omega))<|wg Z<|wg Z<|aA<|wq<|wm Z<|wm Z ?_
  refine wm Z<|wm Z<|wy (aB underlying22 sz5 Z Z (rdr 1 Z) (by omega) (by omega))<|wy (aZ underlying5 Z Z (rdr 1 Z) (by omega) (by omega))<|wy (aB underlying22 sz5 Z Z (rdr 0 Z) (by omega) (by omega))<|dK (bD 0 Z sz5 Z Z (by omega) (by omega)) ?_
  rintro _ _ rfl
  refine aA<|aN<|wm Z<|wm Z<|wy (nO underlying5 underlying3 Z (by omega))<|wa (aC aAm Z (Ct.at 1 Z (CV hvf.1.symm (by omega) (by omega)))) ?_
  rintro _ _ ⟨rfl,rfl⟩
  refine aA<|aN<|wA Z Z<|wm Z<|aA ?_
  exact⟨i+1,mtf V (rd b i),upd U i (rd V (rd b i)),⟨(by omega),(by omega),(by rw[NW hi0 (by omega),←hV]),(by rw[aQ];exact hUl),(gQ (f:=fun j=>rd (gL bO b) j) hi0 (by omega) hU (by rw[SI hi0 (by omega),←hV]))⟩,(by omega),(G5 Z Z Z Z Z),fun _ h=>h⟩
 ·refine bF<|wq<|wm Z<|wg Z<|aA<|aY [0] 99 (by decide) Z ?_
  refine⟨_,Z,?_⟩
  obtain rfl:U=gL bO b:=bB (by rw[hUl,nP]) (fun j h1 h2=>hU j h1 (by omega))
  exact⟨_,_,Z,Z⟩
end Go.Proofs.YtdbebmmhdefgdaaGreat

namespace Go.Eng
open Go Go.RowKit Go.Pure
section
variable {P:Program} {n:Nd} {B:Nat} {w0:World} {L:Env} {R:List Row} {ty:TypeId}
theorem RgR.left {Rs:List Row} {l:List RC} (h:RgR Rs l) (T:List Row):RgR (Rs++T) l:=h.weak fun _ _ _ hw=>hw.left
theorem OkB.app {a b:List (List Int)} (ha:OkB a) (hb:OkB b):OkB (a++b):=fun l hl=>(List.mem_append.1 hl).elim (ha l) (hb l)
end
end Go.Eng

namespace Go.Proofs.YtdbebmmhdefgdaaGreat
open Go Go.Eng Go.Pure
set_option linter.unusedVariables false
set_option maxRecDepth 100000
end Go.Proofs.YtdbebmmhdefgdaaGreat

namespace Go.Pure
open Go Go.Eng
def aEl (x:BitVec 32):BitVec 32:=if x &&& 1#32=1#32 then(x>>>1)^^^3988292384#32 else x>>>1
def VQ:Nat→BitVec 32→BitVec 32
 |0,x=>x
 |k+1,x=>VQ k (aEl x)
def aEn (x:BitVec 32):BitVec 32:=VQ 8 x
def aFt (x:BitVec 32) (b:Int):BitVec 32:=(x &&& 255#32)^^^BitVec.ofInt 32 b
def aFr (x:BitVec 32) (b:Int):BitVec 32:=(x>>>8)^^^aEn (aFt x b)
def aEs (x:BitVec 32) (l:List Int):BitVec 32:=l.foldl aFr x
def aEk (l:List Int):BitVec 32:=aEs 4294967295#32 l^^^4294967295#32
def ctab:List Int:=(List.range 256).map fun i=>bv (aEn (BitVec.ofNat 32 i))
def aEm (d s r:Int) (t:List Int):List Value:=[.int .u32 d, .int .i32 s, .int .u32 0, .int .i32 r]++ints .u32 t
def aFs (T g:Nat) (d s r:Int) (t:List Int):Row:=⟨T,260,some ⟨g,0,none⟩,1,1,aEm d s r t,false⟩
def FO (B:Nat) (w0:World) (R:List Row) (vals:List Value) (ls:List (List Int)):Prop:=vals.length=ls.length∧ ∀(j:Nat) (v:Value),vals[j]? =some v→ ∃(A:Option Addr) (c:Nat) (l:List Int),v=Value.slice A l.length c∧ls[j]? =some l∧RdC B w0 R A l.length c 1 (ints .u8 l)∧aP l
theorem FO.at {B:Nat} {w0:World} {R:List Row} {vals:List Value} {ls:List (List Int)} (h:FO B w0 R vals ls) {i:Int} (h0:0≤i) (h1:i<vals.length): ∃(A:Option Addr) (c:Nat) (l:List Int),vals[i.toNat]? =some (Value.slice A l.length c)∧ls[i.toNat]? =some l∧RdC B w0 R A l.length c 1 (ints .u8 l)∧aP l:=by
 have hlt:i.toNat<vals.length:=by omega
 obtain⟨A,c,l,e,h2,h3,h4⟩:=h.2 i.toNat _ (List.getElem?_eq_getElem hlt)
 exact⟨A,c,l,by rw[List.getElem?_eq_getElem hlt,e],h2,h3,h4⟩
theorem FO.one {B:Nat} {w0:World} {R:List Row} {A:Option Addr} {c n:Nat} {l:List Int} (h:RdC B w0 R A n c 1 (ints .u8 l)) (hb:aP l) (hn:n=l.length):FO B w0 R [.slice A n c] [l]:=by
 subst hn
 exact⟨rfl,fun j v hv=>by
  cases j with
  |zero=>exact⟨A,c,l,by simpa using hv.symm,rfl,h,hb⟩
  |succ j=>simp at hv⟩
theorem FO.of {w:World} {R:List Row} {vals:List Value} {ls:List (List Int)} (h:SlW .u8 w vals ls):FO w.heap.size w R vals ls:=
 ⟨h.1,fun j v hv=>by
  have hlt:j<ls.length:=by rw[←h.1];exact(List.getElem?_eq_some_iff.1 hv).1
  obtain⟨A,c,h1,h2,h3,_⟩:=h.2 j hlt
  rw[h1] at hv
  have e:ls.getD j []=ls[j]:=by simp[List.getD_eq_getElem?_getD,List.getElem?_eq_getElem hlt]
  rw[e] at hv h2 h3
  exact⟨A,c,ls[j],(Option.some.inj hv).symm,List.getElem?_eq_getElem hlt,h2.c R,byteL_wf h3⟩⟩
def Big (ls:List (List Int)):Prop:=ls.length≤1000000∧ ∀(j:Nat) (l:List Int),ls[j]? =some l→l.length≤1000000
theorem Big.one {l:List Int} (h:l.length≤1000000):Big [l]:=⟨by simp,fun j q hq=>by
 cases j with
 |zero=>simp at hq;subst hq;exact h
 |succ j=>simp at hq⟩
theorem Big.nil:Big []:=⟨by simp,fun j q hq=>by simp at hq⟩
theorem Big.snoc {ls:List (List Int)} {q:List Int} (h:Big ls) (h1:ls.length<1000000) (h2:q.length≤1000000):Big (ls++[q]):=⟨by simp;omega,fun j r hr=>by
 rw[List.getElem?_append] at hr
 split at hr
 ·exact h.2 j r hr
 ·rename_i hj
  have hz:j-ls.length=0:=by
   rcases Nat.eq_zero_or_pos (j-ls.length) with e|e
   ·exact e
   ·rw[List.getElem?_eq_none (by simp;omega)] at hr;cases hr
  rw[hz] at hr
  simp at hr
  rw[←hr];exact h2⟩
theorem FO.nil {B:Nat} {w0:World} {R:List Row}:FO B w0 R [] []:=⟨rfl,fun j v hv=>by simp at hv⟩
end Go.Pure

namespace Go.Proofs.YtdbebmmhdefgdaaGreat
open Go Go.Eng Go.Pure
section
variable {B:Nat} {w0:World} {R:List Row} {T g:Nat} {r r':Int} {t t':List Int}
end
end Go.Proofs.YtdbebmmhdefgdaaGreat

namespace Go.Proofs.YtdbebmmhdefgdaaGreat
open Go Go.Eng Go.Pure
set_option linter.unusedVariables false
set_option maxRecDepth 100000
end Go.Proofs.YtdbebmmhdefgdaaGreat

namespace Go.Eng
open Go Go.RowKit Go.Pure
section
variable {P:Program} {n:Nd} {B:Nat} {w0:World} {L:Env} {R:List Row} {ty:TypeId}
structure WH (u D:List Int) (N:Nat) (p:Int):Prop where
 p0:0≤p
 pN:p≤N
 up:(u.length:Int)≤p
 len:(D.length:Int)=p
 at_: ∀j:Nat,j<p→lt D j=om u j
 dvd:p=N∨(u.length:Int)∣p
theorem aBj {D E:List Int} {j:Nat}:lt (D++E) j=if j<D.length then lt D j else lt E (j-D.length):=by
 unfold lt
 rw[List.getD_eq_getElem?_getD]
 split
 ·rw[List.getElem?_append_left (by omega),List.getD_eq_getElem?_getD]
 ·rw[List.getElem?_append_right (by omega),List.getD_eq_getElem?_getD]
theorem lt_take {D:List Int} {j q:Nat} (h:j<q):lt (D.take q) j=lt D j:=by
 unfold lt
 rw[List.getD_eq_getElem?_getD,List.getElem?_take_of_lt h,List.getD_eq_getElem?_getD]
theorem WH.step {u D:List Int} {N:Nat} {p:Int} (h:WH u D N p) (hu:0<u.length) (hp:p<N):
  WH u (D++(D.take (min p N).toNat).take (min (min p N).toNat (N-p.toNat))) N (p+((min (min p N).toNat (N-p.toNat):Nat):Int)):=by
 obtain⟨p0,pN,up,len,at_,dvd⟩:=h
 have e:min p (N:Int)=p:=by omega
 rw[e]
 obtain⟨q,hq⟩: ∃q,min p.toNat (N-p.toNat)=q:=⟨_,rfl⟩
 rw[hq]
 have hd:(u.length:Int)∣p:=dvd.resolve_left (by omega)
 refine⟨by omega,by omega,by omega,by rw[List.length_append,List.length_take,List.length_take];omega,fun j hj=> ?_,?_⟩
 ·rw [aBj]
  split
  ·exact at_ j (by omega)
  ·rename_i hc
   rw[lt_take (by omega),lt_take (by omega),at_ _ (by omega)]
   obtain⟨k,hk⟩:=hd
   have hk0:0≤k:=by
    rcases Int.lt_or_le k 0 with g|g
    ·have:=Int.mul_nonneg (show(0:Int)≤u.length by omega) (show 0≤ -k by omega)
     rw[Int.mul_neg] at this
     omega
    ·exact g
   have e3:D.length=u.length*k.toNat:=by
    have:(D.length:Int)=((u.length*k.toNat:Nat):Int):=by rw[len,hk,Int.natCast_mul,Int.toNat_of_nonneg hk0]
    exact_mod_cast this
   have:=(mQ u).mul k.toNat (j-D.length)
   rw[←this,←e3,Nat.sub_add_cancel (by omega)]
 ·rcases Nat.lt_or_ge q p.toNat with g|g
  ·left;omega
  ·right
   have:(q:Int)=p:=by omega
   rw[this]
   exact Int.dvd_add hd hd
theorem WH.done {u D:List Int} {cn:Int} {N:Nat} {p:Int} (h:WH u D N p) (hp: ¬p<N) (hN:N=cn.toNat*u.length):D=rep u cn:=by
 have hl:=h.len
 have hpN:=h.pN
 refine bB (by rw[oM];omega) fun j h0 h1=> ?_
 have h2:=h.at_ j.toNat (by omega)
 have h3:=uP u cn.toNat j.toNat (by omega)
 rw[aCw,h2,←h3]
 unfold rd rep
 rw[Int.toNat_natCast]
end
end Go.Eng

namespace Go.Proofs
open Go.Shelf
def Tryz.laysRing_ren:Go.Shelf.Ren:=⟨fun|6=>117|15=>192|14=>191|28=>251|29=>252|20=>243|21=>244|22=>245|23=>246|24=>247|25=>248|26=>249|27=>250|46=>281|47=>282|48=>283|49=>284|50=>285|57=>305|n=>n,fun|22=>114|24=>117|25=>171|3=>3|39=>167|0=>0|53=>123|55=>112|4=>4|46=>289|45=>288|50=>97|5=>5|9=>9|66=>316|70=>320|76=>337|77=>338|n=>n,fun|n=>n⟩
def Tryz.laysRow_ren:Go.Shelf.Ren:=⟨fun|6=>303|15=>192|14=>328|28=>251|29=>252|20=>350|21=>351|22=>352|23=>353|24=>354|25=>355|26=>356|27=>357|46=>363|47=>282|48=>283|49=>364|50=>365|57=>375|n=>n,fun|22=>23|24=>22|25=>149|3=>3|39=>167|0=>0|53=>123|55=>112|4=>4|46=>289|45=>288|50=>97|5=>5|9=>9|66=>316|70=>320|76=>337|77=>338|n=>n,fun|n=>n⟩
end Go.Proofs

namespace Go.Proofs.YtdbebmmhdefgdaaGreat
open Go Go.Eng Go.Pure
set_option linter.unusedVariables false
set_option maxRecDepth 100000
def kw (c:List Int):RT:=(pK c,kQ c)
structure CI (ws:List (List Int)) (ls:List (List Int)):Prop where
 perm:(ls.map kw).Perm (fO ws)
 sorted:ls.Pairwise fun a b=>kG (kw a) (kw b)≤0
theorem CI.nil:CI [] []:=⟨.refl _, .nil⟩
theorem CI.skip {ws ls:List (List Int)} {w:List Int} (h:CI ws ls) (hw:w.length=0):CI (ws++[w]) ls:=⟨by
 have e:fO [w]=[]:=by unfold fO;simp[hw]
 rw[mM,e,List.append_nil]
 exact h.perm,h.sorted⟩
theorem CI.put {ws ls:List (List Int)} {w:List Int} {j:Int} (h:CI ws ls) (hw:0<w.length) (h0:0≤j) (h1:j≤ls.length) (hup: ∀q:Int,j≤q→q<ls.length→kG (kw (lw w)) (kw (rdl ls q))<0) (hlo: ¬(0<j∧kG (kw (lw w)) (kw (rdl ls (j-1)))<0)):CI (ws++[w]) (ls.take j.toNat++[lw w]++ls.drop j.toNat):=by
 refine⟨?_,?_⟩
 ·rw [mM]
  have e:fO [w]=[HY w]:=by unfold fO;simp[hw]
  rw[e,List.map_append,List.map_append]
  refine List.Perm.trans ?_ (List.Perm.append_right [HY w] h.perm)
  rw[List.append_assoc]
  refine(List.Perm.append_left _ List.perm_append_comm).trans ?_
  rw[←List.append_assoc,←List.map_append,List.take_append_drop]
  exact .refl _
 ·have hs:=h.sorted
  have hs2:=hs
  rw[←List.take_append_drop j.toNat ls,List.pairwise_append] at hs2
  obtain⟨s1,s2,s3⟩:=hs2
  have hdn: ∀b∈ls.drop j.toNat,kG (kw (lw w)) (kw b)<0:=fun b hb=>by
   obtain⟨k,hk,e⟩:=List.mem_iff_getElem.1 hb
   rw[List.length_drop] at hk
   have:=hup (j+k) (by omega) (by omega)
   have e2:rdl ls (j+k)=b:=by
    rw[←e,List.getElem_drop]
    unfold rdl
    rw[show(j+(k:Int)).toNat=j.toNat+k by omega,List.getD_eq_getElem?_getD,List.getElem?_eq_getElem (by omega)]
    rfl
   rwa[e2] at this
  have hlow: ∀a∈ls.take j.toNat,kG (kw a) (kw (lw w))≤0:=fun a ha=>by
   obtain⟨k,hk,e⟩:=List.mem_iff_getElem.1 ha
   rw[List.length_take] at hk
   have hj:0<j:=by omega
   have hl:kG (kw (rdl ls (j-1))) (kw (lw w))≤0:=by
    rw[rM (kw (lw w))]
    have:=fun c=>hlo ⟨hj,c⟩
    omega
   have e2:rdl ls (j-1)=ls[(j-1).toNat]'(by omega):=by
    unfold rdl
    rw[List.getD_eq_getElem?_getD,List.getElem?_eq_getElem (by omega)]
    rfl
   rw[List.getElem_take] at e
   rcases Nat.lt_or_ge k (j-1).toNat with g|g
   ·have:=List.pairwise_iff_getElem.1 hs k (j-1).toNat (by omega) (by omega) g
    rw[e,←e2] at this
    exact LM _ _ _ this hl
   ·obtain rfl:k=(j-1).toNat:=by omega
    rw[←e,←e2]
    exact hl
  rw[List.append_assoc,List.pairwise_append]
  refine⟨s1,?_,?_⟩
  ·rw [List.singleton_append,List.pairwise_cons]
   exact⟨fun b hb=>by have:=hdn b hb;omega,s2⟩
  ·intro a ha b hb
   rw[List.singleton_append,List.mem_cons] at hb
   rcases hb with rfl|hb
   ·exact hlow a ha
   ·exact s3 a ha b hb
theorem CI.done {ws ls:List (List Int)} (h:CI ws ls) (hp: ∀c∈ls,0<c.length):ls=canon ws:=by
 have:ls.map kw=BU ws:=OA h.perm (List.pairwise_map.2 h.sorted)
 unfold canon
 rw[←this,List.map_map]
 conv=>lhs;rw[←List.map_id ls]
 refine List.map_congr_left fun c hc=> ?_
 exact(AZ (hp c hc)).symm
abbrev longP (M:Nat) (ws:List (List Int)):Prop:=M<(ws.take 40).flatten.length∨30<ws.length
end Go.Proofs.YtdbebmmhdefgdaaGreat

namespace Go.Pure
open Go Go.Eng
def aEv (t:Int) (u:List Int) (p:List Int × List Int):Prop:=
 (t=1∧ ∃b:List Int,b.Perm (iota u.length)∧b.Pairwise (bI u)∧p=(jD (zat b),ofL u b))∨
 (t=2∧ ∃T:List (Int × Int),T.Perm (fB (bws u) (bws u).length)∧T.Pairwise (tF (bws u))∧p=([],T.map (lastB (bws u))))∨
 (t≠1∧t≠2∧p=([],u))
open Classical in
noncomputable def xC (t:Int) (u:List Int):List Int × List Int:=if h: ∃p,aEv t u p then Classical.choose h else([],[])
noncomputable def VX (t o:Int) (b:List Int):List Int:=
 jD b.length++((xC t b).1++(jD (LB (xC t b).2 o).length++(ZY (bv (aEk b))++LB (xC t b).2 o)))
def chK (m n:Nat):Nat:=(m+n-1)/n
noncomputable def ZA (t o:Int) (n:Nat) (u:List Int) (k:Nat):List Int:=((List.range k).map fun j=>VX t o ((u.drop (j*n)).take n)).flatten
noncomputable def encL (t so o size:Int) (u:List Int):List Int:=
 (([87,72,82,76]++[1,t,so,o])++jD size++ZA t o size.toNat u (chK u.length size.toNat))++(jD 0++jD u.length)
end Go.Pure

namespace Go.Proofs.YtdbebmmhdefgdaaGreat
open Go Go.Eng Go.Pure
set_option linter.unusedVariables false
set_option maxRecDepth 100000
end Go.Proofs.YtdbebmmhdefgdaaGreat

namespace Go.Pure
open Go Go.Eng
def aFl (l:List Int):Int:=l.foldl (fun a d=>a*256+d) 0
structure InC (s f:CdS):Prop where
 k:s.k≤f.k
 lo:s.N*256^(f.k-s.k)≤f.N
 hi:f.N+f.R≤(s.N+s.R)*256^(f.k-s.k)
theorem InC.refl (s:CdS):InC s s:=⟨Nat.le_refl _,by rw[Nat.sub_self,Int.pow_zero,Int.mul_one];exact Int.le_refl _,by rw[Nat.sub_self,Int.pow_zero,Int.mul_one];exact Int.le_refl _⟩
theorem InC.trans {a b c:CdS} (h:InC a b) (g:InC b c):InC a c:=by
 have hk:=h.k
 have gk:=g.k
 have e:c.k-a.k=(b.k-a.k)+(c.k-b.k):=by omega
 have hp:(0:Int)≤256^(c.k-b.k):=Int.pow_nonneg (by omega)
 refine⟨by omega,?_,?_⟩
 ·rw [e,Int.pow_add,←Int.mul_assoc]
  exact Int.le_trans (Int.mul_le_mul_of_nonneg_right h.lo hp) g.lo
 ·rw [e,Int.pow_add,←Int.mul_assoc]
  exact Int.le_trans g.hi (Int.mul_le_mul_of_nonneg_right h.hi hp)
def cuC (x:List Int) (s:CdS):Int:=aFl (x.take (s.k+4))-s.N
structure qU (x:List Int) (cd:CdS) (C:List Int) (y:Int):Prop where
 lo:cd.R/eT C*eT (C.take y.toNat)≤cuC x cd
 hi:cuC x cd<cd.R/eT C*(eT (C.take y.toNat)+rd C y)
 c0:0≤cuC x cd
 c1:cuC x cd<4294967296
 v0:eT (C.take y.toNat)≤cuC x cd/(cd.R/eT C)
 v1:cuC x cd/(cd.R/eT C)<eT (C.take y.toNat)+rd C y
 len:(ZU cd C y).k+4≤x.length
theorem qU.w0 {x:List Int} {o y:Int} {s:PpS} (h:qU x s.cd (BN o s) y) (hk:s.cls*o=0):qU x s.cd s.c0 y:=by
 unfold BN at h
 rwa[if_pos hk] at h
theorem qU.w1 {x:List Int} {o y:Int} {s:PpS} (h:qU x s.cd (BN o s) y) (hk:s.cls*o=1):qU x s.cd s.c1 y:=by
 unfold BN at h
 rwa[if_neg (by omega),if_pos hk] at h
theorem qU.w2 {x:List Int} {o y:Int} {s:PpS} (h:qU x s.cd (BN o s) y) (hk:s.cls*o=2):qU x s.cd s.c2 y:=by
 unfold BN at h
 rwa[if_neg (by omega),if_neg (by omega)] at h
end Go.Pure

namespace Go.Eng
open Go Go.RowKit Go.Pure
section
variable {P:Program} {n:Nd} {B:Nat} {w0:World} {L:Env} {R:List Row} {ty:TypeId}
end
end Go.Eng

namespace Go.Proofs.YtdbebmmhdefgdaaGreat
open Go Go.Eng Go.Pure
set_option linter.unusedVariables false
set_option maxRecDepth 100000
end Go.Proofs.YtdbebmmhdefgdaaGreat

namespace Go.Pure
open Go Go.Eng
section
variable {p:List Int}
def pit (p:List Int):Nat→Int→Int
 |0,i=>i
 |b+1,i=>rd p (pit p b i)
theorem lK (hp:p.Perm (iota p.length)) {i:Int} (i0:0≤i) (hi:i<p.length): ∀b:Nat,0≤pit p b i∧pit p b i<p.length
 |0=>⟨i0,hi⟩
 |b+1=>by
  have ih:=lK hp i0 hi b
  exact aO.1 (hp.subset (bA (L:=p) ih.1 ih.2))
theorem KX (p:List Int) (a:Nat) (i:Int): ∀b:Nat,pit p (a+b) i=pit p b (pit p a i)
 |0=>rfl
 |b+1=>by rw[←Nat.add_assoc,pit,KX p a i b,pit]
theorem ZV (hp:p.Perm (iota p.length)) {x y:Int} (x0:0≤x) (hx:x<p.length) (y0:0≤y) (hy:y<p.length) (h:rd p x=rd p y):x=y:=fH (hp.symm.nodup (cO _)) x0 hx y0 hy h
structure Ring (p:List Int) (i:Int) (c:List Int):Prop where
 pos:0<c.length
 at_: ∀b:Nat,b<c.length→rd c b=pit p b i
 close:pit p c.length i=i
 nodup:c.Nodup
 least: ∀x∈c,i≤x
structure ClE (p:List Int) (E:List Bool):Prop where
 len:E.length=p.length
 back: ∀j:Int,0≤j→j<p.length→rdb E (rd p j)=true→rdb E j=true
theorem XB {l:List Int} {x:Int} {b:Nat} (h:b<(l++[x]).length):rd (l++[x]) b=if b<l.length then rd l b else x:=by
 split
 ·rename_i g;rw[mO (by omega) (by omega)]
 ·rename_i g
  have:b=l.length:=by simp at h;omega
  subst this
  rw[gM (by omega),Int.sub_self]
  rfl
theorem wY (hp:p.Perm (iota p.length)) {E0:List Bool} {i:Int} (hE0:ClE p E0) (i0:0≤i) (hi:i<p.length) (hun:rdb E0 i≠true) (hall: ∀j:Int,0≤j→j<i→rdb E0 j=true):
  ∀(f:Nat) (E:List Bool) (acc:List Int),E.length=p.length→cntF E≤f→(∀b:Nat,b<acc.length→rd acc b=pit p b i)→acc.Nodup→(∀x∈acc,rdb E0 x≠true)→(∀j:Int,0≤j→j<p.length→(rdb E j=true↔rdb E0 j=true∨j∈acc))→
  Ring p i (acc++(dF p f E (pit p acc.length i)).1)∧(∀x∈acc++(dF p f E (pit p acc.length i)).1,rdb E0 x≠true)∧ ∀j:Int,0≤j→j<p.length→(rdb (dF p f E (pit p acc.length i)).2 j=true↔rdb E0 j=true∨j∈acc++(dF p f E (pit p acc.length i)).1)
 | f, E,acc,hl,hf,hat,hnd,hfr,hset=>by
  have hk:=lK hp i0 hi acc.length
  have hmem: ∀b:Nat,b<acc.length→pit p b i∈acc:=fun b hb=>by rw[←hat b hb];exact bA (by omega) (by omega)
  by_cases hseen:rdb E (pit p acc.length i)=true
  ·rw [lH hseen]
   simp only[List.append_nil]
   have hne:0<acc.length:=by
    rcases Nat.eq_zero_or_pos acc.length with z|z
    ·exfalso
     have hz:acc=[]:=List.eq_nil_of_length_eq_zero z
     subst hz
     rcases(hset i i0 hi).1 hseen with a|a
     ·exact hun a
     ·cases a
    ·exact z
   have hclose:pit p acc.length i=i:=by
    have hz:=lK hp i0 hi (acc.length-1)
    have hstep:pit p acc.length i=rd p (pit p (acc.length-1) i):=by
     obtain⟨m,hm⟩: ∃m,acc.length=m+1:=⟨acc.length-1,by omega⟩
     rw[hm,pit];rfl
    rcases(hset _ hk.1 hk.2).1 hseen with a|a
    ·rw [hstep] at a
     exact absurd (hE0.back _ hz.1 hz.2 a) (hfr _ (hmem _ (by omega)))
    ·obtain ⟨b,hb,e⟩:=List.mem_iff_getElem.1 a
     have e2:pit p acc.length i=pit p b i:=by rw[←hat b hb,dS hb];exact e.symm
     rcases Nat.eq_zero_or_pos b with z|z
     ·rw[e2,z];rfl
     ·exfalso
      have hb1:=lK hp i0 hi (b-1)
      have hstep2:pit p b i=rd p (pit p (b-1) i):=by
       obtain⟨m,rfl⟩: ∃m,b=m+1:=⟨b-1,by omega⟩
       rw[pit];rfl
      have:=ZV hp hz.1 hz.2 hb1.1 hb1.2 (by rw[←hstep,←hstep2,e2])
      rw[←hat _ (by omega),←hat _ (by omega)] at this
      have:=fH hnd (by omega) (by omega) (by omega) (by omega) this
      omega
   refine⟨⟨hne,hat,hclose,hnd,fun x hx=> ?_⟩,hfr,hset⟩
   obtain⟨b,hb,rfl⟩:=List.mem_iff_getElem.1 hx
   have hr:=lK hp i0 hi b
   rw[←hat b hb,dS hb] at hr
   rcases Int.lt_or_le acc[b] i with g|g
   ·exact absurd (hall _ hr.1 g) (hfr _ hx)
   ·exact g
  ·have hpos:=vX hk.1 (by omega) hseen
   have hup:=qK hk.1 (by omega) hseen
   obtain⟨g,rfl⟩: ∃g,f=g+1:=⟨f-1,by omega⟩
   rw[uI hk.1 (by omega) hf hseen]
   have hno: ¬(rdb E0 (pit p acc.length i)=true∨pit p acc.length i∈acc):=fun h=>hseen ((hset _ hk.1 hk.2).2 h)
   have hlen:(acc++[pit p acc.length i]).length=acc.length+1:=by simp
   have ih:=wY hp hE0 i0 hi hun hall g (jS E (pit p acc.length i) true) (acc++[pit p acc.length i]) (by rw[gB];exact hl) (by omega) (fun b hb=>by
    rw[XB hb]
    split
    ·rename_i q;exact hat b q
    ·rename_i q;rw[show b=acc.length by rw[hlen] at hb;omega]) (List.nodup_append.2 ⟨hnd,by simp,fun x hx y hy e=>by obtain rfl:=List.mem_singleton.1 hy;subst e;exact hno (.inr hx)⟩) (fun x hx=>by
    rcases List.mem_append.1 hx with h|h
    ·exact hfr x h
    ·obtain rfl:=List.mem_singleton.1 h
     exact fun e=>hno (.inl e)) (fun j j0 hj=>by
    rw[nT hk.1 (by omega) j0,List.mem_append,List.mem_singleton]
    split
    ·rename_i e;exact⟨fun _=> .inr (.inr e),fun _=>rfl⟩
    ·rename_i e;rw[hset j j0 hj];exact⟨fun h=>h.elim .inl fun h=> .inr (.inl h),fun h=>h.elim .inl fun h=>h.elim .inr fun h=>absurd h e⟩)
   rw[hlen,pit,List.append_assoc] at ih
   exact ih
structure aEx (p:List Int) (i:Nat) (E:List Bool) (ls:List (List Int)):Prop where
 cl:ClE p E
 seen: ∀j:Int,0≤j→j<p.length→(rdb E j=true↔j∈ls.flatten)
 nodup:ls.flatten.Nodup
 ring: ∀c∈ls,∃i0:Int,(0≤i0∧i0<i)∧Ring p i0 c
 heads:ls.Pairwise fun c d=>rd c 0<rd d 0
theorem aEj (hp:p.Perm (iota p.length)): ∀i:Nat,i≤p.length→aEx p i (eD p i).1 (eD p i).2
 |0,_=>⟨⟨by simp[eD],fun j j0 hj h=>by rw[eD,tY] at h;cases h⟩,fun j j0 hj=>by rw[eD,tY];simp,by simp[eD],fun c hc=>(by cases hc), .nil⟩
 | i +1,hi=>by
  have ih:=aEj hp i (by omega)
  have hseen:=rT hp i (by omega)
  have hf:=gK hp i (by omega)
  have hcnt:cntF (eD p i).1≤p.length:=by have:=hf.2.2;omega
  rw[eD]
  by_cases hun:rdb (eD p i).1 i=true
  ·rw [lH hun]
   simp only[if_true]
   exact⟨ih.cl,ih.seen,ih.nodup,fun c hc=>by obtain⟨i0,h,r⟩:=ih.ring c hc;exact⟨i0,by omega,r⟩,ih.heads⟩
  ·obtain ⟨w1,w2,w3⟩:=wY hp ih.cl (i:=i) (by omega) (by omega) hun (fun j j0 hj=>by have:=hseen j.toNat (by omega);rwa[show((j.toNat:Nat):Int)=j by omega] at this) p.length (eD p i).1 [] hf.1 hcnt (fun b hb=>by simp at hb) .nil (fun x hx=>by cases hx) (fun j j0 hj=>by simp)
   simp only[List.nil_append,List.length_nil,pit] at w1 w2 w3
   have hwl:=(kH hp p.length (eD p i).1 i hf.1 (by omega) (by omega))
   generalize dF p p.length (eD p i).1 i=r at w1 w2 w3 hwl
   obtain⟨c,E'⟩:=r
   simp only at w1 w2 w3 hwl ⊢
   rw[if_neg (fun e=>by have:=w1.pos;rw[e] at this;simp at this)]
   have h0:rd c 0=i:=w1.at_ 0 w1.pos
   refine⟨⟨hwl.1,fun j j0 hj h=> ?_⟩,fun j j0 hj=> ?_,?_,fun d hd=> ?_,?_⟩
   ·have hj':=aO.1 (hp.subset (bA (L:=p) j0 hj))
    rcases(w3 _ hj'.1 hj'.2).1 h with a|a
    ·exact(w3 j j0 hj).2 (.inl (ih.cl.back j j0 hj a))
    ·refine (w3 j j0 hj).2 (.inr ?_)
     obtain⟨b,hb,e⟩:=List.mem_iff_getElem.1 a
     have e2:rd p j=pit p b i:=by rw[←w1.at_ b hb,dS hb];exact e.symm
     have key: ∀m:Nat,m<c.length→rd p j=rd p (pit p m i)→j∈c:=fun m hm e=>by
      have hm':=lK hp (i:=i) (by omega) (by omega) m
      have:=ZV hp j0 hj hm'.1 hm'.2 e
      rw[this,←w1.at_ m hm]
      exact bA (by omega) (by omega)
     rcases Nat.eq_zero_or_pos b with z|z
     ·refine key (c.length-1) (by have:=w1.pos;omega) ?_
      have hc:=w1.close
      obtain⟨m,hm⟩: ∃m,c.length=m+1:=⟨c.length-1,by have:=w1.pos;omega⟩
      rw[hm,pit] at hc
      rw[e2,z,hm]
      exact hc.symm
     ·obtain ⟨m,rfl⟩: ∃m,b=m+1:=⟨b-1,by omega⟩
      exact key m (by omega) (by rw[e2,pit])
   ·rw [w3 j j0 hj,List.flatten_append,List.mem_append,ih.seen j j0 hj]
    simp
   ·rw [List.flatten_append]
    refine List.nodup_append.2 ⟨ih.nodup,by simpa using w1.nodup,fun x hx y hy e=> ?_⟩
    subst e
    have hy:x∈c:=by simpa using hy
    have hx':=hwl.2.1 x hy
    exact w2 x hy ((ih.seen x hx'.1 hx'.2).2 hx)
   ·rcases List.mem_append.1 hd with h|h
    ·obtain ⟨i0,h,r⟩:=ih.ring d h
     exact⟨i0,by omega,r⟩
    ·obtain rfl:=List.mem_singleton.1 h
     exact⟨i,by omega,w1⟩
   ·refine List.pairwise_append.2 ⟨ih.heads,List.pairwise_singleton _ _,fun d hd e he=> ?_⟩
    obtain rfl:=List.mem_singleton.1 he
    obtain⟨i0,h,r⟩:=ih.ring d hd
    rw[h0,show rd d 0=i0 from r.at_ 0 r.pos]
    omega
theorem JM (hp:p.Perm (iota p.length)):aEx p p.length (eD p p.length).1 (bT p):=aEj hp p.length (Nat.le_refl _)
theorem rR (hp:p.Perm (iota p.length)):(bT p).flatten.Perm (iota p.length):=jX (JM hp).nodup (fun x hx=>by
 obtain⟨c,hc,hx⟩:=List.mem_flatten.1 hx
 exact aO.2 (MJ hp c hc x hx)) (by rw[aW,EQ hp];exact Nat.le_refl _)
end
end Go.Pure
namespace Go.Pure
open Go Go.Eng
section
variable {l:List Int}
def phi (l:List Int) (q:Int):Int:=rd (bN (iota l.length) l 256) q
theorem uY (hl:aP l) {q:Int} (q0:0≤q) (hq:q<l.length):0≤phi l q∧phi l q<l.length:=by
 have h:=fI (l:=l) hl
 have hlen:=h.1.length_eq
 rw[aW] at hlen
 exact aO.1 (h.1.subset (bA q0 (by omega)))
theorem aAz (hl:aP l) {i:Int} (i0:0≤i) (hi:i<l.length):phi l (lfC l i)=i:=by
 obtain⟨q,q0,q1,e,f⟩:=CZ (l:=l) hl i0 hi
 rw[f];exact e
theorem IK (hl:aP l) {i k:Int} (i0:0≤i) (h:i<k) (hk:k<l.length):tl l (phi l i) (phi l k):=by
 have hlen:=(fI (l:=l) hl).1.length_eq
 rw[aW] at hlen
 exact bU (fI (l:=l) hl).2 i0 h (by omega)
def uw (l:List Int):Nat→Int→Int
 |0,i=>rd l (phi l i)
 |d+1,i=>uw l d (phi l i)
def U (l:List Int) (i:Int) (d:Nat):Int:=uw l d i
theorem nI (i:Int):U l i 0=rd l (phi l i):=by unfold U;rw[uw]
theorem oV (i:Int) (d:Nat):U l i (d+1)=U l (phi l i) d:=by unfold U;rw[uw]
theorem WF (hl:aP l): ∀(d:Nat) (i k:Int),0≤i→i<k→k<l.length→(∀e,e<d→U l i e=U l k e)→U l i d≤U l k d
 |0,i,k,i0,h,hk,_=>by
  have:=IK hl i0 h hk
  rw[nI,nI]
  unfold tl at this
  omega
 |d+1,i,k,i0,h,hk,he=>by
  have h0:=he 0 (by omega)
  rw[nI,nI] at h0
  have ht:=IK hl i0 h hk
  unfold tl at ht
  have hi':=uY hl (q:=i) i0 (by omega)
  have hk':=uY hl (q:=k) (by omega) hk
  rw[oV,oV]
  refine WF hl d _ _ hi'.1 (by omega) hk'.2 fun e he'=> ?_
  have:=he (e+1) (by omega)
  rwa[oV,oV] at this
theorem WG (hl:aP l) {i k:Int} (i0:0≤i) (h:i≤k) (hk:k<l.length): ¬Lt (U l k) (U l i):=by
 rintro⟨d,h1,h2⟩
 rcases Int.lt_or_le i k with a|a
 ·have:=WF hl d i k i0 a hk fun e he=>(h1 e he).symm
  omega
 ·obtain rfl:i=k:=by omega
  omega
theorem phi_mono (hl:aP l) {i k:Int} (i0:0≤i) (h:i<k) (hk:k<l.length) (he: ∀d,U l i d=U l k d):phi l i<phi l k∧ ∀d,U l (phi l i) d=U l (phi l k) d:=by
 have ht:=IK hl i0 h hk
 have h0:=he 0
 rw[nI,nI] at h0
 unfold tl at ht
 refine⟨by omega,fun d=> ?_⟩
 have:=he (d+1)
 rwa[oV,oV] at this
def eO (l:List Int):Nat→Int→Int
 |0,i=>i
 |b+1,i=>eO l b (phi l i)
theorem lL (hl:aP l): ∀(b:Nat) {i:Int},0≤i→i<l.length→0≤eO l b i∧eO l b i<l.length
 |0,i,i0,hi=>⟨i0,hi⟩
 |b+1,i,i0,hi=>by
  have h:=uY hl i0 hi
  exact lL hl b h.1 h.2
theorem rE (hl:aP l): ∀(b:Nat) {i k:Int},0≤i→i<k→k<l.length→(∀d,U l i d=U l k d)→eO l b i<eO l b k∧ ∀d,U l (eO l b i) d=U l (eO l b k) d
 |0,i,k,_,h,_,he=>⟨h,he⟩
 |b+1,i,k,i0,h,hk,he=>by
  have h1:=phi_mono hl i0 h hk he
  have hi':=uY hl (q:=i) i0 (by omega)
  have hk':=uY hl (q:=k) (by omega) hk
  exact rE hl b hi'.1 h1.1 hk'.2 h1.2
theorem nJ (i:Int): ∀(b d:Nat),U l (eO l b i) d=U l i (b+d)
 |0,d=>by rw[Nat.zero_add];rfl
 |b+1,d=>by
  rw[eO,nJ (phi l i) b d,←oV,show b+d+1=b+1+d by omega]
theorem iW (i:Int): ∀(a b:Nat),eO l (a+b) i=eO l b (eO l a i)
 |0,b=>by rw[Nat.zero_add];rfl
 |a+1,b=>by rw[show a+1+b=(a+b)+1 by omega,eO,iW (phi l i) a b];rfl
theorem LU (hl:aP l) {i:Int} (i0:0≤i) (hi:i<l.length) {b:Nat} (h:i<eO l b i) (he: ∀d,U l i d=U l (eO l b i) d): ∀t:Nat,i+t≤eO l (t*b) i
 |0=>by rw[Nat.zero_mul];show i+0≤i;omega
 |t+1=>by
  have ih:=LU hl i0 hi h he t
  have hk:=lL hl b i0 hi
  have h1:=(rE hl (t*b) i0 h hk.2 he).1
  rw[←iW i b (t*b),show b+t*b=(t+1)*b by rw[Nat.succ_mul];omega] at h1
  omega
theorem LV (hl:aP l) {i:Int} (i0:0≤i) (hi:i<l.length) {b:Nat} (h:eO l b i<i) (he: ∀d,U l i d=U l (eO l b i) d): ∀t:Nat,eO l (t*b) i+t≤i
 |0=>by rw[Nat.zero_mul];show i+0≤i;omega
 |t+1=>by
  have ih:=LV hl i0 hi h he t
  have hk:=lL hl b i0 hi
  have h1:=(rE hl (t*b) hk.1 h hi fun d=>(he d).symm).1
  rw[←iW i b (t*b),show b+t*b=(t+1)*b by rw[Nat.succ_mul];omega] at h1
  omega
theorem RP (hl:aP l) {i:Int} (i0:0≤i) (hi:i<l.length) {b:Nat} (hne:eO l b i≠i): ¬ ∀d,U l i d=U l (eO l b i) d:=fun he=>by
 rcases Int.lt_or_le i (eO l b i) with h|h
 ·have:=LU hl i0 hi h he (l.length+1)
  have:=lL hl ((l.length+1)*b) i0 hi
  omega
 ·have:=LV hl i0 hi (by omega) he (l.length+1)
  have:=lL hl ((l.length+1)*b) i0 hi
  omega
theorem YO (hl:aP l):(((iota l.length).map (lfC l))).Perm (iota ((iota l.length).map (lfC l)).length):=by
 rw[List.length_map,aW]
 exact qO (fun x h0 h1=>DC (l:=l) hl h0 h1) fun x y x0 x1 y0 y1 e=>UD (l:=l) hl x0 x1 y0 y1 e
def lfL (l:List Int):List Int:=(iota l.length).map (lfC l)
theorem iR (l:List Int):(lfL l).length=l.length:=by unfold lfL;rw[List.length_map,aW]
theorem aAw {i:Int} (i0:0≤i) (hi:i<l.length):rd (lfL l) i=lfC l i:=by
 unfold lfL
 rw[uQ i0 (by rw[aW];exact hi),nU i0 hi]
theorem iA (hl:aP l):(lfL l).Perm (iota (lfL l).length):=YO hl
theorem CF (hl:aP l) {i:Int} (i0:0≤i) (hi:i<l.length): ∀b:Nat,eO l b (pit (lfL l) b i)=i
 |0=>rfl
 |b+1=>by
  have h:=lK (iA hl) i0 (by rw[iR];exact hi) b
  rw[iR] at h
  rw[eO,pit,aAw h.1 h.2,aAz hl h.1 h.2]
  exact CF hl i0 hi b
section
variable {i:Int} {c:List Int} (hl:aP l) (i0:0≤i) (hi:i<l.length) (hc:Ring (lfL l) i c)
include hl i0 hi hc
theorem nS {b:Nat} (hb:b≤c.length):eO l b i=pit (lfL l) (c.length-b) i:=by
 have h:=CF hl (lK (iA hl) i0 (by rw[iR];exact hi) (c.length-b)).1 (by have:=(lK (iA hl) i0 (by rw[iR];exact hi) (c.length-b)).2;rw[iR] at this;exact this) b
 rw[←KX,show c.length-b+b=c.length by omega,hc.close] at h
 exact h
theorem uN:eO l c.length i=i:=by
 rw[nS hl i0 hi hc (Nat.le_refl _),Nat.sub_self];rfl
theorem BS:Per (U l i) c.length:=fun d=>by
 rw[Nat.add_comm,←nJ,uN hl i0 hi hc]
theorem AV {d:Nat} (hd:d<c.length):rd (fQ l c) d=U l i d:=by
 have h1:rd (fQ l c) d=rd l (rd c ((c.length-1-d:Nat):Int)):=by
  unfold fQ
  rw[uQ (by omega) (by rw[List.length_reverse];omega)]
  congr 1
  rw[dS (by rw[List.length_reverse];exact hd),List.getElem_reverse,dS (by omega)]
 have h2:U l i d=rd l (eO l (d+1) i):=by
  have:=nJ (l:=l) i d 0
  rw[Nat.add_zero,nI] at this
  rw[←this,iW i d 1];rfl
 rw[h1,h2,hc.at_ _ (by omega),nS hl i0 hi hc (by omega),show c.length-(d+1)=c.length-1-d by omega]
theorem uG:om (fQ l c)=U l i:=by
 funext d
 have hp:=hc.pos
 have h1:om (fQ l c) d=rd (fQ l c) ((d%c.length:Nat):Int):=by
  unfold om rd
  rw[iH,Int.toNat_natCast]
 rw[h1,AV hl i0 hi hc (Nat.mod_lt _ hp)]
 exact(BS hl i0 hi hc).mod d
theorem uO {r:Nat} (r0:0<r) (hr:r<c.length):i<eO l r i:=by
 rw[nS hl i0 hi hc (by omega)]
 have h1:=hc.least _ (bA (L:=c) (k:=((c.length-r:Nat):Int)) (by omega) (by omega))
 rw[hc.at_ _ (by omega)] at h1
 rcases Int.lt_or_le i (pit (lfL l) (c.length-r) i) with g|g
 ·exact g
 ·exfalso
  have e:rd c ((c.length-r:Nat):Int)=rd c ((0:Nat):Int):=by
   rw[hc.at_ _ (by omega),hc.at_ 0 hc.pos]
   show _=i
   omega
  have:=fH hc.nodup (by omega) (by omega) (by omega) (by have:=hc.pos;omega) e
  omega
theorem RZ:nM (fQ l c)=true:=by
 rw[nL,iH]
 refine⟨hc.pos,fun r r0 hr=> ?_⟩
 have hot:=uO hl i0 hi hc r0 hr
 have hin:=lL hl r i0 hi
 have hnl:=WG hl i0 (Int.le_of_lt hot) hin.2
 have hne:=RP hl i0 hi (b:=r) (by omega)
 have hlt:Lt (U l i) (U l (eO l r i)):=by
  rcases IQ (U l i) (U l (eO l r i)) with a|a|a
  ·exact a
  ·exact absurd a hne
  ·exact absurd a hnl
 obtain⟨d,h1,h2⟩:=hlt
 have hsh: ∀e,U l (eO l r i) e=U l i (r+e):=fun e=>nJ i r e
 rw[hsh] at h2
 have hdm:d<c.length-r:=by
  rcases Nat.lt_or_ge d (c.length-r) with g|g
  ·exact g
  ·exfalso
   have hper:=BS hl i0 hi hc
   have hot2:=uO hl i0 hi hc (r:=c.length-r) (by omega) (by omega)
   have hin2:=lL hl (c.length-r) i0 hi
   refine WG hl i0 (Int.le_of_lt hot2) hin2.2 ⟨d-(c.length-r),fun e he=> ?_,?_⟩
   ·rw [nJ]
    have:=h1 (c.length-r+e) (by omega)
    rw[this,hsh,show r+(c.length-r+e)=e+c.length by omega,hper]
   ·rw [nJ,show c.length-r+(d-(c.length-r))=d by omega]
    rw[show r+d=(d-(c.length-r))+c.length by omega,hper] at h2
    exact h2
 rw[jI _ _ (by rw[List.length_drop,iH];omega),List.length_drop,iH]
 have hlt: ∀e,e<c.length→lt (fQ l c) e=U l i e:=fun e he=>by
  rw[←AV hl i0 hi hc he]
  unfold lt rd
  rw[Int.toNat_natCast]
 refine⟨d,hdm,fun e he=> ?_,?_⟩
 ·rw[dX,hlt e (by omega),hlt (r+e) (by omega),h1 e he,hsh]
 ·rw [dX,hlt d (by omega),hlt (r+d) (by omega)]
  exact h2
end
end
end Go.Pure
namespace Go.Pure
open Go Go.Eng
theorem vG {w:List Int} {e:Nat} (h:e<w.length):om w e=lt w e:=vF h
theorem NB {v:List Int} (h:nM v=true) {r:Nat} (r0:0<r) (hr:r<v.length): ∃d,d<v.length-r∧(∀e,e<d→lt v e=lt v (r+e))∧lt v d<lt v (r+d):=by
 have:=((nL v).1 h).2 r r0 hr
 rw[jI _ _ (by rw[List.length_drop];omega),List.length_drop] at this
 obtain⟨d,h1,h2,h3⟩:=this
 refine⟨d,h1,fun e he=> ?_,?_⟩
 ·rw[h2 e he,dX]
 ·rwa[dX] at h3
theorem longer {w v:List Int} (hw:0<w.length) (hv:nM v=true) (hlen:w.length<v.length) (hpre: ∀e,e<w.length→lt v e=lt w e):Lt (om w) (om v):=by
 obtain⟨d,h1,h2,h3⟩:=NB hv hw hlen
 have hper:=mQ w
 have agr: ∀e,e<w.length+d→lt v e=om w e:=by
  intro e
  induction e using Nat.strongRecOn with
  | ind e ih=>
   intro he
   rcases Nat.lt_or_ge e w.length with g|g
   ·rw[hpre e g,vG g]
   ·have e1:=h2 (e-w.length) (by omega)
    rw[show w.length+(e-w.length)=e by omega] at e1
    have e2:=hper (e-w.length)
    rw[show e-w.length+w.length=e by omega] at e2
    rw[←e1,e2]
    exact ih (e-w.length) (by omega) (by omega)
 refine⟨w.length+d,fun f hf=> ?_,?_⟩
 ·rw[vG (w:=v) (by omega),agr f hf]
 ·rw [vG (w:=v) (by omega)]
  have e1:=hper d
  rw[Nat.add_comm d w.length] at e1
  rw[e1,←agr d (by omega)]
  exact h3
theorem LX: ∀(ws:List (List Int)) (m:Nat),0<m→m≤ws.flatten.length→ ∃v∈ws,∃r,r<m∧m≤r+v.length∧ ∀e,e<v.length→lt ws.flatten (r+e)=lt v e
 |[],m,h0,h=>by simp at h;omega
 | w::ws,m,h0,h=>by
  rw[List.flatten_cons,List.length_append] at h
  rcases Nat.lt_or_ge w.length m with g|g
  ·obtain ⟨v,hv,r,h1,h2,h3⟩:=LX ws (m-w.length) (by omega) (by omega)
   refine⟨v,List.mem_cons_of_mem _ hv,w.length+r,by omega,by omega,fun e he=> ?_⟩
   rw[List.flatten_cons,←h3 e he]
   unfold lt
   rw[List.getD_eq_getElem?_getD,List.getD_eq_getElem?_getD,List.getElem?_append_right (by omega),show w.length+r+e-w.length=r+e by omega]
  ·refine ⟨w,by simp,0,h0,by omega,fun e he=> ?_⟩
   rw[List.flatten_cons,Nat.zero_add]
   unfold lt
   rw[List.getD_eq_getElem?_getD,List.getD_eq_getElem?_getD,List.getElem?_append_left he]
theorem PD {w:List Int} {ws:List (List Int)} (hw:nM w=true) (hws: ∀v∈ws,nM v=true) (hle: ∀v∈ws,¬Lt (om w) (om v)):gZ (w++ws.flatten) (w++ws.flatten).length=w.length:=by
 have hpos:=((nL w).1 hw).1
 refine rH (by rw[List.take_left'];exact hw;rfl) _ (by simp) fun m h1 h2=> ?_
 cases hb:nM ((w++ws.flatten).take m) with
 |false=>rfl
 | true=>
  exfalso
  rw[List.length_append] at h2
  obtain⟨v,hv,r,r1,r2,r3⟩:=LX ws (m-w.length) (by omega) (by omega)
  have hml:((w++ws.flatten).take m).length=m:=by rw[List.length_take,List.length_append];omega
  obtain⟨d,d1,d2,d3⟩:=NB hb (r:=w.length+r) (by omega) (by omega)
  rw[hml] at d1
  have hs: ∀e,e<m→lt ((w++ws.flatten).take m) e=lt (w++ws.flatten) e:=fun e he=>lt_take he
  have hsw: ∀e,e<w.length→lt (w++ws.flatten) e=lt w e:=fun e he=>by
   unfold lt
   rw[List.getD_eq_getElem?_getD,List.getD_eq_getElem?_getD,List.getElem?_append_left he]
  have hsv: ∀e,e<v.length→lt (w++ws.flatten) (w.length+r+e)=lt v e:=fun e he=>by
   rw[←r3 e he]
   unfold lt
   rw[List.getD_eq_getElem?_getD,List.getD_eq_getElem?_getD,List.getElem?_append_right (by omega),show w.length+r+e-w.length=r+e by omega]
  have hlv:=hws v hv
  have q2: ∀e,e<d→lt (w++ws.flatten) e=lt v e:=fun e he=>by
   have:=d2 e he
   rwa[hs _ (by omega),hs _ (by omega),hsv e (by omega)] at this
  have q3:lt (w++ws.flatten) d<lt v d:=by rwa[hs _ (by omega),hs _ (by omega),hsv d (by omega)] at d3
  rcases Nat.lt_or_ge d w.length with g|g
  ·refine hle v hv ⟨d,fun e he=> ?_,?_⟩
   ·rw[vG (w:=w) (by omega),vG (w:=v) (by omega),←q2 e he,hsw e (by omega)]
   ·rw [vG (w:=w) g,vG (w:=v) (by omega),←hsw d g]
    exact q3
  ·exact hle v hv (longer hpos hlv (by omega) fun e he=>by rw[←q2 e (by omega),hsw e he])
theorem LZ: ∀ {ws:List (List Int)},(∀v∈ws,nM v=true)→ws.Pairwise (fun a b=> ¬Lt (om a) (om b))→cB ws.flatten=ws.map fun w=>(w.length:Int)
 |[],_,_=>EB rfl
 |w::ws,hl,hp=>by
  obtain⟨h1,h2⟩:=List.pairwise_cons.1 hp
  have hw:=hl w (by simp)
  have hpos:=((nL w).1 hw).1
  have hf:=PD hw (fun v hv=>hl v (List.mem_cons_of_mem _ hv)) h1
  rw[List.flatten_cons,yH (by rw[List.length_append];omega),hf,List.drop_left',List.map_cons,LZ (fun v hv=>hl v (List.mem_cons_of_mem _ hv)) h2]
  rfl
theorem IG (ws:List (List Int)) (k:Nat):ps (ws.map fun w=>(w.length:Int)) k=((ws.take k).flatten.length:Int):=by
 unfold ps
 rw[Int.toNat_natCast,←List.map_take]
 induction ws.take k with
 |nil=>rfl
 |cons w l ih=>rw[List.map_cons,List.sum_cons,ih,List.flatten_cons,List.length_append];omega
theorem PN (ws:List (List Int)):dM ws.flatten (ws.map fun w=>(w.length:Int)) ws.length=ws:=by
 refine List.ext_getElem (by rw[lG];omega) fun k h1 h2=> ?_
 simp only[dM,List.getElem_map,List.getElem_range]
 rw[IG,Int.toNat_natCast,dS (by rw[List.length_map];exact h2),List.getElem_map,Int.toNat_natCast]
 have e:ws.flatten=(ws.take k).flatten++(ws[k]++(ws.drop (k+1)).flatten):=by
  conv=>lhs;rw[←List.take_append_drop k ws,List.drop_eq_getElem_cons h2]
  rw[List.flatten_append,List.flatten_cons]
 rw[e,List.drop_left' rfl,List.take_left' rfl]
theorem PU {ws:List (List Int)} (hl: ∀v∈ws,nM v=true) (hp:ws.Pairwise (fun a b=> ¬Lt (om a) (om b))):bws ws.flatten=ws:=by
 unfold bws
 rw[LZ hl hp,List.length_map]
 exact PN ws
end Go.Pure
namespace Go.Pure
open Go Go.Eng
section
variable {l:List Int}
def eH (l:List Int):List (List Int):=((bT (lfL l)).reverse).map (fQ l)
theorem JU (l:List Int):backL l (bT (lfL l))=(eH l).flatten:=rfl
theorem pM (hl:aP l) {c:List Int} (hc:c∈bT (lfL l)): ∃i:Int,(0≤i∧i<l.length)∧Ring (lfL l) i c∧rd c 0=i:=by
 obtain⟨i,h,r⟩:=(JM (iA hl)).ring c hc
 rw[iR] at h
 exact⟨i,h,r,r.at_ 0 r.pos⟩
theorem NZ (hl:aP l): ∀v∈eH l,nM v=true:=fun v hv=>by
 obtain⟨c,hc,rfl⟩:=List.mem_map.1 hv
 obtain⟨i,h,r,_⟩:=pM hl (List.mem_reverse.1 hc)
 exact RZ hl h.1 h.2 r
theorem GZ (hl:aP l):(eH l).Pairwise (fun a b=> ¬Lt (om a) (om b)):=by
 unfold eH
 rw[List.map_reverse]
 refine List.pairwise_reverse.2 (List.pairwise_map.2 ?_)
 refine List.Pairwise.imp_of_mem (fun {c d} hc hd h=> ?_) (JM (iA hl)).heads
 obtain⟨i,hi,r,e⟩:=pM hl hc
 obtain⟨k,hk,q,f⟩:=pM hl hd
 rw[uG hl hi.1 hi.2 r,uG hl hk.1 hk.2 q]
 exact WG hl hi.1 (by omega) hk.2
theorem wF (hl:aP l):bws (backL l (bT (lfL l)))=eH l:=by
 rw[JU]
 exact PU (NZ hl) (GZ hl)
theorem aCr {ws:List (List Int)} {w:Int} {j:Nat}:tw ws (w,(j:Int))=fun d=>om (rdl ws w) (j+d):=by
 funext d
 unfold tw om
 simp only[Int.toNat_natCast]
theorem xP (hl:aP l) {i:Int} {c:List Int} (i0:0≤i) (hi:i<l.length) (hc:Ring (lfL l) i c):((List.range c.length).map fun j=>eO l j i).Perm c:=by
 have hpos:=hc.pos
 have hback: ∀j,j<c.length→eO l j i=rd c (((c.length-j)%c.length:Nat):Int):=fun j hj=>by
  rw[nS hl i0 hi hc (by omega)]
  rcases Nat.eq_zero_or_pos j with z|z
  ·subst z
   rw[Nat.sub_zero,hc.close,Nat.mod_self,hc.at_ 0 hpos]
   rfl
  ·rw[Nat.mod_eq_of_lt (by omega),hc.at_ _ (by omega)]
 refine jX ?_ (fun x hx=> ?_) (by simp)
 ·refine List.pairwise_map.2 (List.Pairwise.imp_of_mem (fun {a b} ha hb hab e=> ?_) List.nodup_range)
  have ha:=List.mem_range.1 ha
  have hb:=List.mem_range.1 hb
  rw[hback a ha,hback b hb] at e
  have h1:=Nat.mod_lt (c.length-a) hpos
  have h2:=Nat.mod_lt (c.length-b) hpos
  have:=fH hc.nodup (by omega) (by omega) (by omega) (by omega) e
  have e3:(c.length-a)%c.length=(c.length-b)%c.length:=by omega
  refine hab ?_
  rcases Nat.eq_zero_or_pos a with z|z
  ·rcases Nat.eq_zero_or_pos b with y|y
   ·omega
   ·rw[z,Nat.sub_zero,Nat.mod_self,Nat.mod_eq_of_lt (by omega)] at e3;omega
  ·rcases Nat.eq_zero_or_pos b with y|y
   ·rw[y,Nat.sub_zero,Nat.mod_self,Nat.mod_eq_of_lt (by omega)] at e3;omega
   ·rw[Nat.mod_eq_of_lt (by omega),Nat.mod_eq_of_lt (by omega)] at e3;omega
 ·obtain ⟨j,hj,rfl⟩:=List.mem_map.1 hx
  have hj:=List.mem_range.1 hj
  have h1:=Nat.mod_lt (c.length-j) hpos
  rw[hback j hj]
  exact bA (by omega) (by omega)
theorem oH (hl:aP l): ∀k:Nat,k≤(bT (lfL l)).length→((fB (eH l) k).map (tw (eH l))).Perm (((((bT (lfL l)).reverse).take k).flatten).map (U l))
 |0,_=> .refl _
 | k+1,hk=>by
  have ih:=oH hl k (by omega)
  have hlt:k<(bT (lfL l)).reverse.length:=by rw[List.length_reverse];omega
  rw[fB,List.map_append,List.take_add_one,List.getElem?_eq_getElem hlt,List.flatten_append,List.map_append]
  refine ih.append ?_
  simp only[Option.toList_some,List.flatten_cons,List.flatten_nil,List.append_nil]
  have hmem:(bT (lfL l)).reverse[k]∈bT (lfL l):=List.mem_reverse.1 (List.getElem_mem hlt)
  have hrw:rdl (eH l) (k:Int)=fQ l (bT (lfL l)).reverse[k]:=by
   unfold rdl eH
   rw[Int.toNat_natCast,List.getD_eq_getElem?_getD,List.getElem?_map,List.getElem?_eq_getElem hlt]
   rfl
  generalize (bT (lfL l)).reverse[k]=c at hmem hrw
  obtain⟨i,hi,r,_⟩:=pM hl hmem
  have h1:=(xP hl hi.1 hi.2 r).map (U l)
  refine List.Perm.trans (.of_eq ?_) h1
  rw[hrw,iH]
  unfold turnsOf
  rw[List.map_map,List.map_map]
  refine List.map_congr_left fun j _=> ?_
  show tw (eH l) ((k:Int),(j:Int))=U l (eO l j i)
  rw[aCr,hrw,uG hl hi.1 hi.2 r]
  funext d
  rw[nJ]
theorem rA (hl:aP l) {q:Int} (q0:0≤q) (hq:q<l.length): ∃m:Nat,0<m∧eO l m q=q:=by
 have hp:=rR (iA hl)
 obtain⟨c,hc,hqc⟩:=List.mem_flatten.1 (hp.symm.subset (aO.2 ⟨q0,by rw[iR];exact hq⟩))
 obtain⟨i,hi,r,_⟩:=pM hl hc
 obtain⟨j,hj,e⟩:=List.mem_map.1 ((xP hl hi.1 hi.2 r).symm.subset hqc)
 refine⟨c.length,r.pos,?_⟩
 rw[←e,←iW,Nat.add_comm,iW,uN hl hi.1 hi.2 r]
theorem CG {q:Int} {m:Nat} (h:eO l m q=q): ∀t:Nat,eO l (t*m) q=q
 |0=>by rw[Nat.zero_mul];rfl
 |t+1=>by rw[Nat.succ_mul,iW,CG h t,h]
theorem JV {q:Int} {m t:Nat} (hm:eO l m q=q) (m0:0<m) (t0:0<t):U l q (m*t-1)=rd l q:=by
 have h:=CG hm t
 rw[Nat.mul_comm] at h
 have hpos:0<m*t:=Nat.mul_pos m0 t0
 have h2:=nJ (l:=l) q (m*t-1) 0
 rw[Nat.add_zero,nI] at h2
 rw[←h2]
 have h3:=iW (l:=l) q (m*t-1) 1
 rw[show m*t-1+1=m*t by omega,h] at h3
 rw[show phi l (eO l (m*t-1) q)=eO l 1 (eO l (m*t-1) q) from rfl,←h3]
theorem NI (hl:aP l) {T:List (Int × Int)} (hp:T.Perm (fB (bws (backL l (bT (lfL l)))) (bws (backL l (bT (lfL l)))).length)) (ho:T.Pairwise (tF (bws (backL l (bT (lfL l)))))):T.map (lastB (bws (backL l (bT (lfL l)))))=l:=by
 rw[wF hl] at hp ho ⊢
 have hlen:(eH l).length=(bT (lfL l)).length:=by unfold eH;rw[List.length_map,List.length_reverse]
 have h1:(T.map (tw (eH l))).Perm ((iota l.length).map (U l)):=by
  refine(hp.map _).trans ?_
  rw[hlen]
  refine(oH hl _ (Nat.le_refl _)).trans ?_
  rw[List.take_of_length_le (by rw[List.length_reverse];exact Nat.le_refl _)]
  have hc:=rR (iA hl)
  rw[iR] at hc
  exact(((List.reverse_perm _).flatten).trans hc).map _
 have s1:(T.map (tw (eH l))).Pairwise fun a b=> ¬Lt b a:=List.pairwise_map.2 (ho.imp fun {t u} h hlt=>by
  rcases h with h|h
  ·exact h.asymm hlt
  ·exact hlt.not_eq fun i=>(h.1 i).symm)
 have s2:((iota l.length).map (U l)).Pairwise fun a b=> ¬Lt b a:=List.pairwise_map.2 (List.Pairwise.imp_of_mem (fun {i k} hi hk h=>by
  have hi:=aO.1 hi
  have hk:=aO.1 hk
  exact WG hl hi.1 (Int.le_of_lt h) hk.2) (qE l.length))
 have same:T.map (tw (eH l))=(iota l.length).map (U l):=h1.eq_of_pairwise (fun a b _ _ x y=>by
  rcases IQ a b with z|z|z
  ·exact absurd z y
  ·exact funext z
  ·exact absurd z x) s1 s2
 have hTl:T.length=l.length:=by
  have:=congrArg List.length same
  rwa[List.length_map,List.length_map,aW] at this
 refine bB (by rw[List.length_map];exact hTl) fun q q0 q1=> ?_
 rw[List.length_map] at q1
 rw[XO q0 q1]
 have hv:=qB.1 (hp.subset (gW (l:=T) q0 q1))
 have hU:tw (eH l) (rdp T q)=U l q:=by
  have e1:(T.map (tw (eH l)))[q.toNat]? =some (tw (eH l) (rdp T q)):=by
   rw[List.getElem?_map,List.getElem?_eq_getElem (by omega)]
   unfold rdp
   rw[List.getD_eq_getElem?_getD,List.getElem?_eq_getElem (by omega)]
   rfl
  have e2:((iota l.length).map (U l))[q.toNat]? =some (U l q):=by
   rw[List.getElem?_map,List.getElem?_eq_getElem (by rw[aW];omega)]
   have:=nU (n:=l.length) q0 (by omega)
   rw[dW q0 (by rw[aW];omega)] at this
   rw[this]
   rfl
  rw[same,e2] at e1
  exact(Option.some.inj e1).symm
 obtain⟨m,m0,hm⟩:=rA hl q0 (by omega:q<l.length)
 obtain⟨a1,a2,a3,a4⟩:=hv
 have hw0:0<(rdl (eH l) (rdp T q).1).length:=by omega
 generalize hwl:(rdl (eH l) (rdp T q).1).length=wl at hw0 a4
 have hlast:U l q (m*wl-1)=rd l q:=JV hm m0 hw0
 rw[←hlast,←hU]
 have hpos:0<m*wl:=Nat.mul_pos m0 hw0
 unfold lastB tw rd
 rw[hwl]
 congr 1
 obtain⟨j,hj⟩: ∃j:Nat,(rdp T q).2=j:=⟨(rdp T q).2.toNat,by omega⟩
 rw[hj,Int.toNat_natCast,show(j:Int)+(wl:Int)-1=((j+wl-1:Nat):Int) by omega,←Int.natCast_emod,Int.toNat_natCast]
 have e:j+(m*wl-1)=(j+wl-1)+wl*(m-1):=by
  obtain⟨m',rfl⟩: ∃m',m=m'+1:=⟨m-1,by omega⟩
  rw[Nat.succ_mul,Nat.add_sub_cancel,Nat.mul_comm wl m']
  omega
 rw[e,Nat.add_mul_mod_self_left]
end
def MP:List Int:=(List.range 256).map fun c:Nat=>(c:Int)
theorem xX {x:Int}:x∈MP↔0≤x∧x<256:=by
 unfold MP
 rw[List.mem_map]
 constructor
 ·rintro ⟨c,hc,rfl⟩
  have:=List.mem_range.1 hc
  omega
 ·intro h
  exact⟨x.toNat,List.mem_range.2 (by omega),by omega⟩
theorem FC:MP.Nodup:=List.pairwise_map.2 (List.Pairwise.imp (fun h e=>h (by omega)) List.nodup_range)
def AC:Nat→List (List Int)
 |0=>[[]]
 |n+1=>MP.flatMap fun c=>(AC n).map fun w=>c::w
theorem iY: ∀ {n:Nat} {w:List Int},w∈AC n↔w.length=n∧aP w
 |0,w=>by
  rw[AC,List.mem_singleton]
  exact⟨fun h=>by subst h;exact⟨rfl,fun x hx=>by cases hx⟩,fun h=>List.eq_nil_of_length_eq_zero h.1⟩
 | n+1,w=>by
  rw[AC,List.mem_flatMap]
  constructor
  ·rintro ⟨c,hc,hw⟩
   obtain⟨v,hv,rfl⟩:=List.mem_map.1 hw
   have hv:=iY.1 hv
   refine⟨by simp[hv.1],fun x hx=> ?_⟩
   rcases List.mem_cons.1 hx with rfl|hx
   ·exact xX.1 hc
   ·exact hv.2 x hx
  ·rintro ⟨hl,hb⟩
   cases w with
   |nil=>simp at hl
   |cons c v=>exact⟨c,xX.2 (hb c (by simp)),List.mem_map.2 ⟨v,iY.2 ⟨by simpa using hl,fun x hx=>hb x (List.mem_cons_of_mem _ hx)⟩,rfl⟩⟩
theorem wJ: ∀n:Nat,(AC n).Nodup
 |0=>by rw[AC];exact List.pairwise_singleton _ _
 |n+1=>by
  rw[AC]
  refine List.pairwise_flatMap.2 ⟨fun c _=>List.pairwise_map.2 ((wJ n).imp fun h e=>h (List.cons.inj e).2),FC.imp fun {c d} h x hx y hy e=> ?_⟩
  obtain⟨v,_,rfl⟩:=List.mem_map.1 hx
  obtain⟨w,_,rfl⟩:=List.mem_map.1 hy
  exact h (List.cons.inj e).1
theorem VZ {l k:List Int} (hl:aP l) (hk:aP k) (hlen:l.length=k.length) (h:backL l (bT (lfL l))=backL k (bT (lfL k))):l=k:=by
 have hw:eH l=eH k:=by rw[←wF hl,←wF hk,h]
 have all: ∀ {x:List Int},aP x→((fB (eH x) (eH x).length).map (tw (eH x))).Perm ((iota x.length).map (U x)):=fun {x} hx=>by
  have hlx:(eH x).length=(bT (lfL x)).length:=by unfold eH;rw[List.length_map,List.length_reverse]
  rw[hlx]
  refine(oH hx _ (Nat.le_refl _)).trans ?_
  rw[List.take_of_length_le (by rw[List.length_reverse];exact Nat.le_refl _)]
  have hc:=rR (iA hx)
  rw[iR] at hc
  exact(((List.reverse_perm _).flatten).trans hc).map _
 have srt: ∀ {x:List Int},aP x→((iota x.length).map (U x)).Pairwise fun a b=> ¬Lt b a:=fun {x} hx=>List.pairwise_map.2 (List.Pairwise.imp_of_mem (fun {i k} hi hk h=>by
  have hi:=aO.1 hi
  have hk:=aO.1 hk
  exact WG hx hi.1 (Int.le_of_lt h) hk.2) (qE x.length))
 have h1:=all hl
 rw[hw] at h1
 have same:(iota l.length).map (U l)=(iota k.length).map (U k):=(h1.symm.trans (all hk)).eq_of_pairwise (fun a b _ _ x y=>by
  rcases IQ a b with z|z|z
  ·exact absurd z y
  ·exact funext z
  ·exact absurd z x) (srt hl) (srt hk)
 refine bB hlen fun q q0 q1=> ?_
 have at_: ∀ {x:List Int},q<x.length→((iota x.length).map (U x))[q.toNat]? =some (U x q):=fun {x} hx=>by
  rw[List.getElem?_map,List.getElem?_eq_getElem (by rw[aW];omega)]
  have:=nU (n:=x.length) q0 hx
  rw[dW q0 (by rw[aW];omega)] at this
  rw[this]
  rfl
 have e:=at_ q1
 rw[same,at_ (by omega)] at e
 have eU:U k q=U l q:=Option.some.inj e
 obtain⟨m,m0,hm⟩:=rA hl q0 q1
 obtain⟨m',m0',hm'⟩:=rA hk q0 (by omega:q<k.length)
 have a:=JV hm m0 m0'
 have b:=JV hm' m0' m0
 rw[Nat.mul_comm,eU,a] at b
 exact b
theorem PY {s:List Int} (hs:aP s): ∃l:List Int,aP l∧l.length=s.length∧backL l (bT (lfL l))=s:=by
 have hp:((AC s.length).map fun l=>backL l (bT (lfL l))).Perm (AC s.length):=by
  refine jX ?_ (fun x hx=> ?_) (by simp)
  ·refine List.pairwise_map.2 (List.Pairwise.imp_of_mem (fun {a b} ha hb hab e=> ?_) (wJ _))
   have ha:=iY.1 ha
   have hb:=iY.1 hb
   exact hab (VZ ha.2 hb.2 (by omega) e)
  ·obtain ⟨l,hl,rfl⟩:=List.mem_map.1 hx
   have hl:=iY.1 hl
   exact iY.2 ⟨by rw[PZ,EQ (iA hl.2),iR,hl.1],QA hl.2 _⟩
 obtain⟨l,hl,e⟩:=List.mem_map.1 (hp.symm.subset (iY.2 ⟨rfl,hs⟩))
 have hl:=iY.1 hl
 exact⟨l,hl.2,hl.1,e⟩
theorem PX {s:List Int} (hs:aP s) {T:List (Int × Int)} (hp:T.Perm (fB (bws s) (bws s).length)) (ho:T.Pairwise (tF (bws s))):backL (T.map (lastB (bws s))) (bT (lfL (T.map (lastB (bws s)))))=s:=by
 obtain⟨l,hl,_,e⟩:=PY hs
 subst e
 rw[NI hl hp ho]
end Go.Pure

namespace Go.Pure
open Go Go.Eng
noncomputable def restC (t o:Int) (n:Nat) (u:List Int) (k:Nat):List Int:=
 (((List.range (chK u.length n)).drop k).map fun j=>VX t o ((u.drop (j*n)).take n)).flatten++(jD 0++jD u.length)
theorem aP.back {x y:List Int} (h:aP (x++y)):aP y:=fun z hz=>h z (List.mem_append_right _ hz)
def chkL (w:List Int) (n k:Nat):List Int:=(w.drop (k*n)).take n
noncomputable def aFu (t o:Int) (b r:List Int):List Int:=(xC t b).1++(jD (LB (xC t b).2 o).length++(ZY (bv (aEk b))++(LB (xC t b).2 o++r)))
end Go.Pure

namespace Go.Proofs.YtdbebmmhdefgdaaGreat
open Go Go.Eng Go.Pure
set_option linter.unusedVariables false
set_option maxRecDepth 100000
end Go.Proofs.YtdbebmmhdefgdaaGreat

namespace Go.Eng
open Go Go.RowKit Go.Pure
section
variable {P:Program} {n:Nd} {B:Nat} {w0:World} {L:Env} {R:List Row} {ty:TypeId}
def CellIs (L:Env) (R:List Row) (p sz:Nat) (xs:List Value):Prop:= ∃(g i:Nat) (r:Row),lk L p=some (.pointer (some ⟨g,0,none⟩))∧R[i]? =some r∧r.ro=false∧r.A=some ⟨g,0,none⟩∧r.n=1∧r.c=1∧r.sz=sz∧r.xs=xs
theorem CellIs.load {m:Nat} {p sz:Nat} {xs:List Value} {a:Act} {w:World} (h:CellIs L R p sz xs) (hs:Sat (m:Nd) L a) (hp:Hp B w0 w R): ∃g e,a.tmps[p]?.getD undef= .pointer (some ⟨g,0,none⟩)∧w.heap[g]? =some (.cells xs.toArray e (0,0))∧xs.length=sz:=by
 obtain⟨g,i,r,h1,h2,h3,h4,h5,h6,h7,h8⟩:=h
 have hown:=Row.lies_w (hp.own r (List.mem_of_getElem? h2)) h3
 rcases hown.2 with⟨hn,_⟩|⟨g',cap,cur,hv,_,hg,_,_,hcs,ht⟩
 ·rw[h4] at hn;cases hn
 ·rw [h4] at hv
  simp only[Value.slice.injEq,Option.some.injEq,Addr.mk.injEq,and_true,true_and] at hv
  obtain⟨rfl,rfl⟩:=hv
  rw[h5,h7,Nat.one_mul] at ht
  rw[h6,h7,Nat.one_mul] at hcs
  have e:cur=r.xs.toArray:=by
   rw[←ht,List.take_of_length_le (by rw[Array.length_toList];omega)]
  rw[h8] at e
  subst e
  exact⟨g,_,by have:=hs.getD h1;simpa using this,hg,by simpa using hcs⟩
end
end Go.Eng

namespace Go.Proofs.YtdbebmmhdefgdaaGreat
open Go Go.Eng Go.Pure
set_option linter.unusedVariables false
set_option maxRecDepth 100000
end Go.Proofs.YtdbebmmhdefgdaaGreat

namespace Go.Proofs.YtdbebmmhdefgdaaGreat
open Go Go.Eng Go.RowKit Go.Shelf Go.Proofs
attribute [local go_sem] Oper.semAt_some
def chN (m n:Nat):Nat:=(m+n-1)/n
end Go.Proofs.YtdbebmmhdefgdaaGreat

namespace Go.Proofs.YtdbebmmhdefgdaaGreat
open Go Go.Eng Go.Pure
set_option linter.unusedVariables false
set_option maxRecDepth 100000
end Go.Proofs.YtdbebmmhdefgdaaGreat

namespace Go.Eng
open Go Go.RowKit Go.Pure
theorem Hp.shrinkP {B:Nat} {w0 w:World} {R:List Row} {e m c:Nat} {A:Option Addr} {l:List (Int × Int)} (h:Hp B w0 w (⟨e,2,A,m,c,prs l,false⟩::R)) {k:Nat} (hk:k<m):Hp B w0 w (⟨e,2,A,k,c,prs (l.take k),false⟩::R):=by
 have hA:A≠none:=by
  rintro rfl
  have h1:=Row.lies_w (h.own _ (.head _)) rfl
  rcases h1.2 with⟨_,hn⟩|⟨g,cap,cur,hv,_⟩
  ·simp only at hn;omega
  ·simp at hv
 have:=h.cut (k:=k) (by omega) hA
 rwa[SS] at this
theorem Hp.dropLast {B:Nat} {w0 w:World} {R:List Row} {e m c:Nat} {A:Option Addr} {l:List (Int × Int)} {x:Int × Int} (h:Hp B w0 w (⟨e,2,A,m,c,prs (l++[x]),false⟩::R)) (hm:m=l.length+1):Hp B w0 w (⟨e,2,A,l.length,c,prs l,false⟩::R):=by
 have:=h.shrinkP (k:=l.length) (by omega)
 rwa[List.take_left] at this
theorem jV (l:List (Int × Int)) (m:Int × Int):rdp (l++[m]) (l.length:Int)=m:=by
 unfold rdp
 rw[Int.toNat_natCast,List.getD_eq_getElem?_getD,List.getElem?_append_right (Nat.le_refl _),Nat.sub_self]
 rfl
theorem pE {P:Program} {n:Nd} {B:Nat} {w0:World} {L:Env} {R:List Row} {ty:TypeId} {x:Operand} {t tf:TypeId} {fs:Array Field} {k st off m c:Nat} {A:Option Addr} {i:Int} {l:List (Int × Int)} (hu:P.underlying t=some (.struct fs)) (hf:(fs[k]?).map (fun f=>(f.offset,f.type))=some (off,tf)) (hst:(P.info? tf).map (·.size)=some st) (hs0:Nat.blt 0 st=true)
  (hx:ev L x=some (.pointer (pat A (i.toNat*2)))) (hr:RdC B w0 R A m c 2 (prs l)) (h0:0≤i) (h1:i<l.length):Yl P n B w0 (.fieldAddr t x k) ty L R (.pointer (pat A (i.toNat*2+off))):=by
 obtain⟨f,hf',he⟩:=Option.map_eq_some_iff.1 hf
 simp only[Prod.mk.injEq] at he
 obtain⟨rfl,rfl⟩:=he
 intro a w o ho hty hs hp
 obtain⟨a0,rfl,_⟩:=(hr w hp).at_ _ _ (KU h0 h1)
 have:=rY (P:=P) (n:=n) (B:=B) (w0:=w0) (R:=R) (ty:=ty) hu hf' hst hs0 (show ev L x=some (.pointer (some (a0.add (i.toNat*2)))) from hx) a w o ho hty hs hp
 rw[add_add] at this
 exact this
end Go.Eng

namespace Go.Proofs.YtdbebmmhdefgdaaGreat
open Go Go.Eng Go.Pure
open Tryz
set_option linter.unusedVariables false
set_option maxRecDepth 100000 in
theorem vH {w:World}:
  Ct Tryz.prog 29 #[] w.heap.size w [] (fun v R'=> ∃g,v= .pointer (some ⟨g,0,none⟩)∧R'=[⟨102,2,(some ⟨g,0,none⟩),1,1,[.slice none 0 0, .slice none 0 0],false⟩,⟨5,1,none,0,0,ints .u8 ([]),false⟩,⟨106,2,none,0,0,prs ([]),false⟩]):=by
 refine fn1 Tryz.func29 rfl rfl rfl ?_
 refine wq<|wg rfl<|aA<|wq<|wy (bS (v:= .agg #[.slice none 0 0, .slice none 0 0]) rfl (fun w=>by kernel_rfl))<|wa (dZ (sz:=2) rfl rfl) ?_
 rintro _ _ ⟨g_1,rfl,rfl⟩
 refine eY (R1:=[⟨102,2,(some ⟨g_1,0,none⟩),1,1,[.slice none 0 0, .slice none 0 0],false⟩,⟨5,1,none,0,0,ints .u8 ([]),false⟩,⟨106,2,none,0,0,prs ([]),false⟩]) (Sub.refl _) (fun _ h=>((h.nilP 106).nil 5 1).sel [2,0,1] (by decide) rfl)<|wg rfl<|aA<|iI (R1:=[⟨102,2,(some ⟨g_1,0,none⟩),1,1,[.slice none 0 0, .slice none 0 0],false⟩,⟨5,1,none,0,0,ints .u8 ([]),false⟩,⟨106,2,none,0,0,prs ([]),false⟩]) (fun _ h=>h) ?_
 refine⟨_,rfl,?_⟩
 exact⟨_,rfl,rfl⟩
set_option maxRecDepth 100000 in
theorem rJ {B:Nat} {w0:World} {R:List Row} {g:Nat} {At Ap A2:Option Addr} {nt ct np cp n2 c2:Nat} {l:List (Int × Int)} {k at_:Int} (hnp:np=l.length) (hl:l.length≤1000000):
  Ct Tryz.prog 59 #[.pointer (some ⟨g,0,none⟩), .slice A2 n2 c2, .agg #[.int .i64 k, .int .i64 at_]] B w0 (⟨102,2,(some ⟨g,0,none⟩),1,1,[.slice At nt ct, .slice Ap np cp],false⟩::⟨106,2,Ap,np,cp,prs l,false⟩::R) (fun v R'=> ∃(A7:Option Addr) (c7:Nat),v= .int .i64 0∧R'=⟨102,2,(some ⟨g,0,none⟩),1,1,[.slice A2 n2 c2, .slice A7 ((l++[(k,at_)]).length) c7],false⟩::⟨106,2,A7,(l++[(k,at_)]).length,c7,prs (l++[(k,at_)]),false⟩::R):=by
 subst hnp
 refine fn1 Tryz.func59 rfl rfl rfl ?_
 refine wq<|wa (dZ (sz:=2) rfl rfl) ?_
 rintro _ _ ⟨g_1,rfl,rfl⟩
 refine wg rfl<|aA<|wq<|wm rfl<|wm rfl<|wy (aH rfl)<|wy (aG (off:=0) (m:=0) underlying102 rfl jC rfl rfl rfl)<|dK (bQ 1 rfl rfl rfl jC rfl rfl rfl rfl (Nat.le_of_ble_eq_true rfl)) ?_
 rintro _ _ rfl
 refine aA<|aF<|dQ mixed<|bH 0 rfl (by kernel_rfl) rfl (aJ rfl)<|bH 1 rfl (by kernel_rfl) rfl (aJ rfl)<|bH 2 rfl (by kernel_rfl) rfl (aH rfl)<|bH 3 rfl (by kernel_rfl) rfl (aG (off:=1) (m:=1) underlying102 rfl eG rfl rfl rfl)<|bH 4 rfl (by kernel_rfl) rfl (aK (rdR 1 (r:=⟨102,2,(some ⟨g,0,none⟩),1,1,[.slice A2 n2 c2, .slice Ap l.length cp],false⟩) rfl) underlying100 rfl rfl rfl)<|bH 5 rfl (by kernel_rfl) rfl (iP (vs:=[.int .i64 k, .int .i64 at_]) (rdR 0 (r:=⟨106,2,(some ⟨g_1,0,none⟩),1,1,[.int .i64 k, .int .i64 at_],false⟩) rfl) underlying106 rfl iV rfl rfl (Nat.le_of_ble_eq_true rfl) rfl)<|kF 6 rfl (by kernel_rfl) rfl (WE underlying100 aCk rfl) ?_
 rintro _ _ ⟨g_3,rfl,rfl⟩
 refine⟨.inr fun _ h=>h.right (R':=[_]),?_⟩
 refine kF 7 rfl (by kernel_rfl) rfl (rV 3 rfl underlying100 aCl rfl rfl rfl rfl (rdr 0 rfl) (by omega)) ?_
 rintro _ _ ⟨A_4,c_5,rfl,rfl⟩
 refine⟨.inl (by kernel_rfl),?_⟩
 refine QJ (v:= .slice A_4 (l.length+1) c_5) rfl<|bH 8 rfl (by kernel_rfl) rfl (aH rfl)<|bH 9 rfl (by kernel_rfl) rfl (aG (off:=1) (m:=1) underlying102 rfl eG rfl rfl rfl)<|sV 10 rfl (by kernel_rfl) (bQ 2 rfl rfl rfl eG rfl rfl rfl rfl (Nat.le_of_ble_eq_true rfl)) ?_
 rintro _ _ rfl
 refine⟨.inl (by kernel_rfl),?_⟩
 refine dD (by kernel_rfl)<|wq<|wg rfl<|aA<|aY [2,3] 4 (by decide) rfl ?_
 refine⟨_,rfl,?_⟩
 have e:l.length+1=(l++[(k,at_)]).length:=by rw[List.length_append];rfl
 rw[e]
 exact⟨_,_,rfl,rfl⟩
set_option maxRecDepth 100000 in
theorem BG {B:Nat} {w0:World} {R:List Row} {g:Nat} {At Ap:Option Addr} {nt ct np cp:Nat} {s:List Int} {l:List (Int × Int)} (hnt:nt=s.length) (hnp:np=l.length) (bh_s:aP s) (hN:s.length≤100000) (hl:l.length≤1000):
  Ct Tryz.prog 58 #[.pointer (some ⟨g,0,none⟩), .int .i64 1] B w0 (⟨102,2,(some ⟨g,0,none⟩),1,1,[.slice At nt ct, .slice Ap np cp],false⟩::⟨5,1,At,nt,ct,ints .u8 s,false⟩::⟨106,2,Ap,np,cp,prs l,false⟩::R) (fun v R'=> ∃b:List Int,(b.Perm (iota s.length)∧b.Pairwise (bI s))∧ ∃(A8:Option Addr) (c8:Nat) (A7:Option Addr) (c7:Nat),v= .int .i64 0∧R'=⟨102,2,(some ⟨g,0,none⟩),1,1,[.slice A8 ((ofL s b).length) c8, .slice A7 ((l++[(0,zat b)]).length) c7],false⟩::⟨5,1,A8,(ofL s b).length,c8,ints .u8 (ofL s b),false⟩::⟨106,2,A7,(l++[(0,zat b)]).length,c7,prs (l++[(0,zat b)]),false⟩::R):=by
 subst hnt
 subst hnp
 refine fn1 Tryz.func58 rfl rfl rfl ?_
 refine wq<|wg rfl<|aA<|aF<|wq<|wm rfl<|aA<|aI<|wq<|wy (Yl.t (bC rfl rfl) (by decide))<|wg rfl<|aA ?_
 refine dN rfl<|wq<|wm rfl<|wy (aH rfl)<|wy (aG (off:=0) (m:=0) underlying102 rfl jC rfl rfl rfl)<|wy (aK (rdR 0 (r:=⟨102,2,(some ⟨g,0,none⟩),1,1,[.slice At s.length ct, .slice Ap l.length cp],false⟩) rfl) underlying22 rfl rfl rfl)<|wa (aC aEi rfl (Ct.fresh (fun w hw=>VV ((rdr 1 rfl) w hw) bh_s hN))) ?_
 rintro _ _ ⟨_,rfl,a1,A_1,c_2,rfl,hp_a1,hs_a1,rfl⟩
 refine wm rfl<|wX rfl rfl<|wX rfl rfl<|wX rfl rfl<|wg rfl<|wg rfl<|wg rfl<|aA<|wq<|wm rfl<|wm rfl<|wm rfl<|wy (bS (v:= .agg #[.int .i64 0, .int .i64 (zat a1)]) rfl (fun w=>by kernel_rfl))<|wa (aC aBt rfl (Ct.pick [1,3,0,2] 4 (by decide) rfl (rJ rfl (by omega)))) ?_
 rintro _ _ ⟨A_4,c_5,rfl,rfl⟩
 refine wg rfl<|aA<|aY [0,2,1] 4 (by decide) rfl ?_
 refine⟨_,rfl,?_⟩
 exact⟨a1,⟨hp_a1,hs_a1⟩,_,_,_,_,rfl,rfl⟩
set_option maxRecDepth 100000 in
theorem BF {B:Nat} {w0:World} {R:List Row} {g:Nat} {At Ap:Option Addr} {nt ct np cp:Nat} {s:List Int} {l:List (Int × Int)} (hnt:nt=s.length) (hnp:np=l.length) (bh_s:aP s) (hN:s.length≤100000) (hl:l.length≤1000):
  Ct Tryz.prog 58 #[.pointer (some ⟨g,0,none⟩), .int .i64 2] B w0 (⟨102,2,(some ⟨g,0,none⟩),1,1,[.slice At nt ct, .slice Ap np cp],false⟩::⟨5,1,At,nt,ct,ints .u8 s,false⟩::⟨106,2,Ap,np,cp,prs l,false⟩::R) (fun v R'=> ∃T:List (Int × Int),(T.Perm (fB (bws s) (bws s).length)∧T.Pairwise (tF (bws s)))∧ ∃(A8:Option Addr) (c8:Nat) (A7:Option Addr) (c7:Nat),v= .int .i64 0∧R'=⟨102,2,(some ⟨g,0,none⟩),1,1,[.slice A8 T.length c8, .slice A7 ((l++[(1,0)]).length) c7],false⟩::⟨5,1,A8,T.length,c8,ints .u8 (T.map (lastB (bws s))),false⟩::⟨106,2,A7,(l++[(1,0)]).length,c7,prs (l++[(1,0)]),false⟩::R):=by
 subst hnt
 subst hnp
 refine fn1 Tryz.func58 rfl rfl rfl ?_
 refine wq<|wg rfl<|aA<|aF<|wq<|wm rfl<|aA<|aI<|wq<|wy (Yl.f (bC rfl rfl) (by decide))<|wg rfl<|aA ?_
 refine aL rfl<|wq<|wy (Yl.t (bC rfl rfl) (by decide))<|wg rfl<|aA<|dN rfl<|wq<|wm rfl<|wy (aH rfl)<|wy (aG (off:=0) (m:=0) underlying102 rfl jC rfl rfl rfl)<|wy (aK (rdR 0 (r:=⟨102,2,(some ⟨g,0,none⟩),1,1,[.slice At s.length ct, .slice Ap l.length cp],false⟩) rfl) underlying22 rfl rfl rfl)<|wa (aC aEh rfl (Ct.fresh (fun w hw=>JP ((rdr 1 rfl) w hw) bh_s hN))) ?_
 rintro _ _ ⟨_,rfl,l1,A_1,c_2,rfl,hpt_l1,hst_l1,rfl⟩
 refine wm rfl<|wX rfl rfl<|wX rfl rfl<|wg rfl<|wg rfl<|aA<|wq<|wm rfl<|wm rfl<|wy (bS (v:= .agg #[.int .i64 1, .int .i64 0]) rfl (fun w=>by kernel_rfl))<|wa (aC aBt rfl (Ct.pick [1,3,0,2] 4 (by decide) rfl (rJ rfl (by omega)))) ?_
 rintro _ _ ⟨A_4,c_5,rfl,rfl⟩
 refine wg rfl<|aA<|aY [0,2,1] 4 (by decide) rfl ?_
 refine⟨_,rfl,?_⟩
 exact⟨l1,⟨hpt_l1,hst_l1⟩,_,_,_,_,rfl,rfl⟩
set_option maxRecDepth 100000 in
theorem lV {B:Nat} {w0:World} {R:List Row} {g:Nat} {At Ap:Option Addr} {nt ct np cp:Nat} {s:List Int} {l:List (Int × Int)} (hnt:nt=s.length) (hnp:np=l.length):
  Ct Tryz.prog 33 #[.pointer (some ⟨g,0,none⟩)] B w0 (⟨102,2,(some ⟨g,0,none⟩),1,1,[.slice At nt ct, .slice Ap np cp],false⟩::⟨5,1,At,nt,ct,ints .u8 s,false⟩::⟨106,2,Ap,np,cp,prs l,false⟩::R) (fun v R'=>v= .int .i64 ((l.length:Nat):Int)∧R'=⟨102,2,(some ⟨g,0,none⟩),1,1,[.slice At nt ct, .slice Ap np cp],false⟩::⟨5,1,At,nt,ct,ints .u8 s,false⟩::⟨106,2,Ap,np,cp,prs l,false⟩::R):=by
 subst hnt
 subst hnp
 refine fn1 Tryz.func33 rfl rfl rfl ?_
 refine wq<|wg rfl<|aA<|aF<|wq<|wm rfl<|wy (dJ underlying49 rfl rfl)<|aA<|aL rfl<|aM<|wq<|wm rfl ?_
 refine wy (aH rfl)<|wy (aG (off:=1) (m:=1) underlying102 rfl eG rfl rfl rfl)<|wy (aK (rdR 0 (r:=⟨102,2,(some ⟨g,0,none⟩),1,1,[.slice At s.length ct, .slice Ap l.length cp],false⟩) rfl) underlying100 rfl rfl rfl)<|wy (aV underlying100 rfl)<|wg rfl<|aA<|iI (R1:=(⟨102,2,(some ⟨g,0,none⟩),1,1,[.slice At s.length ct, .slice Ap l.length cp],false⟩::⟨5,1,At,s.length,ct,ints .u8 s,false⟩::⟨106,2,Ap,l.length,cp,prs l,false⟩::R)) (fun _ h=>h) ?_
 refine⟨_,rfl,?_⟩
 exact⟨rfl,rfl⟩
set_option maxRecDepth 100000 in
theorem jK {B:Nat} {w0:World} {R:List Row} {g:Nat} {At Ap:Option Addr} {nt ct np cp:Nat} {s:List Int} {l:List (Int × Int)} (hnt:nt=s.length) (hnp:np=l.length) (hN:s.length≤1000000):
  Ct Tryz.prog 32 #[.pointer (some ⟨g,0,none⟩)] B w0 (⟨102,2,(some ⟨g,0,none⟩),1,1,[.slice At nt ct, .slice Ap np cp],false⟩::⟨5,1,At,nt,ct,ints .u8 s,false⟩::⟨106,2,Ap,np,cp,prs l,false⟩::R) (fun v R'=> ∃(A9:Option Addr) (c9:Nat),v= .slice A9 s.length c9∧R'=⟨5,1,A9,s.length,c9,ints .u8 s,false⟩::⟨102,2,(some ⟨g,0,none⟩),1,1,[.slice At nt ct, .slice Ap np cp],false⟩::⟨5,1,At,nt,ct,ints .u8 s,false⟩::⟨106,2,Ap,np,cp,prs l,false⟩::R):=by
 subst hnt
 subst hnp
 refine fn1 Tryz.func32 rfl rfl rfl ?_
 refine wq<|wg rfl<|aA<|aF<|wq<|wm rfl<|wy (dJ underlying49 rfl rfl)<|aA<|aL rfl<|aM<|wq<|wm rfl ?_
 refine wy (aH rfl)<|wy (aG (off:=0) (m:=0) underlying102 rfl jC rfl rfl rfl)<|wy (aK (rdR 0 (r:=⟨102,2,(some ⟨g,0,none⟩),1,1,[.slice At s.length ct, .slice Ap l.length cp],false⟩) rfl) underlying22 rfl rfl rfl)<|wa (aC aDb rfl (Ct.fresh (fun w hw=>yL ((rdr 1 rfl) w hw) hN))) ?_
 rintro _ _ ⟨_,rfl,A_1,c_2,rfl,rfl⟩
 refine wg rfl<|aA<|iI (R1:=(⟨5,1,A_1,s.length,c_2,ints .u8 s,false⟩::⟨102,2,(some ⟨g,0,none⟩),1,1,[.slice At s.length ct, .slice Ap l.length cp],false⟩::⟨5,1,At,s.length,ct,ints .u8 s,false⟩::⟨106,2,Ap,l.length,cp,prs l,false⟩::R)) (fun _ h=>h) ?_
 refine⟨_,rfl,?_⟩
 exact⟨_,_,rfl,rfl⟩
open Tryz
set_option linter.unusedVariables false
set_option maxRecDepth 100000 in
theorem OU {w:World} {A_s:Option Addr} {n_s c_s:Nat} {s:List Int} {x:Int} (h_s:Rd w A_s n_s c_s 1 (ints .i64 s)) (hN:s.length≤1000000):
  Ct Tryz.prog 181 #[.slice A_s n_s c_s, .int .i64 x] w.heap.size w [] (fun v R'=> ∃j:Int,v= .int .i64 j∧(0≤j↔x∈s)):=by
 obtain rfl:=h_s.lenI
 refine fn1 Tryz.func181 rfl rfl rfl ?_
 have m_s:=h_s.max
 refine wq<|wg rfl<|aA<|aF<|wq<|wm rfl<|wy (aV underlying52 rfl)<|wm rfl<|aA<|aI ?_
 refine yS (fun(i:Int)=>[(0, .slice A_s s.length c_s),(1, .int .i64 x),(7, .int .i64 ((s.length:Nat):Int)),(8, .int .i64 i)]) (fun(i:Int)=>[]) (fun(i:Int)=>(0≤i)∧(i≤s.length)∧(∀q:Int,0≤q→q<i→rd s q≠x)) (fun(i:Int)=>(s.length-i).toNat) ?_ ?_
 ·exact⟨0,⟨(by omega),(by omega),(fun q h1 h2=>by omega)⟩,(sc rfl (sc rfl (sc rfl (sc rfl Sub.nil)))),fun _ h=>h⟩
 intro i ⟨hi0,hi1,hn⟩
 refine wq<|wL rfl rfl<|aA<|aF<|bR rfl (fun hc1=> ?_) (fun hc1=> ?_)
 ·refine aM<|aF<|aI<|wq<|wm rfl<|wg rfl<|aA<|wq<|wm rfl<|wm rfl<|wm rfl<|wy (aB underlying52 sz3 rfl rfl (h_s.c _) (by omega) (by omega))<|wy (aZ underlying3 rfl rfl (h_s.c _) (by omega) (by omega)) ?_
  refine wy (bC rfl rfl)<|aA<|bR rfl (fun hc2=> ?_) (fun hc2=> ?_)
  ·refine wq<|wm rfl<|wg rfl<|aA<|fC ?_
   refine⟨_,rfl,?_⟩
   exact⟨i,rfl,⟨fun _=>by rw[(by assumption:x=rd s i)];exact bA hi0 (by omega),fun _=>hi0⟩⟩
  ·refine aM<|aN<|wA rfl rfl<|wm rfl<|aA ?_
   exact⟨i+1,⟨(by omega),(by omega),(fun q h1 h2 e=>by
     rcases Int.lt_or_le q i with h|h
     ·exact hn q h1 h e
     ·obtain rfl:q=i:=by omega
      exact absurd e.symm (by assumption))⟩,(by omega),(sc rfl (sc rfl (sc rfl (sc rfl Sub.nil)))),fun _ h=>h⟩
 ·refine bF<|wq<|wg rfl<|aA<|fC ?_
  refine⟨_,rfl,?_⟩
  exact⟨-1,rfl,⟨fun h=>absurd h (by decide),fun hm=>absurd (IC hm) (hn _ (lS hm).1 (by have:=(lS hm).2;omega))⟩⟩
set_option maxRecDepth 100000 in
theorem jH {w:World} {A_s:Option Addr} {n_s c_s:Nat} {s:List Int} {x:Int} (h_s:Rd w A_s n_s c_s 1 (ints .i64 s)) (hN:s.length≤1000000):
  Ct Tryz.prog 108 #[.slice A_s n_s c_s, .int .i64 x] w.heap.size w [] (fun v R'=>v= .bool (decide (x∈s))):=by
 obtain rfl:=h_s.lenI
 refine fn1 Tryz.func108 rfl rfl rfl ?_
 have m_s:=h_s.max
 refine wq<|wg rfl<|aA<|wq<|wm rfl<|wm rfl<|wa (aC aDw rfl (Ct.quiet (fun w hw=>OU ((h_s.c _) w hw) hN))) ?_
 rintro _ _ ⟨rfl,jx,rfl,hjx⟩
 refine wy (yQ rfl rfl)<|wg rfl<|aA<|fC ?_
 refine⟨_,rfl,?_⟩
 exact congrArg Value.bool (decide_eq_decide.2 hjx)
set_option maxRecDepth 100000 in
set_option maxHeartbeats 1000000 in
theorem BC {B:Nat} {w0:World} {R:List Row} {g:Nat} {At Ap A_k:Option Addr} {nt ct np cp n_k c_k:Nat} {s ks:List Int} {l:List (Int × Int)} {at_:Int} {s0:List Int} (hnt:nt=s.length) (hk_:RdC B w0 R A_k n_k c_k 1 (ints .i64 ks)) (hnk:n_k=ks.length) (hnp:np=(l++[(0,at_)]).length) (hin:(0:Int)∈ks) (hl:l.length≤1000∧ks.length≤10) (bh_s:aP s) (hN:s.length≤100000) (hok:ZJ s at_) (hb:jA s at_=s0):
  Ct Tryz.prog 62 #[.pointer (some ⟨g,0,none⟩), .slice A_k n_k c_k] B w0 (⟨102,2,(some ⟨g,0,none⟩),1,1,[.slice At nt ct, .slice Ap ((l++[(0,at_)]).length) cp],false⟩::⟨5,1,At,nt,ct,ints .u8 s,false⟩::⟨106,2,Ap,np,cp,prs (l++[(0,at_)]),false⟩::R) (fun v R'=> ∃(A8:Option Addr) (c8:Nat),v= .int .i64 0∧R'=⟨102,2,(some ⟨g,0,none⟩),1,1,[.slice A8 s0.length c8, .slice Ap l.length cp],false⟩::⟨5,1,A8,s0.length,c8,ints .u8 s0,false⟩::⟨106,2,Ap,l.length,cp,prs l,false⟩::R):=by
 subst hnt
 subst hnp
 subst hnk
 have hll:(l++[((0:Int),at_)]).length=l.length+1:=by rw[List.length_append];rfl
 refine fn1 Tryz.func62 rfl rfl rfl ?_
 refine wq<|wg rfl<|aA<|wq<|wm rfl<|wy (aH rfl)<|wy (aG (off:=1) (m:=1) underlying102 rfl eG rfl rfl rfl)<|wy (aK (rdR 0 (r:=⟨102,2,(some ⟨g,0,none⟩),1,1,[.slice At s.length ct, .slice Ap ((l++[(0,at_)]).length) cp],false⟩) rfl) underlying100 rfl rfl rfl)<|wy (aV underlying100 rfl)<|wy (Yl.is (qV rfl rfl (by omega)) (show _=Value.int .i64 ((l.length:Nat):Int) from by rw[hll];congr 1;omega))<|wg rfl<|aA<|aF ?_
 refine wq<|wm rfl<|wy (Yl.f (sU rfl rfl) (by omega))<|wm rfl<|aD rfl rfl<|wm rfl<|aD rfl rfl<|wm rfl<|aD rfl rfl<|wy (aH rfl)<|aD rfl rfl<|wy (aG (off:=1) (m:=1) underlying102 rfl eG rfl rfl rfl)<|aD rfl rfl<|wy (aK (rdR 0 (r:=⟨102,2,(some ⟨g,0,none⟩),1,1,[.slice At s.length ct, .slice Ap ((l++[(0,at_)]).length) cp],false⟩) rfl) underlying100 rfl rfl rfl) ?_
 refine aD rfl rfl<|wm rfl<|aD rfl rfl<|wy (gU underlying100 iV rfl rfl (rdr 2 rfl) rfl (by omega) (by omega))<|aD rfl rfl<|wy (pE (off:=0) underlying106 rfl sz3 rfl rfl (rdr 2 rfl) (by omega) (by omega))<|aD rfl rfl<|wy (Yl.is (yP underlying3 rfl rfl (rdr 2 rfl) (by omega) (by omega)) (show _=Value.int .i64 0 from by rw[jV]))<|aD rfl rfl<|wa (aC MI rfl (Ct.quiet (fun w hw=>jH ((RdC.right hk_ [_,_,_]) w hw) (by omega)))) ?_
 rintro _ _ ⟨rfl,rfl⟩
 refine tK 28 rfl (hin)<|aD rfl rfl<|wy (mE rfl)<|wy (bG rfl rfl)<|aA<|aL rfl<|aM<|wq<|wm rfl<|wy (aH rfl)<|wy (aG (off:=1) (m:=1) underlying102 rfl eG rfl rfl rfl)<|wy (aK (rdR 0 (r:=⟨102,2,(some ⟨g,0,none⟩),1,1,[.slice At s.length ct, .slice Ap ((l++[(0,at_)]).length) cp],false⟩) rfl) underlying100 rfl rfl rfl)<|wm rfl<|wy (gU underlying100 iV rfl rfl (rdr 2 rfl) rfl (by omega) (by omega)) ?_
 refine wy (Yl.is (wW underlying106 rfl iV rfl (rdr 2 rfl) (by omega) (by omega)) (show _=Value.agg #[.int .i64 0, .int .i64 at_] from by rw[jV]))<|wa (jJ (sz:=2) QE rfl) ?_
 rintro _ _ ⟨g_1,rfl,rfl⟩
 refine dK (iN (vs:=[.int .i64 0, .int .i64 at_]) 0 rfl iV rfl rfl rfl (by intro v hv;simp at hv;rcases hv with rfl|rfl<;>rfl) rfl) ?_
 rintro _ _ rfl
 refine aA<|aF<|wq<|wy (aG (off:=0) (m:=0) underlying106 rfl sz3 rfl rfl rfl)<|wy (aK (rdR 0 (r:=⟨106,2,(some ⟨g_1,0,none⟩),1,1,[.int .i64 0, .int .i64 at_],false⟩) rfl) underlying3 rfl rfl rfl)<|aA<|aI<|wq<|wy (Yl.t (bC rfl rfl) (by decide))<|wg rfl<|aA<|dN rfl<|dQ mixed ?_
 refine bH 0 rfl (by kernel_rfl) rfl (aJ rfl)<|bH 1 rfl (by kernel_rfl) rfl (aJ rfl)<|bH 2 rfl (by kernel_rfl) rfl (aH rfl)<|bH 3 rfl (by kernel_rfl) rfl (aG (off:=0) (m:=0) underlying102 rfl jC rfl rfl rfl)<|bH 4 rfl (by kernel_rfl) rfl (aK (rdR 1 (r:=⟨102,2,(some ⟨g,0,none⟩),1,1,[.slice At s.length ct, .slice Ap ((l++[(0,at_)]).length) cp],false⟩) rfl) underlying22 rfl rfl rfl)<|bH 5 rfl (by kernel_rfl) rfl (aG (off:=1) (m:=1) underlying106 rfl sz3 rfl rfl rfl)<|bH 6 rfl (by kernel_rfl) rfl (aK (rdR 0 (r:=⟨106,2,(some ⟨g_1,0,none⟩),1,1,[.int .i64 0, .int .i64 at_],false⟩) rfl) underlying3 rfl rfl rfl)<|kF 7 rfl (by kernel_rfl) rfl (aC aEf rfl (Ct.fresh (fun w hw=>VY ((rdr 2 rfl) w hw) bh_s hok hN))) ?_
 rintro _ _ ⟨_,rfl,A_2,c_3,rfl,rfl⟩
 refine⟨.inr fun _ h=>h.right (R':=[_]),?_⟩
 refine bH 8 rfl (by kernel_rfl) rfl (aJ rfl)<|bH 9 rfl (by kernel_rfl) rfl (qX rfl rfl)<|bH 10 rfl (by kernel_rfl) rfl (qX rfl rfl)<|bH 11 rfl (by kernel_rfl) rfl (aH rfl)<|bH 12 rfl (by kernel_rfl) rfl (aG (off:=0) (m:=0) underlying102 rfl jC rfl rfl rfl)<|sV 13 rfl (by kernel_rfl) (bQ 2 rfl rfl rfl jC rfl rfl rfl rfl (Nat.le_of_ble_eq_true rfl)) ?_
 rintro _ _ rfl
 refine⟨.inl (by kernel_rfl),?_⟩
 refine dD (by kernel_rfl)<|wq<|wm rfl<|wm rfl<|wy (aH rfl)<|wy (aG (off:=1) (m:=1) underlying102 rfl eG rfl rfl rfl)<|wy (aK (rdR 2 (r:=⟨102,2,(some ⟨g,0,none⟩),1,1,[.slice A_2 s.length c_3, .slice Ap ((l++[(0,at_)]).length) cp],false⟩) rfl) underlying100 rfl rfl rfl)<|wm rfl<|wy (kT underlying100 iV rfl rfl (rdr 4 rfl) (by omega) (by omega))<|wy (aH rfl)<|wy (aG (off:=1) (m:=1) underlying102 rfl eG rfl rfl rfl)<|dK (bQ 2 rfl rfl rfl eG rfl rfl rfl rfl (Nat.le_of_ble_eq_true rfl)) ?_
 rintro _ _ rfl
 refine aA<|wq<|wg rfl<|aA<|iI (R1:=⟨102,2,(some ⟨g,0,none⟩),1,1,[.slice A_2 s.length c_3, .slice Ap l.length cp],false⟩::⟨5,1,A_2,s.length,c_3,ints .u8 (jA s at_),false⟩::⟨106,2,Ap,l.length,cp,prs l,false⟩::R) (fun _ h=>Hp.pickT (R:=⟨106,2,Ap,l.length,cp,prs l,false⟩::⟨102,2,(some ⟨g,0,none⟩),1,1,[.slice A_2 s.length c_3, .slice Ap l.length cp],false⟩::⟨5,1,A_2,s.length,c_3,ints .u8 (jA s at_),false⟩::R) (Hp.dropLast (h.pickT [4,2,0] 5 (by decide) rfl) (by rw[List.length_append];rfl)) [1,2,0] 3 (by decide) rfl) ?_
 refine⟨_,rfl,?_⟩
 have e:s.length=s0.length:=by rw[←hb,nZ]
 rw[hb,e]
 exact⟨_,_,rfl,rfl⟩
set_option maxRecDepth 100000 in
set_option maxHeartbeats 1000000 in
theorem BB {B:Nat} {w0:World} {R:List Row} {g:Nat} {At Ap A_k:Option Addr} {nt ct np cp n_k c_k:Nat} {s ks:List Int} {l:List (Int × Int)} {at_:Int} {s0:List Int} (hnt:nt=s.length) (hk_:RdC B w0 R A_k n_k c_k 1 (ints .i64 ks)) (hnk:n_k=ks.length) (hnp:np=(l++[(1,at_)]).length) (hin:(1:Int)∈ks) (hl:l.length≤1000∧ks.length≤10) (bh_s:aP s) (hN:s.length≤100000) (hb:backL s (bT (fsL s))=s0):
  Ct Tryz.prog 62 #[.pointer (some ⟨g,0,none⟩), .slice A_k n_k c_k] B w0 (⟨102,2,(some ⟨g,0,none⟩),1,1,[.slice At nt ct, .slice Ap ((l++[(1,at_)]).length) cp],false⟩::⟨5,1,At,nt,ct,ints .u8 s,false⟩::⟨106,2,Ap,np,cp,prs (l++[(1,at_)]),false⟩::R) (fun v R'=> ∃(A8:Option Addr) (c8:Nat),v= .int .i64 0∧R'=⟨102,2,(some ⟨g,0,none⟩),1,1,[.slice A8 s0.length c8, .slice Ap l.length cp],false⟩::⟨5,1,A8,s0.length,c8,ints .u8 s0,false⟩::⟨106,2,Ap,l.length,cp,prs l,false⟩::R):=by
 subst hnt
 subst hnp
 subst hnk
 have hll:(l++[((1:Int),at_)]).length=l.length+1:=by rw[List.length_append];rfl
 refine fn1 Tryz.func62 rfl rfl rfl ?_
 refine wq<|wg rfl<|aA<|wq<|wm rfl<|wy (aH rfl)<|wy (aG (off:=1) (m:=1) underlying102 rfl eG rfl rfl rfl)<|wy (aK (rdR 0 (r:=⟨102,2,(some ⟨g,0,none⟩),1,1,[.slice At s.length ct, .slice Ap ((l++[(1,at_)]).length) cp],false⟩) rfl) underlying100 rfl rfl rfl)<|wy (aV underlying100 rfl)<|wy (Yl.is (qV rfl rfl (by omega)) (show _=Value.int .i64 ((l.length:Nat):Int) from by rw[hll];congr 1;omega))<|wg rfl<|aA<|aF ?_
 refine wq<|wm rfl<|wy (Yl.f (sU rfl rfl) (by omega))<|wm rfl<|aD rfl rfl<|wm rfl<|aD rfl rfl<|wm rfl<|aD rfl rfl<|wy (aH rfl)<|aD rfl rfl<|wy (aG (off:=1) (m:=1) underlying102 rfl eG rfl rfl rfl)<|aD rfl rfl<|wy (aK (rdR 0 (r:=⟨102,2,(some ⟨g,0,none⟩),1,1,[.slice At s.length ct, .slice Ap ((l++[(1,at_)]).length) cp],false⟩) rfl) underlying100 rfl rfl rfl) ?_
 refine aD rfl rfl<|wm rfl<|aD rfl rfl<|wy (gU underlying100 iV rfl rfl (rdr 2 rfl) rfl (by omega) (by omega))<|aD rfl rfl<|wy (pE (off:=0) underlying106 rfl sz3 rfl rfl (rdr 2 rfl) (by omega) (by omega))<|aD rfl rfl<|wy (Yl.is (yP underlying3 rfl rfl (rdr 2 rfl) (by omega) (by omega)) (show _=Value.int .i64 1 from by rw[jV]))<|aD rfl rfl<|wa (aC MI rfl (Ct.quiet (fun w hw=>jH ((RdC.right hk_ [_,_,_]) w hw) (by omega)))) ?_
 rintro _ _ ⟨rfl,rfl⟩
 refine tK 28 rfl (hin)<|aD rfl rfl<|wy (mE rfl)<|wy (bG rfl rfl)<|aA<|aL rfl<|aM<|wq<|wm rfl<|wy (aH rfl)<|wy (aG (off:=1) (m:=1) underlying102 rfl eG rfl rfl rfl)<|wy (aK (rdR 0 (r:=⟨102,2,(some ⟨g,0,none⟩),1,1,[.slice At s.length ct, .slice Ap ((l++[(1,at_)]).length) cp],false⟩) rfl) underlying100 rfl rfl rfl)<|wm rfl<|wy (gU underlying100 iV rfl rfl (rdr 2 rfl) rfl (by omega) (by omega)) ?_
 refine wy (Yl.is (wW underlying106 rfl iV rfl (rdr 2 rfl) (by omega) (by omega)) (show _=Value.agg #[.int .i64 1, .int .i64 at_] from by rw[jV]))<|wa (jJ (sz:=2) QE rfl) ?_
 rintro _ _ ⟨g_1,rfl,rfl⟩
 refine dK (iN (vs:=[.int .i64 1, .int .i64 at_]) 0 rfl iV rfl rfl rfl (by intro v hv;simp at hv;rcases hv with rfl|rfl<;>rfl) rfl) ?_
 rintro _ _ rfl
 refine aA<|aF<|wq<|wy (aG (off:=0) (m:=0) underlying106 rfl sz3 rfl rfl rfl)<|wy (aK (rdR 0 (r:=⟨106,2,(some ⟨g_1,0,none⟩),1,1,[.int .i64 1, .int .i64 at_],false⟩) rfl) underlying3 rfl rfl rfl)<|aA<|aI<|wq<|wy (Yl.f (bC rfl rfl) (by decide))<|wg rfl<|aA<|aL rfl<|aF ?_
 refine aN<|wy (Yl.t (bC rfl rfl) (by decide))<|wg rfl<|aA<|dN rfl<|aN<|wm rfl<|wm rfl<|wy (aH rfl)<|wy (aG (off:=0) (m:=0) underlying102 rfl jC rfl rfl rfl)<|wy (aK (rdR 1 (r:=⟨102,2,(some ⟨g,0,none⟩),1,1,[.slice At s.length ct, .slice Ap ((l++[(1,at_)]).length) cp],false⟩) rfl) underlying22 rfl rfl rfl)<|wa (aC aEe rfl (Ct.fresh (fun w hw=>JQ ((rdr 2 rfl) w hw) bh_s hN))) ?_
 rintro _ _ ⟨_,rfl,A_2,c_3,rfl,rfl⟩
 refine wm rfl<|wX rfl rfl<|wX rfl rfl<|wy (aH rfl)<|wy (aG (off:=0) (m:=0) underlying102 rfl jC rfl rfl rfl)<|dK (bQ 2 rfl rfl rfl jC rfl rfl rfl rfl (Nat.le_of_ble_eq_true rfl)) ?_
 rintro _ _ rfl
 refine aA<|wq<|wm rfl<|wm rfl<|wy (aH rfl)<|wy (aG (off:=1) (m:=1) underlying102 rfl eG rfl rfl rfl)<|wy (aK (rdR 2 (r:=⟨102,2,(some ⟨g,0,none⟩),1,1,[.slice A_2 ((backL s (bT (fsL s))).length) c_3, .slice Ap ((l++[(1,at_)]).length) cp],false⟩) rfl) underlying100 rfl rfl rfl)<|wm rfl<|wy (kT underlying100 iV rfl rfl (rdr 4 rfl) (by omega) (by omega))<|wy (aH rfl)<|wy (aG (off:=1) (m:=1) underlying102 rfl eG rfl rfl rfl)<|dK (bQ 2 rfl rfl rfl eG rfl rfl rfl rfl (Nat.le_of_ble_eq_true rfl)) ?_
 rintro _ _ rfl
 refine aA<|wq<|wg rfl<|aA<|iI (R1:=⟨102,2,(some ⟨g,0,none⟩),1,1,[.slice A_2 ((backL s (bT (fsL s))).length) c_3, .slice Ap l.length cp],false⟩::⟨5,1,A_2,(backL s (bT (fsL s))).length,c_3,ints .u8 (backL s (bT (fsL s))),false⟩::⟨106,2,Ap,l.length,cp,prs l,false⟩::R) (fun _ h=>Hp.pickT (R:=⟨106,2,Ap,l.length,cp,prs l,false⟩::⟨102,2,(some ⟨g,0,none⟩),1,1,[.slice A_2 ((backL s (bT (fsL s))).length) c_3, .slice Ap l.length cp],false⟩::⟨5,1,A_2,(backL s (bT (fsL s))).length,c_3,ints .u8 (backL s (bT (fsL s))),false⟩::R) (Hp.dropLast (h.pickT [4,2,0] 5 (by decide) rfl) (by rw[List.length_append];rfl)) [1,2,0] 3 (by decide) rfl) ?_
 refine⟨_,rfl,?_⟩
 rw[hb]
 exact⟨_,_,rfl,rfl⟩
set_option maxRecDepth 100000 in
set_option maxHeartbeats 1000000 in
theorem BA {B:Nat} {w0:World} {R:List Row} {g:Nat} {At Ap A_k:Option Addr} {nt ct np cp n_k c_k:Nat} {s ks:List Int} {l:List (Int × Int)} {at_:Int} {s0:List Int} (hnt:nt=s.length) (hk_:RdC B w0 R A_k n_k c_k 1 (ints .i64 ks)) (hnk:n_k=ks.length) (hnp:np=(l++[(2,at_)]).length) (hin:(2:Int)∈ks) (hl:l.length≤1000∧ks.length≤10) (bh_s:aP s) (hN:s.length≤100000) (hb:gL bO s=s0):
  Ct Tryz.prog 62 #[.pointer (some ⟨g,0,none⟩), .slice A_k n_k c_k] B w0 (⟨102,2,(some ⟨g,0,none⟩),1,1,[.slice At nt ct, .slice Ap ((l++[(2,at_)]).length) cp],false⟩::⟨5,1,At,nt,ct,ints .u8 s,false⟩::⟨106,2,Ap,np,cp,prs (l++[(2,at_)]),false⟩::R) (fun v R'=> ∃(A8:Option Addr) (c8:Nat),v= .int .i64 0∧R'=⟨102,2,(some ⟨g,0,none⟩),1,1,[.slice A8 s0.length c8, .slice Ap l.length cp],false⟩::⟨5,1,A8,s0.length,c8,ints .u8 s0,false⟩::⟨106,2,Ap,l.length,cp,prs l,false⟩::R):=by
 subst hnt
 subst hnp
 subst hnk
 have hll:(l++[((2:Int),at_)]).length=l.length+1:=by rw[List.length_append];rfl
 refine fn1 Tryz.func62 rfl rfl rfl ?_
 refine wq<|wg rfl<|aA<|wq<|wm rfl<|wy (aH rfl)<|wy (aG (off:=1) (m:=1) underlying102 rfl eG rfl rfl rfl)<|wy (aK (rdR 0 (r:=⟨102,2,(some ⟨g,0,none⟩),1,1,[.slice At s.length ct, .slice Ap ((l++[(2,at_)]).length) cp],false⟩) rfl) underlying100 rfl rfl rfl)<|wy (aV underlying100 rfl)<|wy (Yl.is (qV rfl rfl (by omega)) (show _=Value.int .i64 ((l.length:Nat):Int) from by rw[hll];congr 1;omega))<|wg rfl<|aA<|aF ?_
 refine wq<|wm rfl<|wy (Yl.f (sU rfl rfl) (by omega))<|wm rfl<|aD rfl rfl<|wm rfl<|aD rfl rfl<|wm rfl<|aD rfl rfl<|wy (aH rfl)<|aD rfl rfl<|wy (aG (off:=1) (m:=1) underlying102 rfl eG rfl rfl rfl)<|aD rfl rfl<|wy (aK (rdR 0 (r:=⟨102,2,(some ⟨g,0,none⟩),1,1,[.slice At s.length ct, .slice Ap ((l++[(2,at_)]).length) cp],false⟩) rfl) underlying100 rfl rfl rfl) ?_
 refine aD rfl rfl<|wm rfl<|aD rfl rfl<|wy (gU underlying100 iV rfl rfl (rdr 2 rfl) rfl (by omega) (by omega))<|aD rfl rfl<|wy (pE (off:=0) underlying106 rfl sz3 rfl rfl (rdr 2 rfl) (by omega) (by omega))<|aD rfl rfl<|wy (Yl.is (yP underlying3 rfl rfl (rdr 2 rfl) (by omega) (by omega)) (show _=Value.int .i64 2 from by rw[jV]))<|aD rfl rfl<|wa (aC MI rfl (Ct.quiet (fun w hw=>jH ((RdC.right hk_ [_,_,_]) w hw) (by omega)))) ?_
 rintro _ _ ⟨rfl,rfl⟩
 refine tK 28 rfl (hin)<|aD rfl rfl<|wy (mE rfl)<|wy (bG rfl rfl)<|aA<|aL rfl<|aM<|wq<|wm rfl<|wy (aH rfl)<|wy (aG (off:=1) (m:=1) underlying102 rfl eG rfl rfl rfl)<|wy (aK (rdR 0 (r:=⟨102,2,(some ⟨g,0,none⟩),1,1,[.slice At s.length ct, .slice Ap ((l++[(2,at_)]).length) cp],false⟩) rfl) underlying100 rfl rfl rfl)<|wm rfl<|wy (gU underlying100 iV rfl rfl (rdr 2 rfl) rfl (by omega) (by omega)) ?_
 refine wy (Yl.is (wW underlying106 rfl iV rfl (rdr 2 rfl) (by omega) (by omega)) (show _=Value.agg #[.int .i64 2, .int .i64 at_] from by rw[jV]))<|wa (jJ (sz:=2) QE rfl) ?_
 rintro _ _ ⟨g_1,rfl,rfl⟩
 refine dK (iN (vs:=[.int .i64 2, .int .i64 at_]) 0 rfl iV rfl rfl rfl (by intro v hv;simp at hv;rcases hv with rfl|rfl<;>rfl) rfl) ?_
 rintro _ _ rfl
 refine aA<|aF<|wq<|wy (aG (off:=0) (m:=0) underlying106 rfl sz3 rfl rfl rfl)<|wy (aK (rdR 0 (r:=⟨106,2,(some ⟨g_1,0,none⟩),1,1,[.int .i64 2, .int .i64 at_],false⟩) rfl) underlying3 rfl rfl rfl)<|aA<|aI<|wq<|wy (Yl.f (bC rfl rfl) (by decide))<|wg rfl<|aA<|aL rfl<|aF ?_
 refine aN<|wy (Yl.f (bC rfl rfl) (by decide))<|wg rfl<|aA<|aL rfl<|wq<|wy (Yl.t (bC rfl rfl) (by decide))<|wg rfl<|aA<|dN rfl<|aN<|wm rfl<|wm rfl<|wy (aH rfl) ?_
 refine wy (aG (off:=0) (m:=0) underlying102 rfl jC rfl rfl rfl)<|wy (aK (rdR 1 (r:=⟨102,2,(some ⟨g,0,none⟩),1,1,[.slice At s.length ct, .slice Ap ((l++[(2,at_)]).length) cp],false⟩) rfl) underlying22 rfl rfl rfl)<|wa (aC aEd rfl (Ct.fresh (fun w hw=>QB ((rdr 2 rfl) w hw) bh_s (by omega)))) ?_
 rintro _ _ ⟨_,rfl,A_2,c_3,rfl,rfl⟩
 refine wy (aH rfl)<|wy (aG (off:=0) (m:=0) underlying102 rfl jC rfl rfl rfl)<|dK (bQ 2 rfl rfl rfl jC rfl rfl rfl rfl (Nat.le_of_ble_eq_true rfl)) ?_
 rintro _ _ rfl
 refine aA<|wq<|wm rfl<|wm rfl<|wy (aH rfl)<|wy (aG (off:=1) (m:=1) underlying102 rfl eG rfl rfl rfl)<|wy (aK (rdR 2 (r:=⟨102,2,(some ⟨g,0,none⟩),1,1,[.slice A_2 ((s).length) c_3, .slice Ap ((l++[(2,at_)]).length) cp],false⟩) rfl) underlying100 rfl rfl rfl)<|wm rfl<|wy (kT underlying100 iV rfl rfl (rdr 4 rfl) (by omega) (by omega))<|wy (aH rfl)<|wy (aG (off:=1) (m:=1) underlying102 rfl eG rfl rfl rfl)<|dK (bQ 2 rfl rfl rfl eG rfl rfl rfl rfl (Nat.le_of_ble_eq_true rfl)) ?_
 rintro _ _ rfl
 refine aA<|wq<|wg rfl<|aA<|iI (R1:=⟨102,2,(some ⟨g,0,none⟩),1,1,[.slice A_2 ((s).length) c_3, .slice Ap l.length cp],false⟩::⟨5,1,A_2,((s).length),c_3,ints .u8 (gL bO s),false⟩::⟨106,2,Ap,l.length,cp,prs l,false⟩::R) (fun _ h=>Hp.pickT (R:=⟨106,2,Ap,l.length,cp,prs l,false⟩::⟨102,2,(some ⟨g,0,none⟩),1,1,[.slice A_2 ((s).length) c_3, .slice Ap l.length cp],false⟩::⟨5,1,A_2,((s).length),c_3,ints .u8 (gL bO s),false⟩::R) (Hp.dropLast (h.pickT [4,2,0] 5 (by decide) rfl) (by rw[List.length_append];rfl)) [1,2,0] 3 (by decide) rfl) ?_
 refine⟨_,rfl,?_⟩
 have e:s.length=s0.length:=by rw[←hb,nP]
 rw[hb,e]
 exact⟨_,_,rfl,rfl⟩
set_option maxRecDepth 100000 in
theorem mI {B:Nat} {w0:World} {R:List Row} {g:Nat} {At Ap A_k:Option Addr} {nt ct np cp n_k c_k:Nat} {s ks:List Int} {l:List (Int × Int)} {at_:Int} {K:Int} (hnt:nt=s.length) (hk_:RdC B w0 R A_k n_k c_k 1 (ints .i64 ks)) (hnk:n_k=ks.length) (hnp:np=(l++[(K,at_)]).length) (hin:K∉ks) (hl:l.length≤1000∧ks.length≤10):
  Ct Tryz.prog 62 #[.pointer (some ⟨g,0,none⟩), .slice A_k n_k c_k] B w0 (⟨102,2,(some ⟨g,0,none⟩),1,1,[.slice At nt ct, .slice Ap ((l++[(K,at_)]).length) cp],false⟩::⟨5,1,At,nt,ct,ints .u8 s,false⟩::⟨106,2,Ap,np,cp,prs (l++[(K,at_)]),false⟩::R) (fun v R'=>v= .int .i64 6∧R'=⟨102,2,(some ⟨g,0,none⟩),1,1,[.slice At nt ct, .slice Ap np cp],false⟩::⟨5,1,At,nt,ct,ints .u8 s,false⟩::⟨106,2,Ap,np,cp,prs (l++[(K,at_)]),false⟩::R):=by
 subst hnt
 subst hnp
 subst hnk
 have hll:(l++[(K,at_)]).length=l.length+1:=by rw[List.length_append];rfl
 refine fn1 Tryz.func62 rfl rfl rfl ?_
 refine wq<|wg rfl<|aA<|wq<|wm rfl<|wy (aH rfl)<|wy (aG (off:=1) (m:=1) underlying102 rfl eG rfl rfl rfl)<|wy (aK (rdR 0 (r:=⟨102,2,(some ⟨g,0,none⟩),1,1,[.slice At s.length ct, .slice Ap ((l++[(K,at_)]).length) cp],false⟩) rfl) underlying100 rfl rfl rfl)<|wy (aV underlying100 rfl)<|wy (Yl.is (qV rfl rfl (by omega)) (show _=Value.int .i64 ((l.length:Nat):Int) from by rw[hll];congr 1;omega))<|wg rfl<|aA<|aF ?_
 refine wq<|wm rfl<|wy (Yl.f (sU rfl rfl) (by omega))<|wm rfl<|aD rfl rfl<|wm rfl<|aD rfl rfl<|wm rfl<|aD rfl rfl<|wy (aH rfl)<|aD rfl rfl<|wy (aG (off:=1) (m:=1) underlying102 rfl eG rfl rfl rfl)<|aD rfl rfl<|wy (aK (rdR 0 (r:=⟨102,2,(some ⟨g,0,none⟩),1,1,[.slice At s.length ct, .slice Ap ((l++[(K,at_)]).length) cp],false⟩) rfl) underlying100 rfl rfl rfl) ?_
 refine aD rfl rfl<|wm rfl<|aD rfl rfl<|wy (gU underlying100 iV rfl rfl (rdr 2 rfl) rfl (by omega) (by omega))<|aD rfl rfl<|wy (pE (off:=0) underlying106 rfl sz3 rfl rfl (rdr 2 rfl) (by omega) (by omega))<|aD rfl rfl<|wy (Yl.is (yP underlying3 rfl rfl (rdr 2 rfl) (by omega) (by omega)) (show _=Value.int .i64 K from by rw[jV]))<|aD rfl rfl<|wa (aC MI rfl (Ct.quiet (fun w hw=>jH ((RdC.right hk_ [_,_,_]) w hw) (by omega)))) ?_
 rintro _ _ ⟨rfl,rfl⟩
 refine tL 28 rfl (hin)<|aD rfl rfl<|wy (mE rfl)<|wy (bG rfl rfl)<|aA<|dN rfl<|wq<|wg rfl<|aA<|iI (R1:=(⟨102,2,(some ⟨g,0,none⟩),1,1,[.slice At s.length ct, .slice Ap ((l++[(K,at_)]).length) cp],false⟩::⟨5,1,At,s.length,ct,ints .u8 s,false⟩::⟨106,2,Ap,(l++[(K,at_)]).length,cp,prs (l++[(K,at_)]),false⟩::R)) (fun _ h=>h) ?_
 refine⟨_,rfl,?_⟩
 exact⟨rfl,rfl⟩
set_option maxRecDepth 100000 in
theorem sF {B:Nat} {w0:World} {R:List Row} {g:Nat} {At Ap A_k:Option Addr} {nt ct cp n_k c_k:Nat} {s ks:List Int} (hk_:RdC B w0 R A_k n_k c_k 1 (ints .i64 ks)) (hnk:n_k=ks.length):
  Ct Tryz.prog 62 #[.pointer (some ⟨g,0,none⟩), .slice A_k n_k c_k] B w0 (⟨102,2,(some ⟨g,0,none⟩),1,1,[.slice At nt ct, .slice Ap 0 cp],false⟩::⟨5,1,At,nt,ct,ints .u8 s,false⟩::⟨106,2,Ap,0,cp,prs ([]),false⟩::R) (fun v R'=>v= .int .i64 6∧R'=⟨102,2,(some ⟨g,0,none⟩),1,1,[.slice At nt ct, .slice Ap 0 cp],false⟩::⟨5,1,At,nt,ct,ints .u8 s,false⟩::⟨106,2,Ap,0,cp,prs ([]),false⟩::R):=by
 subst hnk
 refine fn1 Tryz.func62 rfl rfl rfl ?_
 refine wq<|wg rfl<|aA<|wq<|wm rfl<|wy (aH rfl)<|wy (aG (off:=1) (m:=1) underlying102 rfl eG rfl rfl rfl)<|wy (aK (rdR 0 (r:=⟨102,2,(some ⟨g,0,none⟩),1,1,[.slice At nt ct, .slice Ap 0 cp],false⟩) rfl) underlying100 rfl rfl rfl)<|wy (aV underlying100 rfl)<|wy (Yl.is (qV rfl rfl (by omega)) rfl)<|wg rfl<|aA<|aF ?_
 refine wq<|wm rfl<|wy (Yl.t (sU rfl rfl) (by decide))<|wm rfl<|aT rfl rfl rfl rfl<|aT rfl rfl rfl rfl<|aT rfl rfl rfl rfl<|aT rfl rfl rfl rfl<|aT rfl rfl rfl rfl<|aT rfl rfl rfl rfl<|aT rfl rfl rfl rfl<|aT rfl rfl rfl rfl<|aT rfl rfl rfl rfl<|aT rfl rfl rfl rfl ?_
 refine aT rfl rfl rfl rfl<|wy (aX rfl rfl)<|aA<|dN rfl<|wq<|wg rfl<|aA<|iI (R1:=(⟨102,2,(some ⟨g,0,none⟩),1,1,[.slice At nt ct, .slice Ap 0 cp],false⟩::⟨5,1,At,nt,ct,ints .u8 s,false⟩::⟨106,2,Ap,0,cp,prs ([]),false⟩::R)) (fun _ h=>h) ?_
 refine⟨_,rfl,?_⟩
 exact⟨rfl,rfl⟩
open Tryz
set_option linter.unusedVariables false
set_option maxRecDepth 100000 in
theorem EN {B:Nat} {w0:World} {R:List Row} {g:Nat} {At Ap:Option Addr} {nt ct np cp:Nat} {s:List Int} {l:List (Int × Int)} {Ad:Option Addr} {nd cd:Nat} {d:List Int} {N q0 q1 q2 q3:Int} (hnt:nt=s.length) (hnp:np=l.length) (h_d:RdC B w0 R Ad nd cd 1 (ints .u8 d)) (hnd:nd=d.length) (hN:d.length≤100000):
  Ct Tryz.prog 30 #[.pointer (some ⟨g,0,none⟩), .agg #[.int .i64 1, .slice Ad nd cd, .int .i64 N, .int .i64 q0, .int .i64 q1, .int .i64 q2, .int .i64 q3]] B w0 (⟨102,2,(some ⟨g,0,none⟩),1,1,[.slice At nt ct, .slice Ap np cp],false⟩::⟨5,1,At,nt,ct,ints .u8 s,false⟩::⟨106,2,Ap,np,cp,prs l,false⟩::R) (fun v R'=> ∃(A8:Option Addr) (c8:Nat),v= .int .i64 0∧R'=⟨102,2,(some ⟨g,0,none⟩),1,1,[.slice A8 d.length c8, .slice none 0 0],false⟩::⟨5,1,A8,d.length,c8,ints .u8 d,false⟩::⟨106,2,none,0,0,prs ([]),false⟩::R):=by
 subst hnt
 subst hnp
 subst hnd
 refine fn1 Tryz.func30 rfl rfl rfl ?_
 refine wq<|wa (dZ (sz:=7) rfl rfl) ?_
 rintro _ _ ⟨g_1,rfl,rfl⟩
 refine wg rfl<|aA<|aF<|wq<|wm rfl<|wy (dJ underlying49 rfl rfl)<|aA<|aL rfl<|aM<|aF<|wq<|wy (aG (off:=0) (m:=0) underlying56 rfl sz3 rfl rfl rfl)<|wy (aK (rdR 0 (r:=⟨56,7,(some ⟨g_1,0,none⟩),1,1,[.int .i64 1, .slice Ad d.length cd, .int .i64 N, .int .i64 q0, .int .i64 q1, .int .i64 q2, .int .i64 q3],false⟩) rfl) underlying3 rfl rfl rfl) ?_
 refine aA<|aI<|wq<|wy (Yl.t (bC rfl rfl) (by decide))<|wg rfl<|aA<|dN rfl<|aF<|wq<|wy (aG (off:=1) (m:=1) underlying56 rfl jC rfl rfl rfl)<|wy (aK (rdR 0 (r:=⟨56,7,(some ⟨g_1,0,none⟩),1,1,[.int .i64 1, .slice Ad d.length cd, .int .i64 N, .int .i64 q0, .int .i64 q1, .int .i64 q2, .int .i64 q3],false⟩) rfl) underlying22 rfl rfl rfl)<|wy (aV underlying22 rfl)<|wy (Yl.f (kU rfl rfl) (by omega)) ?_
 refine aA<|aL rfl<|aM<|wq<|wm rfl<|wm rfl<|wy (aG (off:=1) (m:=1) underlying56 rfl jC rfl rfl rfl)<|wy (aK (rdR 0 (r:=⟨56,7,(some ⟨g_1,0,none⟩),1,1,[.int .i64 1, .slice Ad d.length cd, .int .i64 N, .int .i64 q0, .int .i64 q1, .int .i64 q2, .int .i64 q3],false⟩) rfl) underlying22 rfl rfl rfl)<|wa (aC aDb rfl (Ct.fresh (fun w hw=>yL ((RdC.right h_d [_,_,_,_]) w hw) (by omega)))) ?_
 rintro _ _ ⟨_,rfl,A_2,c_3,rfl,rfl⟩
 refine wy (aH rfl)<|wy (aG (off:=0) (m:=0) underlying102 rfl jC rfl rfl rfl)<|dK (bQ 2 rfl rfl rfl jC rfl rfl rfl rfl (Nat.le_of_ble_eq_true rfl)) ?_
 rintro _ _ rfl
 refine wy (aH rfl)<|wy (aG (off:=1) (m:=1) underlying102 rfl eG rfl rfl rfl)<|dK (bQ 2 rfl rfl rfl eG rfl rfl rfl rfl (Nat.le_of_ble_eq_true rfl)) ?_
 rintro _ _ rfl
 refine aA<|wq<|wg rfl<|aA<|iI (R1:=⟨102,2,(some ⟨g,0,none⟩),1,1,[.slice A_2 d.length c_3, .slice none 0 0],false⟩::⟨5,1,A_2,d.length,c_3,ints .u8 d,false⟩::⟨106,2,none,0,0,prs ([]),false⟩::R) (fun _ h=>Hp.pickT (R:=⟨106,2,none,0,0,prs ([]),false⟩::⟨102,2,(some ⟨g,0,none⟩),1,1,[.slice A_2 d.length c_3, .slice none 0 0],false⟩::⟨5,1,A_2,d.length,c_3,ints .u8 d,false⟩::R) (Hp.nilP (h.pickT [2,0] 5 (by decide) rfl) 106) [1,2,0] 3 (by decide) rfl) ?_
 refine⟨_,rfl,?_⟩
 exact⟨_,_,rfl,rfl⟩
set_option maxRecDepth 100000 in
theorem JL {B:Nat} {w0:World} {R:List Row} {g:Nat} {At Ap:Option Addr} {nt ct np cp:Nat} {s:List Int} {l:List (Int × Int)} {Ad:Option Addr} {nd cd:Nat} {N q0 q1 q2 q3:Int} (hnt:nt=s.length) (hnp:np=l.length) (bh_s:aP s) (hN:s.length≤100000) (hl:l.length≤1000):
  Ct Tryz.prog 30 #[.pointer (some ⟨g,0,none⟩), .agg #[.int .i64 4, .slice Ad nd cd, .int .i64 N, .int .i64 q0, .int .i64 q1, .int .i64 q2, .int .i64 q3]] B w0 (⟨102,2,(some ⟨g,0,none⟩),1,1,[.slice At nt ct, .slice Ap np cp],false⟩::⟨5,1,At,nt,ct,ints .u8 s,false⟩::⟨106,2,Ap,np,cp,prs l,false⟩::R) (fun v R'=> ∃(A8:Option Addr) (c8:Nat) (A7:Option Addr) (c7:Nat),v= .int .i64 0∧R'=⟨102,2,(some ⟨g,0,none⟩),1,1,[.slice A8 ((fT bO s).length) c8, .slice A7 ((l++[(2,0)]).length) c7],false⟩::⟨5,1,A8,(fT bO s).length,c8,ints .u8 (fT bO s),false⟩::⟨106,2,A7,(l++[(2,0)]).length,c7,prs (l++[(2,0)]),false⟩::R):=by
 subst hnt
 subst hnp
 refine fn1 Tryz.func30 rfl rfl rfl ?_
 refine wq<|wa (dZ (sz:=7) rfl rfl) ?_
 rintro _ _ ⟨g_1,rfl,rfl⟩
 refine wg rfl<|aA<|aF<|wq<|wm rfl<|wy (dJ underlying49 rfl rfl)<|aA<|aL rfl<|aM<|aF<|wq<|wy (aG (off:=0) (m:=0) underlying56 rfl sz3 rfl rfl rfl)<|wy (aK (rdR 0 (r:=⟨56,7,(some ⟨g_1,0,none⟩),1,1,[.int .i64 4, .slice Ad nd cd, .int .i64 N, .int .i64 q0, .int .i64 q1, .int .i64 q2, .int .i64 q3],false⟩) rfl) underlying3 rfl rfl rfl) ?_
 refine aA<|aI<|wq<|wy (Yl.f (bC rfl rfl) (by decide))<|wg rfl<|aA<|aL rfl<|wq<|wy (Yl.f (bC rfl rfl) (by decide))<|wg rfl<|aA<|aL rfl<|aF ?_
 refine aN<|wy (Yl.t (bC rfl rfl) (by decide))<|wg rfl<|aA<|dN rfl<|wq<|wm rfl<|wm rfl<|wy (aH rfl)<|wy (aG (off:=0) (m:=0) underlying102 rfl jC rfl rfl rfl)<|wy (aK (rdR 1 (r:=⟨102,2,(some ⟨g,0,none⟩),1,1,[.slice At s.length ct, .slice Ap l.length cp],false⟩) rfl) underlying22 rfl rfl rfl)<|wa (aC aFq rfl (Ct.fresh (fun w hw=>OJ ((rdr 2 rfl) w hw) bh_s (by omega)))) ?_
 rintro _ _ ⟨_,rfl,A_2,c_3,rfl,rfl⟩
 refine wy (bS (v:= .agg #[.int .i64 2, .int .i64 0]) rfl (fun w=>by kernel_rfl))<|wa (aC aBt rfl (Ct.pick [2,4,0,1,3] 5 (by decide) rfl (rJ rfl (by omega)))) ?_
 rintro _ _ ⟨A_5,c_6,rfl,rfl⟩
 refine wg rfl<|aA<|aY [0,2,1] 5 (by decide) rfl ?_
 refine⟨_,rfl,?_⟩
 have e:=kY s bO
 rw[←e]
 exact⟨_,_,_,_,rfl,rfl⟩
set_option maxRecDepth 100000 in
theorem JK {B:Nat} {w0:World} {R:List Row} {g:Nat} {At Ap:Option Addr} {nt ct np cp:Nat} {s:List Int} {l:List (Int × Int)} {Ad:Option Addr} {nd cd:Nat} {q0 q1 q2 q3:Int} (hnt:nt=s.length) (hnp:np=l.length) (bh_s:aP s) (hN:s.length≤100000) (hl:l.length≤1000):
  Ct Tryz.prog 30 #[.pointer (some ⟨g,0,none⟩), .agg #[.int .i64 2, .slice Ad nd cd, .int .i64 1, .int .i64 q0, .int .i64 q1, .int .i64 q2, .int .i64 q3]] B w0 (⟨102,2,(some ⟨g,0,none⟩),1,1,[.slice At nt ct, .slice Ap np cp],false⟩::⟨5,1,At,nt,ct,ints .u8 s,false⟩::⟨106,2,Ap,np,cp,prs l,false⟩::R) (fun v R'=> ∃b:List Int,(b.Perm (iota s.length)∧b.Pairwise (bI s))∧ ∃(A8:Option Addr) (c8:Nat) (A7:Option Addr) (c7:Nat),v= .int .i64 0∧R'=⟨102,2,(some ⟨g,0,none⟩),1,1,[.slice A8 ((ofL s b).length) c8, .slice A7 ((l++[(0,zat b)]).length) c7],false⟩::⟨5,1,A8,(ofL s b).length,c8,ints .u8 (ofL s b),false⟩::⟨106,2,A7,(l++[(0,zat b)]).length,c7,prs (l++[(0,zat b)]),false⟩::R):=by
 subst hnt
 subst hnp
 refine fn1 Tryz.func30 rfl rfl rfl ?_
 refine wq<|wa (dZ (sz:=7) rfl rfl) ?_
 rintro _ _ ⟨g_1,rfl,rfl⟩
 refine wg rfl<|aA<|aF<|wq<|wm rfl<|wy (dJ underlying49 rfl rfl)<|aA<|aL rfl<|aM<|aF<|wq<|wy (aG (off:=0) (m:=0) underlying56 rfl sz3 rfl rfl rfl)<|wy (aK (rdR 0 (r:=⟨56,7,(some ⟨g_1,0,none⟩),1,1,[.int .i64 2, .slice Ad nd cd, .int .i64 1, .int .i64 q0, .int .i64 q1, .int .i64 q2, .int .i64 q3],false⟩) rfl) underlying3 rfl rfl rfl) ?_
 refine aA<|aI<|wq<|wy (Yl.f (bC rfl rfl) (by decide))<|wg rfl<|aA<|aL rfl<|wq<|wy (Yl.t (bC rfl rfl) (by decide))<|wg rfl<|aA<|dN rfl<|aF ?_
 refine aN<|wm rfl<|wy (aG (off:=2) (m:=2) underlying56 rfl sz3 rfl rfl rfl)<|wy (aK (rdR 0 (r:=⟨56,7,(some ⟨g_1,0,none⟩),1,1,[.int .i64 2, .slice Ad nd cd, .int .i64 1, .int .i64 q0, .int .i64 q1, .int .i64 q2, .int .i64 q3],false⟩) rfl) underlying3 rfl rfl rfl)<|wa (aC aDa rfl (Ct.pick [1,2,3,0] 4 (by decide) rfl (BG rfl rfl bh_s hN hl))) ?_
 rintro _ _ ⟨b1,hb1,A_2,c_3,A_4,c_5,rfl,rfl⟩
 refine wg rfl<|aA<|aY [0,1,2] 4 (by decide) rfl ?_
 refine⟨_,rfl,?_⟩
 exact⟨b1,hb1,_,_,_,_,rfl,rfl⟩
set_option maxRecDepth 100000 in
theorem JJ {B:Nat} {w0:World} {R:List Row} {g:Nat} {At Ap:Option Addr} {nt ct np cp:Nat} {s:List Int} {l:List (Int × Int)} {Ad:Option Addr} {nd cd:Nat} {q0 q1 q2 q3:Int} (hnt:nt=s.length) (hnp:np=l.length) (bh_s:aP s) (hN:s.length≤100000) (hl:l.length≤1000):
  Ct Tryz.prog 30 #[.pointer (some ⟨g,0,none⟩), .agg #[.int .i64 2, .slice Ad nd cd, .int .i64 2, .int .i64 q0, .int .i64 q1, .int .i64 q2, .int .i64 q3]] B w0 (⟨102,2,(some ⟨g,0,none⟩),1,1,[.slice At nt ct, .slice Ap np cp],false⟩::⟨5,1,At,nt,ct,ints .u8 s,false⟩::⟨106,2,Ap,np,cp,prs l,false⟩::R) (fun v R'=> ∃T:List (Int × Int),(T.Perm (fB (bws s) (bws s).length)∧T.Pairwise (tF (bws s)))∧ ∃(A8:Option Addr) (c8:Nat) (A7:Option Addr) (c7:Nat),v= .int .i64 0∧R'=⟨102,2,(some ⟨g,0,none⟩),1,1,[.slice A8 T.length c8, .slice A7 ((l++[(1,0)]).length) c7],false⟩::⟨5,1,A8,T.length,c8,ints .u8 (T.map (lastB (bws s))),false⟩::⟨106,2,A7,(l++[(1,0)]).length,c7,prs (l++[(1,0)]),false⟩::R):=by
 subst hnt
 subst hnp
 refine fn1 Tryz.func30 rfl rfl rfl ?_
 refine wq<|wa (dZ (sz:=7) rfl rfl) ?_
 rintro _ _ ⟨g_1,rfl,rfl⟩
 refine wg rfl<|aA<|aF<|wq<|wm rfl<|wy (dJ underlying49 rfl rfl)<|aA<|aL rfl<|aM<|aF<|wq<|wy (aG (off:=0) (m:=0) underlying56 rfl sz3 rfl rfl rfl)<|wy (aK (rdR 0 (r:=⟨56,7,(some ⟨g_1,0,none⟩),1,1,[.int .i64 2, .slice Ad nd cd, .int .i64 2, .int .i64 q0, .int .i64 q1, .int .i64 q2, .int .i64 q3],false⟩) rfl) underlying3 rfl rfl rfl) ?_
 refine aA<|aI<|wq<|wy (Yl.f (bC rfl rfl) (by decide))<|wg rfl<|aA<|aL rfl<|wq<|wy (Yl.t (bC rfl rfl) (by decide))<|wg rfl<|aA<|dN rfl<|aF ?_
 refine aN<|wm rfl<|wy (aG (off:=2) (m:=2) underlying56 rfl sz3 rfl rfl rfl)<|wy (aK (rdR 0 (r:=⟨56,7,(some ⟨g_1,0,none⟩),1,1,[.int .i64 2, .slice Ad nd cd, .int .i64 2, .int .i64 q0, .int .i64 q1, .int .i64 q2, .int .i64 q3],false⟩) rfl) underlying3 rfl rfl rfl)<|wa (aC aDa rfl (Ct.pick [1,2,3,0] 4 (by decide) rfl (BF rfl rfl bh_s hN hl))) ?_
 rintro _ _ ⟨T1,hT1,A_2,c_3,A_4,c_5,rfl,rfl⟩
 refine wg rfl<|aA<|aY [0,1,2] 4 (by decide) rfl ?_
 refine⟨_,rfl,?_⟩
 exact⟨T1,hT1,_,_,_,_,rfl,rfl⟩
set_option maxRecDepth 100000 in
theorem VL {B:Nat} {w0:World} {R:List Row} {g:Nat} {At Ap:Option Addr} {nt ct np cp:Nat} {s:List Int} {l:List (Int × Int)} {Ad:Option Addr} {nd cd:Nat} {N q0 q1 q2 q3:Int} {at_:Int} {s0:List Int} (hnt:nt=s.length) (hnp:np=(l++[(0,at_)]).length) (hl:l.length≤1000) (bh_s:aP s) (hN:s.length≤100000) (hok:ZJ s at_) (hb:jA s at_=s0):
  Ct Tryz.prog 30 #[.pointer (some ⟨g,0,none⟩), .agg #[.int .i64 3, .slice Ad nd cd, .int .i64 N, .int .i64 q0, .int .i64 q1, .int .i64 q2, .int .i64 q3]] B w0 (⟨102,2,(some ⟨g,0,none⟩),1,1,[.slice At nt ct, .slice Ap ((l++[(0,at_)]).length) cp],false⟩::⟨5,1,At,nt,ct,ints .u8 s,false⟩::⟨106,2,Ap,np,cp,prs (l++[(0,at_)]),false⟩::R) (fun v R'=> ∃(A8:Option Addr) (c8:Nat),v= .int .i64 0∧R'=⟨102,2,(some ⟨g,0,none⟩),1,1,[.slice A8 s0.length c8, .slice Ap l.length cp],false⟩::⟨5,1,A8,s0.length,c8,ints .u8 s0,false⟩::⟨106,2,Ap,l.length,cp,prs l,false⟩::R):=by
 subst hnt
 subst hnp
 refine fn1 Tryz.func30 rfl rfl rfl ?_
 refine wq<|wa (dZ (sz:=7) rfl rfl) ?_
 rintro _ _ ⟨g_1,rfl,rfl⟩
 refine wg rfl<|aA<|aF<|wq<|wm rfl<|wy (dJ underlying49 rfl rfl)<|aA<|aL rfl<|aM<|aF<|wq<|wy (aG (off:=0) (m:=0) underlying56 rfl sz3 rfl rfl rfl)<|wy (aK (rdR 0 (r:=⟨56,7,(some ⟨g_1,0,none⟩),1,1,[.int .i64 3, .slice Ad nd cd, .int .i64 N, .int .i64 q0, .int .i64 q1, .int .i64 q2, .int .i64 q3],false⟩) rfl) underlying3 rfl rfl rfl) ?_
 refine aA<|aI<|wq<|wy (Yl.f (bC rfl rfl) (by decide))<|wg rfl<|aA<|aL rfl<|wq<|wy (Yl.f (bC rfl rfl) (by decide))<|wg rfl<|aA<|aL rfl<|aF ?_
 refine aN<|wy (Yl.f (bC rfl rfl) (by decide))<|wg rfl<|aA<|aL rfl<|wq<|wy (Yl.f (bC rfl rfl) (by decide))<|wg rfl<|aA<|aL rfl<|wq<|wy (Yl.t (bC rfl rfl) (by decide))<|wg rfl ?_
 refine aA<|dN rfl<|wq<|wm rfl<|wa (bV .i64 [0,1] underlying52 zs3 rfl rfl rfl) ?_
 rintro _ _ ⟨g_3,rfl,rfl⟩
 refine wa (aC EH rfl (Ct.pick [2,3,4,0,1] 5 (by decide) rfl (BC rfl (rdR 0 (r:=⟨3,1,(some ⟨g_3,0,none⟩),2,2,ints .i64 ([0,1]),false⟩) rfl) rfl rfl (by simp) ⟨hl,by decide⟩ bh_s hN hok hb))) ?_
 rintro _ _ ⟨A_4,c_5,rfl,rfl⟩
 refine wg rfl<|aA<|aY [0,1,2] 5 (by decide) rfl ?_
 refine⟨_,rfl,?_⟩
 exact⟨_,_,rfl,rfl⟩
set_option maxRecDepth 100000 in
theorem VK {B:Nat} {w0:World} {R:List Row} {g:Nat} {At Ap:Option Addr} {nt ct np cp:Nat} {s:List Int} {l:List (Int × Int)} {Ad:Option Addr} {nd cd:Nat} {N q0 q1 q2 q3:Int} {at_:Int} {s0:List Int} (hnt:nt=s.length) (hnp:np=(l++[(1,at_)]).length) (hl:l.length≤1000) (bh_s:aP s) (hN:s.length≤100000) (hb:backL s (bT (fsL s))=s0):
  Ct Tryz.prog 30 #[.pointer (some ⟨g,0,none⟩), .agg #[.int .i64 3, .slice Ad nd cd, .int .i64 N, .int .i64 q0, .int .i64 q1, .int .i64 q2, .int .i64 q3]] B w0 (⟨102,2,(some ⟨g,0,none⟩),1,1,[.slice At nt ct, .slice Ap ((l++[(1,at_)]).length) cp],false⟩::⟨5,1,At,nt,ct,ints .u8 s,false⟩::⟨106,2,Ap,np,cp,prs (l++[(1,at_)]),false⟩::R) (fun v R'=> ∃(A8:Option Addr) (c8:Nat),v= .int .i64 0∧R'=⟨102,2,(some ⟨g,0,none⟩),1,1,[.slice A8 s0.length c8, .slice Ap l.length cp],false⟩::⟨5,1,A8,s0.length,c8,ints .u8 s0,false⟩::⟨106,2,Ap,l.length,cp,prs l,false⟩::R):=by
 subst hnt
 subst hnp
 refine fn1 Tryz.func30 rfl rfl rfl ?_
 refine wq<|wa (dZ (sz:=7) rfl rfl) ?_
 rintro _ _ ⟨g_1,rfl,rfl⟩
 refine wg rfl<|aA<|aF<|wq<|wm rfl<|wy (dJ underlying49 rfl rfl)<|aA<|aL rfl<|aM<|aF<|wq<|wy (aG (off:=0) (m:=0) underlying56 rfl sz3 rfl rfl rfl)<|wy (aK (rdR 0 (r:=⟨56,7,(some ⟨g_1,0,none⟩),1,1,[.int .i64 3, .slice Ad nd cd, .int .i64 N, .int .i64 q0, .int .i64 q1, .int .i64 q2, .int .i64 q3],false⟩) rfl) underlying3 rfl rfl rfl) ?_
 refine aA<|aI<|wq<|wy (Yl.f (bC rfl rfl) (by decide))<|wg rfl<|aA<|aL rfl<|wq<|wy (Yl.f (bC rfl rfl) (by decide))<|wg rfl<|aA<|aL rfl<|aF ?_
 refine aN<|wy (Yl.f (bC rfl rfl) (by decide))<|wg rfl<|aA<|aL rfl<|wq<|wy (Yl.f (bC rfl rfl) (by decide))<|wg rfl<|aA<|aL rfl<|wq<|wy (Yl.t (bC rfl rfl) (by decide))<|wg rfl ?_
 refine aA<|dN rfl<|wq<|wm rfl<|wa (bV .i64 [0,1] underlying52 zs3 rfl rfl rfl) ?_
 rintro _ _ ⟨g_3,rfl,rfl⟩
 refine wa (aC EH rfl (Ct.pick [2,3,4,0,1] 5 (by decide) rfl (BB rfl (rdR 0 (r:=⟨3,1,(some ⟨g_3,0,none⟩),2,2,ints .i64 ([0,1]),false⟩) rfl) rfl rfl (by simp) ⟨hl,by decide⟩ bh_s hN hb))) ?_
 rintro _ _ ⟨A_4,c_5,rfl,rfl⟩
 refine wg rfl<|aA<|aY [0,1,2] 5 (by decide) rfl ?_
 refine⟨_,rfl,?_⟩
 exact⟨_,_,rfl,rfl⟩
set_option maxRecDepth 100000 in
theorem VI {B:Nat} {w0:World} {R:List Row} {g:Nat} {At Ap:Option Addr} {nt ct np cp:Nat} {s:List Int} {l:List (Int × Int)} {Ad:Option Addr} {nd cd:Nat} {N q0 q1 q2 q3:Int} {at_:Int} {s0:List Int} (hnt:nt=s.length) (hnp:np=(l++[(2,at_)]).length) (hl:l.length≤1000) (bh_s:aP s) (hN:s.length≤100000) (hb:gL bO s=s0):
  Ct Tryz.prog 30 #[.pointer (some ⟨g,0,none⟩), .agg #[.int .i64 5, .slice Ad nd cd, .int .i64 N, .int .i64 q0, .int .i64 q1, .int .i64 q2, .int .i64 q3]] B w0 (⟨102,2,(some ⟨g,0,none⟩),1,1,[.slice At nt ct, .slice Ap ((l++[(2,at_)]).length) cp],false⟩::⟨5,1,At,nt,ct,ints .u8 s,false⟩::⟨106,2,Ap,np,cp,prs (l++[(2,at_)]),false⟩::R) (fun v R'=> ∃(A8:Option Addr) (c8:Nat),v= .int .i64 0∧R'=⟨102,2,(some ⟨g,0,none⟩),1,1,[.slice A8 s0.length c8, .slice Ap l.length cp],false⟩::⟨5,1,A8,s0.length,c8,ints .u8 s0,false⟩::⟨106,2,Ap,l.length,cp,prs l,false⟩::R):=by
 subst hnt
 subst hnp
 refine fn1 Tryz.func30 rfl rfl rfl ?_
 refine wq<|wa (dZ (sz:=7) rfl rfl) ?_
 rintro _ _ ⟨g_1,rfl,rfl⟩
 refine wg rfl<|aA<|aF<|wq<|wm rfl<|wy (dJ underlying49 rfl rfl)<|aA<|aL rfl<|aM<|aF<|wq<|wy (aG (off:=0) (m:=0) underlying56 rfl sz3 rfl rfl rfl)<|wy (aK (rdR 0 (r:=⟨56,7,(some ⟨g_1,0,none⟩),1,1,[.int .i64 5, .slice Ad nd cd, .int .i64 N, .int .i64 q0, .int .i64 q1, .int .i64 q2, .int .i64 q3],false⟩) rfl) underlying3 rfl rfl rfl) ?_
 refine aA<|aI<|wq<|wy (Yl.f (bC rfl rfl) (by decide))<|wg rfl<|aA<|aL rfl<|wq<|wy (Yl.f (bC rfl rfl) (by decide))<|wg rfl<|aA<|aL rfl<|aF ?_
 refine aN<|wy (Yl.f (bC rfl rfl) (by decide))<|wg rfl<|aA<|aL rfl<|wq<|wy (Yl.f (bC rfl rfl) (by decide))<|wg rfl<|aA<|aL rfl<|wq<|wy (Yl.f (bC rfl rfl) (by decide))<|wg rfl ?_
 refine aA<|aL rfl<|wq<|wy (Yl.t (bC rfl rfl) (by decide))<|wg rfl<|aA<|dN rfl<|wq<|wm rfl<|wa (bV .i64 [2] underlying52 zs3 rfl rfl rfl) ?_
 rintro _ _ ⟨g_3,rfl,rfl⟩
 refine wa (aC EH rfl (Ct.pick [2,3,4,0,1] 5 (by decide) rfl (BA rfl (rdR 0 (r:=⟨3,1,(some ⟨g_3,0,none⟩),1,1,ints .i64 ([2]),false⟩) rfl) rfl rfl (by simp) ⟨hl,by decide⟩ bh_s hN hb))) ?_
 rintro _ _ ⟨A_4,c_5,rfl,rfl⟩
 refine wg rfl<|aA<|aY [0,1,2] 5 (by decide) rfl ?_
 refine⟨_,rfl,?_⟩
 exact⟨_,_,rfl,rfl⟩
set_option maxRecDepth 100000 in
theorem VJ {B:Nat} {w0:World} {R:List Row} {g:Nat} {At Ap:Option Addr} {nt ct np cp:Nat} {s:List Int} {l:List (Int × Int)} {Ad:Option Addr} {nd cd:Nat} {N q0 q1 q2 q3:Int} {at_:Int} {K:Int} (hnt:nt=s.length) (hnp:np=(l++[(K,at_)]).length) (hl:l.length≤1000) (hin:K∉([0,1]:List Int)):
  Ct Tryz.prog 30 #[.pointer (some ⟨g,0,none⟩), .agg #[.int .i64 3, .slice Ad nd cd, .int .i64 N, .int .i64 q0, .int .i64 q1, .int .i64 q2, .int .i64 q3]] B w0 (⟨102,2,(some ⟨g,0,none⟩),1,1,[.slice At nt ct, .slice Ap ((l++[(K,at_)]).length) cp],false⟩::⟨5,1,At,nt,ct,ints .u8 s,false⟩::⟨106,2,Ap,np,cp,prs (l++[(K,at_)]),false⟩::R) (fun v R'=>v= .int .i64 6∧R'=⟨102,2,(some ⟨g,0,none⟩),1,1,[.slice At nt ct, .slice Ap np cp],false⟩::⟨5,1,At,nt,ct,ints .u8 s,false⟩::⟨106,2,Ap,np,cp,prs (l++[(K,at_)]),false⟩::R):=by
 subst hnt
 subst hnp
 refine fn1 Tryz.func30 rfl rfl rfl ?_
 refine wq<|wa (dZ (sz:=7) rfl rfl) ?_
 rintro _ _ ⟨g_1,rfl,rfl⟩
 refine wg rfl<|aA<|aF<|wq<|wm rfl<|wy (dJ underlying49 rfl rfl)<|aA<|aL rfl<|aM<|aF<|wq<|wy (aG (off:=0) (m:=0) underlying56 rfl sz3 rfl rfl rfl)<|wy (aK (rdR 0 (r:=⟨56,7,(some ⟨g_1,0,none⟩),1,1,[.int .i64 3, .slice Ad nd cd, .int .i64 N, .int .i64 q0, .int .i64 q1, .int .i64 q2, .int .i64 q3],false⟩) rfl) underlying3 rfl rfl rfl) ?_
 refine aA<|aI<|wq<|wy (Yl.f (bC rfl rfl) (by decide))<|wg rfl<|aA<|aL rfl<|wq<|wy (Yl.f (bC rfl rfl) (by decide))<|wg rfl<|aA<|aL rfl<|aF ?_
 refine aN<|wy (Yl.f (bC rfl rfl) (by decide))<|wg rfl<|aA<|aL rfl<|wq<|wy (Yl.f (bC rfl rfl) (by decide))<|wg rfl<|aA<|aL rfl<|wq<|wy (Yl.t (bC rfl rfl) (by decide))<|wg rfl ?_
 refine aA<|dN rfl<|wq<|wm rfl<|wa (bV .i64 [0,1] underlying52 zs3 rfl rfl rfl) ?_
 rintro _ _ ⟨g_3,rfl,rfl⟩
 refine wa (aC EH rfl (Ct.pick [2,3,4,0,1] 5 (by decide) rfl (mI rfl (rdR 0 (r:=⟨3,1,(some ⟨g_3,0,none⟩),2,2,ints .i64 ([0,1]),false⟩) rfl) rfl rfl hin ⟨hl,by decide⟩))) ?_
 rintro _ _ ⟨rfl,rfl⟩
 refine wg rfl<|aA<|aY [0,1,2] 5 (by decide) rfl ?_
 refine⟨_,rfl,?_⟩
 exact⟨rfl,rfl⟩
set_option maxRecDepth 100000 in
theorem EO {B:Nat} {w0:World} {R:List Row} {g:Nat} {At Ap:Option Addr} {nt ct np cp:Nat} {s:List Int} {l:List (Int × Int)} {Ad:Option Addr} {nd cd:Nat} {N q0 q1 q2 q3:Int} {at_:Int} {K:Int} (hnt:nt=s.length) (hnp:np=(l++[(K,at_)]).length) (hl:l.length≤1000) (hin:K∉([2]:List Int)):
  Ct Tryz.prog 30 #[.pointer (some ⟨g,0,none⟩), .agg #[.int .i64 5, .slice Ad nd cd, .int .i64 N, .int .i64 q0, .int .i64 q1, .int .i64 q2, .int .i64 q3]] B w0 (⟨102,2,(some ⟨g,0,none⟩),1,1,[.slice At nt ct, .slice Ap ((l++[(K,at_)]).length) cp],false⟩::⟨5,1,At,nt,ct,ints .u8 s,false⟩::⟨106,2,Ap,np,cp,prs (l++[(K,at_)]),false⟩::R) (fun v R'=>v= .int .i64 6∧R'=⟨102,2,(some ⟨g,0,none⟩),1,1,[.slice At nt ct, .slice Ap np cp],false⟩::⟨5,1,At,nt,ct,ints .u8 s,false⟩::⟨106,2,Ap,np,cp,prs (l++[(K,at_)]),false⟩::R):=by
 subst hnt
 subst hnp
 refine fn1 Tryz.func30 rfl rfl rfl ?_
 refine wq<|wa (dZ (sz:=7) rfl rfl) ?_
 rintro _ _ ⟨g_1,rfl,rfl⟩
 refine wg rfl<|aA<|aF<|wq<|wm rfl<|wy (dJ underlying49 rfl rfl)<|aA<|aL rfl<|aM<|aF<|wq<|wy (aG (off:=0) (m:=0) underlying56 rfl sz3 rfl rfl rfl)<|wy (aK (rdR 0 (r:=⟨56,7,(some ⟨g_1,0,none⟩),1,1,[.int .i64 5, .slice Ad nd cd, .int .i64 N, .int .i64 q0, .int .i64 q1, .int .i64 q2, .int .i64 q3],false⟩) rfl) underlying3 rfl rfl rfl) ?_
 refine aA<|aI<|wq<|wy (Yl.f (bC rfl rfl) (by decide))<|wg rfl<|aA<|aL rfl<|wq<|wy (Yl.f (bC rfl rfl) (by decide))<|wg rfl<|aA<|aL rfl<|aF ?_
 refine aN<|wy (Yl.f (bC rfl rfl) (by decide))<|wg rfl<|aA<|aL rfl<|wq<|wy (Yl.f (bC rfl rfl) (by decide))<|wg rfl<|aA<|aL rfl<|wq<|wy (Yl.f (bC rfl rfl) (by decide))<|wg rfl ?_
 refine aA<|aL rfl<|wq<|wy (Yl.t (bC rfl rfl) (by decide))<|wg rfl<|aA<|dN rfl<|wq<|wm rfl<|wa (bV .i64 [2] underlying52 zs3 rfl rfl rfl) ?_
 rintro _ _ ⟨g_3,rfl,rfl⟩
 refine wa (aC EH rfl (Ct.pick [2,3,4,0,1] 5 (by decide) rfl (mI rfl (rdR 0 (r:=⟨3,1,(some ⟨g_3,0,none⟩),1,1,ints .i64 ([2]),false⟩) rfl) rfl rfl hin ⟨hl,by decide⟩))) ?_
 rintro _ _ ⟨rfl,rfl⟩
 refine wg rfl<|aA<|aY [0,1,2] 5 (by decide) rfl ?_
 refine⟨_,rfl,?_⟩
 exact⟨rfl,rfl⟩
set_option maxRecDepth 100000 in
theorem vS {B:Nat} {w0:World} {R:List Row} {g:Nat} {At Ap:Option Addr} {nt ct np cp:Nat} {s:List Int} {l:List (Int × Int)} {Ad:Option Addr} {nd cd:Nat} {N q0 q1 q2 q3:Int} {at_:Int} {K:Int} (hnt:nt=s.length) (hnp:np=(l++[(K,at_)]).length) (hl:l.length≤1000) (hin:K∉([3]:List Int)):
  Ct Tryz.prog 30 #[.pointer (some ⟨g,0,none⟩), .agg #[.int .i64 7, .slice Ad nd cd, .int .i64 N, .int .i64 q0, .int .i64 q1, .int .i64 q2, .int .i64 q3]] B w0 (⟨102,2,(some ⟨g,0,none⟩),1,1,[.slice At nt ct, .slice Ap ((l++[(K,at_)]).length) cp],false⟩::⟨5,1,At,nt,ct,ints .u8 s,false⟩::⟨106,2,Ap,np,cp,prs (l++[(K,at_)]),false⟩::R) (fun v R'=>v= .int .i64 6∧R'=⟨102,2,(some ⟨g,0,none⟩),1,1,[.slice At nt ct, .slice Ap np cp],false⟩::⟨5,1,At,nt,ct,ints .u8 s,false⟩::⟨106,2,Ap,np,cp,prs (l++[(K,at_)]),false⟩::R):=by
 subst hnt
 subst hnp
 refine fn1 Tryz.func30 rfl rfl rfl ?_
 refine wq<|wa (dZ (sz:=7) rfl rfl) ?_
 rintro _ _ ⟨g_1,rfl,rfl⟩
 refine wg rfl<|aA<|aF<|wq<|wm rfl<|wy (dJ underlying49 rfl rfl)<|aA<|aL rfl<|aM<|aF<|wq<|wy (aG (off:=0) (m:=0) underlying56 rfl sz3 rfl rfl rfl)<|wy (aK (rdR 0 (r:=⟨56,7,(some ⟨g_1,0,none⟩),1,1,[.int .i64 7, .slice Ad nd cd, .int .i64 N, .int .i64 q0, .int .i64 q1, .int .i64 q2, .int .i64 q3],false⟩) rfl) underlying3 rfl rfl rfl) ?_
 refine aA<|aI<|wq<|wy (Yl.f (bC rfl rfl) (by decide))<|wg rfl<|aA<|aL rfl<|wq<|wy (Yl.f (bC rfl rfl) (by decide))<|wg rfl<|aA<|aL rfl<|aF ?_
 refine aN<|wy (Yl.f (bC rfl rfl) (by decide))<|wg rfl<|aA<|aL rfl<|wq<|wy (Yl.f (bC rfl rfl) (by decide))<|wg rfl<|aA<|aL rfl<|wq<|wy (Yl.f (bC rfl rfl) (by decide))<|wg rfl ?_
 refine aA<|aL rfl<|wq<|wy (Yl.f (bC rfl rfl) (by decide))<|wg rfl<|aA<|aL rfl<|wq<|wy (Yl.t (bC rfl rfl) (by decide))<|wg rfl<|aA<|dN rfl<|aF ?_
 refine aN<|wm rfl<|wa (bV .i64 [3] underlying52 zs3 rfl rfl rfl) ?_
 rintro _ _ ⟨g_3,rfl,rfl⟩
 refine wa (aC EH rfl (Ct.pick [2,3,4,0,1] 5 (by decide) rfl (mI rfl (rdR 0 (r:=⟨3,1,(some ⟨g_3,0,none⟩),1,1,ints .i64 ([3]),false⟩) rfl) rfl rfl hin ⟨hl,by decide⟩))) ?_
 rintro _ _ ⟨rfl,rfl⟩
 refine wg rfl<|aA<|aY [0,1,2] 5 (by decide) rfl ?_
 refine⟨_,rfl,?_⟩
 exact⟨rfl,rfl⟩
set_option maxRecDepth 100000 in
theorem vT {B:Nat} {w0:World} {R:List Row} {g:Nat} {At Ap:Option Addr} {nt ct cp:Nat} {s:List Int} {Ad:Option Addr} {nd cd:Nat} {N q0 q1 q2 q3:Int}:
  Ct Tryz.prog 30 #[.pointer (some ⟨g,0,none⟩), .agg #[.int .i64 3, .slice Ad nd cd, .int .i64 N, .int .i64 q0, .int .i64 q1, .int .i64 q2, .int .i64 q3]] B w0 (⟨102,2,(some ⟨g,0,none⟩),1,1,[.slice At nt ct, .slice Ap 0 cp],false⟩::⟨5,1,At,nt,ct,ints .u8 s,false⟩::⟨106,2,Ap,0,cp,prs ([]),false⟩::R) (fun v R'=>v= .int .i64 6∧R'=⟨102,2,(some ⟨g,0,none⟩),1,1,[.slice At nt ct, .slice Ap 0 cp],false⟩::⟨5,1,At,nt,ct,ints .u8 s,false⟩::⟨106,2,Ap,0,cp,prs ([]),false⟩::R):=by
 refine fn1 Tryz.func30 rfl rfl rfl ?_
 refine wq<|wa (dZ (sz:=7) rfl rfl) ?_
 rintro _ _ ⟨g_1,rfl,rfl⟩
 refine wg rfl<|aA<|aF<|wq<|wm rfl<|wy (dJ underlying49 rfl rfl)<|aA<|aL rfl<|aM<|aF<|wq<|wy (aG (off:=0) (m:=0) underlying56 rfl sz3 rfl rfl rfl)<|wy (aK (rdR 0 (r:=⟨56,7,(some ⟨g_1,0,none⟩),1,1,[.int .i64 3, .slice Ad nd cd, .int .i64 N, .int .i64 q0, .int .i64 q1, .int .i64 q2, .int .i64 q3],false⟩) rfl) underlying3 rfl rfl rfl) ?_
 refine aA<|aI<|wq<|wy (Yl.f (bC rfl rfl) (by decide))<|wg rfl<|aA<|aL rfl<|wq<|wy (Yl.f (bC rfl rfl) (by decide))<|wg rfl<|aA<|aL rfl<|aF ?_
 refine aN<|wy (Yl.f (bC rfl rfl) (by decide))<|wg rfl<|aA<|aL rfl<|wq<|wy (Yl.f (bC rfl rfl) (by decide))<|wg rfl<|aA<|aL rfl<|wq<|wy (Yl.t (bC rfl rfl) (by decide))<|wg rfl ?_
 refine aA<|dN rfl<|wq<|wm rfl<|wa (bV .i64 [0,1] underlying52 zs3 rfl rfl rfl) ?_
 rintro _ _ ⟨g_3,rfl,rfl⟩
 refine wa (aC EH rfl (Ct.pick [2,3,4,0,1] 5 (by decide) rfl (sF (rdR 0 (r:=⟨3,1,(some ⟨g_3,0,none⟩),2,2,ints .i64 ([0,1]),false⟩) rfl) rfl))) ?_
 rintro _ _ ⟨rfl,rfl⟩
 refine wg rfl<|aA<|aY [0,1,2] 5 (by decide) rfl ?_
 refine⟨_,rfl,?_⟩
 exact⟨rfl,rfl⟩
set_option maxRecDepth 100000 in
theorem VH {B:Nat} {w0:World} {R:List Row} {g:Nat} {At Ap:Option Addr} {nt ct cp:Nat} {s:List Int} {Ad:Option Addr} {nd cd:Nat} {N q0 q1 q2 q3:Int}:
  Ct Tryz.prog 30 #[.pointer (some ⟨g,0,none⟩), .agg #[.int .i64 5, .slice Ad nd cd, .int .i64 N, .int .i64 q0, .int .i64 q1, .int .i64 q2, .int .i64 q3]] B w0 (⟨102,2,(some ⟨g,0,none⟩),1,1,[.slice At nt ct, .slice Ap 0 cp],false⟩::⟨5,1,At,nt,ct,ints .u8 s,false⟩::⟨106,2,Ap,0,cp,prs ([]),false⟩::R) (fun v R'=>v= .int .i64 6∧R'=⟨102,2,(some ⟨g,0,none⟩),1,1,[.slice At nt ct, .slice Ap 0 cp],false⟩::⟨5,1,At,nt,ct,ints .u8 s,false⟩::⟨106,2,Ap,0,cp,prs ([]),false⟩::R):=by
 refine fn1 Tryz.func30 rfl rfl rfl ?_
 refine wq<|wa (dZ (sz:=7) rfl rfl) ?_
 rintro _ _ ⟨g_1,rfl,rfl⟩
 refine wg rfl<|aA<|aF<|wq<|wm rfl<|wy (dJ underlying49 rfl rfl)<|aA<|aL rfl<|aM<|aF<|wq<|wy (aG (off:=0) (m:=0) underlying56 rfl sz3 rfl rfl rfl)<|wy (aK (rdR 0 (r:=⟨56,7,(some ⟨g_1,0,none⟩),1,1,[.int .i64 5, .slice Ad nd cd, .int .i64 N, .int .i64 q0, .int .i64 q1, .int .i64 q2, .int .i64 q3],false⟩) rfl) underlying3 rfl rfl rfl) ?_
 refine aA<|aI<|wq<|wy (Yl.f (bC rfl rfl) (by decide))<|wg rfl<|aA<|aL rfl<|wq<|wy (Yl.f (bC rfl rfl) (by decide))<|wg rfl<|aA<|aL rfl<|aF ?_
 refine aN<|wy (Yl.f (bC rfl rfl) (by decide))<|wg rfl<|aA<|aL rfl<|wq<|wy (Yl.f (bC rfl rfl) (by decide))<|wg rfl<|aA<|aL rfl<|wq<|wy (Yl.f (bC rfl rfl) (by decide))<|wg rfl ?_
 refine aA<|aL rfl<|wq<|wy (Yl.t (bC rfl rfl) (by decide))<|wg rfl<|aA<|dN rfl<|wq<|wm rfl<|wa (bV .i64 [2] underlying52 zs3 rfl rfl rfl) ?_
 rintro _ _ ⟨g_3,rfl,rfl⟩
 refine wa (aC EH rfl (Ct.pick [2,3,4,0,1] 5 (by decide) rfl (sF (rdR 0 (r:=⟨3,1,(some ⟨g_3,0,none⟩),1,1,ints .i64 ([2]),false⟩) rfl) rfl))) ?_
 rintro _ _ ⟨rfl,rfl⟩
 refine wg rfl<|aA<|aY [0,1,2] 5 (by decide) rfl ?_
 refine⟨_,rfl,?_⟩
 exact⟨rfl,rfl⟩
open Tryz
set_option linter.unusedVariables false
theorem EM {B:Nat} {w0:World} {R:List Row} {g:Nat} {At Ap:Option Addr} {nt ct np cp:Nat} {s:List Int} {l:List (Int × Int)} {Ad:Option Addr} {nd cd:Nat} {N q0 q1 q2 q3:Int} (hnt:nt=s.length) (hnp:np=l.length) (bh_s:aP s) (hN:s.length≤100000) (hl:l.length≤1000) (hn:N=1):
  Ct Tryz.prog 30 #[.pointer (some ⟨g,0,none⟩), .agg #[.int .i64 2, .slice Ad nd cd, .int .i64 N, .int .i64 q0, .int .i64 q1, .int .i64 q2, .int .i64 q3]] B w0 (⟨102,2,(some ⟨g,0,none⟩),1,1,[.slice At nt ct, .slice Ap np cp],false⟩::⟨5,1,At,nt,ct,ints .u8 s,false⟩::⟨106,2,Ap,np,cp,prs l,false⟩::R) (fun v R'=> ∃b:List Int,(b.Perm (iota s.length)∧b.Pairwise (bI s))∧ ∃(A8:Option Addr) (c8:Nat) (A7:Option Addr) (c7:Nat),v= .int .i64 0∧R'=⟨102,2,(some ⟨g,0,none⟩),1,1,[.slice A8 ((ofL s b).length) c8, .slice A7 ((l++[(0,zat b)]).length) c7],false⟩::⟨5,1,A8,(ofL s b).length,c8,ints .u8 (ofL s b),false⟩::⟨106,2,A7,(l++[(0,zat b)]).length,c7,prs (l++[(0,zat b)]),false⟩::R):=by
 subst hn
 exact JK hnt hnp bh_s hN hl
theorem EL {B:Nat} {w0:World} {R:List Row} {g:Nat} {At Ap:Option Addr} {nt ct np cp:Nat} {s:List Int} {l:List (Int × Int)} {Ad:Option Addr} {nd cd:Nat} {N q0 q1 q2 q3:Int} (hnt:nt=s.length) (hnp:np=l.length) (bh_s:aP s) (hN:s.length≤100000) (hl:l.length≤1000) (hn:N=2):
  Ct Tryz.prog 30 #[.pointer (some ⟨g,0,none⟩), .agg #[.int .i64 2, .slice Ad nd cd, .int .i64 N, .int .i64 q0, .int .i64 q1, .int .i64 q2, .int .i64 q3]] B w0 (⟨102,2,(some ⟨g,0,none⟩),1,1,[.slice At nt ct, .slice Ap np cp],false⟩::⟨5,1,At,nt,ct,ints .u8 s,false⟩::⟨106,2,Ap,np,cp,prs l,false⟩::R) (fun v R'=> ∃T:List (Int × Int),(T.Perm (fB (bws s) (bws s).length)∧T.Pairwise (tF (bws s)))∧ ∃(A8:Option Addr) (c8:Nat) (A7:Option Addr) (c7:Nat),v= .int .i64 0∧R'=⟨102,2,(some ⟨g,0,none⟩),1,1,[.slice A8 T.length c8, .slice A7 ((l++[(1,0)]).length) c7],false⟩::⟨5,1,A8,T.length,c8,ints .u8 (T.map (lastB (bws s))),false⟩::⟨106,2,A7,(l++[(1,0)]).length,c7,prs (l++[(1,0)]),false⟩::R):=by
 subst hn
 exact JJ hnt hnp bh_s hN hl
set_option maxRecDepth 100000 in
theorem VG {w:World} {Ad:Option Addr} {nd cd:Nat} {K N q0 q1 q2 q3:Int}:
  Ct Tryz.prog 30 #[.pointer none, .agg #[.int .i64 K, .slice Ad nd cd, .int .i64 N, .int .i64 q0, .int .i64 q1, .int .i64 q2, .int .i64 q3]] w.heap.size w [] (fun v R'=>v= .int .i64 1):=by
 refine fn1 Tryz.func30 rfl rfl rfl ?_
 refine wq<|wa (dZ (sz:=7) rfl rfl) ?_
 rintro _ _ ⟨g_1,rfl,rfl⟩
 refine wg rfl<|aA<|aF<|wq<|wm rfl<|wy (dJ underlying49 rfl rfl)<|aA<|dN rfl<|wq<|wg rfl<|aA<|aY [] 99 (by decide) rfl ?_
 refine⟨_,rfl,?_⟩
 rfl
set_option maxRecDepth 100000 in
theorem lQ {w:World}:
  Ct Tryz.prog 35 #[] w.heap.size w [] (fun v R'=>v= .bool true):=by
 refine fn1 Tryz.func35 rfl rfl rfl ?_
 refine wq<|wg rfl<|aA<|wq<|wa (aC aBu rfl (Ct.fresh (fun w hw=>vH))) ?_
 rintro _ _ ⟨_,rfl,g_1,rfl,rfl⟩
 refine wg rfl<|aA<|wq<|wm rfl<|wy (WO underlying49 rfl rfl)<|wm rfl<|aD rfl rfl<|wm rfl<|aD rfl rfl<|wy (bS (v:= .agg #[.int .i64 3, .slice none 0 0, .int .i64 0, .int .i64 0, .int .i64 0, .int .i64 0, .int .i64 0]) rfl (fun w=>by kernel_rfl))<|aD rfl rfl<|wa (aC lU rfl ((vT (s:=[])))) ?_
 rintro _ _ ⟨rfl,rfl⟩
 refine aD rfl rfl<|wy (Yl.t (bC rfl rfl) (by decide))<|wy (aX rfl rfl)<|wm rfl<|aD rfl rfl<|wm rfl<|aD rfl rfl<|wa (aC VA rfl ((lV rfl rfl))) ?_
 rintro _ _ ⟨rfl,rfl⟩
 refine aD rfl rfl<|wy (Yl.t (bC rfl rfl) (by decide))<|wy (aX rfl rfl)<|wm rfl<|aD rfl rfl<|wm rfl<|aD rfl rfl<|wa (aC JG rfl ((jK rfl rfl (by decide)))) ?_
 rintro _ _ ⟨A_2,c_3,rfl,rfl⟩
 refine aD rfl rfl<|wy (aV underlying22 rfl)<|aD rfl rfl<|wy (Yl.t (bC rfl rfl) (by decide))<|wy (aX rfl rfl)<|wg rfl<|aA<|aY [] 99 (by decide) rfl ?_
 refine⟨_,rfl,?_⟩
 rfl
set_option maxRecDepth 100000 in
set_option maxHeartbeats 2000000 in
theorem IJ {w:World} {A_u:Option Addr} {n_u c_u:Nat} {u:List Int} {n:Int} {p:Prop} [Decidable p] (h_u:Rd w A_u n_u c_u 1 (ints .u8 u)) (bh_u:aP u):
  Ct Tryz.prog 14 #[.slice A_u n_u c_u, .int .i64 n, .bool (decide p)] w.heap.size w [] (fun v R'=>v= .bool true):=by
 obtain rfl:=h_u.lenI
 refine fn1 Tryz.func14 rfl rfl rfl ?_
 have m_u:=h_u.max
 refine wq<|wg rfl<|aA<|aF<|wq<|wm rfl<|wy (aV underlying22 rfl)<|wy (kU rfl rfl)<|wm rfl<|gH 7 [(0, .slice A_u u.length c_u),(1, .int .i64 n),(2, .bool (decide p)),(24, .bool (decide ((60<((u.length:Nat):Int))∨((n≠1)∧(n≠2)))))] [] ?_ ?_
 ·refine fA 17 rfl (fun hc1=> ?_) (fun hc1=> ?_)
  ·refine aT rfl rfl rfl rfl<|aT rfl rfl rfl rfl<|aT rfl rfl rfl rfl<|eZ rfl rfl rfl<|eZ rfl rfl rfl<|aT rfl rfl rfl rfl<|wy (aX rfl rfl)<|aA ?_
   exact⟨(sc rfl (sc rfl (sc rfl (Sub.to rfl (CX (by first|omega|exact⟨fun h=>⟨(by assumption),h⟩,fun h=>h.2⟩|exact .inl (by assumption)|exact⟨.inr,fun h=>h.resolve_left (by assumption)⟩|exact⟨fun h=>h.resolve_left (by assumption), .inr⟩|simp[*])) Sub.nil)))),fun _ h=>h⟩
  ·refine aD rfl rfl<|wm rfl<|aD rfl rfl<|wy (qW rfl rfl)<|aD rfl rfl<|wm rfl<|gH 3 [(0, .slice A_u u.length c_u),(1, .int .i64 n),(2, .bool (decide p)),(17, .bool false),(23, .bool (decide ((n≠1)∧(n≠2))))] [] ?_ ?_
   ·refine fA 20 rfl (fun hc2=> ?_) (fun hc2=> ?_)
    ·refine aD rfl rfl<|wm rfl<|aD rfl rfl<|wy (qW rfl rfl)<|aD rfl rfl<|wy (aX rfl rfl)<|aA ?_
     exact⟨(sc rfl (sc rfl (sc rfl (sc rfl (Sub.to rfl (mb (by first|omega|exact⟨fun h=>⟨(by assumption),h⟩,fun h=>h.2⟩|exact .inl (by assumption)|exact⟨.inr,fun h=>h.resolve_left (by assumption)⟩|exact⟨fun h=>h.resolve_left (by assumption), .inr⟩|simp[*])) Sub.nil))))),fun _ h=>h⟩
    ·refine aT rfl rfl rfl rfl<|aT rfl rfl rfl rfl<|aD rfl rfl<|wy (bG rfl rfl)<|aA ?_
     exact⟨(sc rfl (sc rfl (sc rfl (sc rfl (Sub.to rfl (zJ (by first|omega|exact⟨fun h=>⟨(by assumption),h⟩,fun h=>h.2⟩|exact .inl (by assumption)|exact⟨.inr,fun h=>h.resolve_left (by assumption)⟩|exact⟨fun h=>h.resolve_left (by assumption), .inr⟩|simp[*])) Sub.nil))))),fun _ h=>h⟩
   refine wy (bG rfl rfl)<|aA ?_
   exact⟨(sc rfl (sc rfl (sc rfl (Sub.to rfl (mb (by first|omega|exact⟨fun h=>⟨(by assumption),h⟩,fun h=>h.2⟩|exact .inl (by assumption)|exact⟨.inr,fun h=>h.resolve_left (by assumption)⟩|exact⟨fun h=>h.resolve_left (by assumption), .inr⟩|simp[*])) Sub.nil)))),fun _ h=>h⟩
 refine aA<|bR rfl (fun hc3=> ?_) (fun hc3=> ?_)
 ·refine wq<|wg rfl<|aA<|fC ?_
  refine⟨_,rfl,?_⟩
  rfl
 ·refine aM<|wq<|wa (aC aBu rfl (Ct.fresh (fun w hw=>vH))) ?_
  rintro _ _ ⟨_,rfl,g_1,rfl,rfl⟩
  refine wg rfl<|aA<|aF<|wq<|wm rfl<|wy (dJ underlying49 rfl rfl)<|wm rfl<|aD rfl rfl<|wm rfl<|aD rfl rfl<|wm rfl<|aD rfl rfl<|wy (bS (v:= .agg #[.int .i64 1, .slice A_u u.length c_u, .int .i64 0, .int .i64 0, .int .i64 0, .int .i64 0, .int .i64 0]) rfl (fun w=>by kernel_rfl))<|aD rfl rfl ?_
  refine wa (aC lU rfl ((EN rfl rfl (h_u.c _) rfl (by omega)))) ?_
  rintro _ _ ⟨A_2,c_3,rfl,rfl⟩
  refine aD rfl rfl<|wy (Yl.f (qW rfl rfl) (by decide))<|wy (bG rfl rfl)<|aA<|aL rfl<|aM<|wq<|wg rfl<|wg rfl<|aA<|wq<|wg rfl<|aA ?_
  refine aF<|wq<|wm rfl<|aA<|bR rfl (fun hc4=> ?_) (fun hc4=> ?_)
  ·refine wq<|wg rfl<|wg rfl<|aA<|aN<|wm rfl<|wy (bS (v:= .agg #[.int .i64 4, .slice none 0 0, .int .i64 0, .int .i64 0, .int .i64 0, .int .i64 0, .int .i64 0]) rfl (fun w=>by kernel_rfl))<|wa (aC lU rfl ((JL rfl rfl bh_u (by omega) (by decide)))) ?_
   rintro _ _ ⟨A_4,c_5,A_6,c_7,rfl,rfl⟩
   refine wg rfl<|aA<|wq<|wm rfl<|wm rfl<|wy (bS (v:= .agg #[.int .i64 3, .slice none 0 0, .int .i64 0, .int .i64 0, .int .i64 0, .int .i64 0, .int .i64 0]) rfl (fun w=>by kernel_rfl))<|wa (aC lU rfl ((VJ rfl rfl (by decide) (by decide)))) ?_
   rintro _ _ ⟨rfl,rfl⟩
   refine wm rfl<|wy (bS (v:= .agg #[.int .i64 7, .slice none 0 0, .int .i64 0, .int .i64 0, .int .i64 0, .int .i64 0, .int .i64 0]) rfl (fun w=>by kernel_rfl))<|wa (aC lU rfl ((vS rfl rfl (by decide) (by decide)))) ?_
   rintro _ _ ⟨rfl,rfl⟩
   refine wg rfl<|wg rfl<|aA<|wq<|wm rfl<|wm rfl<|wy (bS (v:= .agg #[.int .i64 5, .slice none 0 0, .int .i64 0, .int .i64 0, .int .i64 0, .int .i64 0, .int .i64 0]) rfl (fun w=>by kernel_rfl))<|wa (aC lU rfl ((VI (s0:=u) (l:=[]) rfl rfl (by decide) (IP bh_u) (by rw[kY];omega) (GD bh_u)))) ?_
   rintro _ _ ⟨A_8,c_9,rfl,rfl⟩
   refine wg rfl<|aA<|aF<|dQ mixed<|bH 0 rfl (by kernel_rfl) rfl (aJ rfl)<|bH 1 rfl (by kernel_rfl) rfl (Yl.t (bC rfl rfl) (by decide))<|bH 2 rfl (by kernel_rfl) rfl (aJ rfl)<|aU 3 rfl (by kernel_rfl) rfl rfl rfl (aJ rfl)<|aU 4 rfl (by kernel_rfl) rfl rfl rfl (Yl.t (bC rfl rfl) (by decide))<|bH 5 rfl (by kernel_rfl) rfl (aX rfl rfl)<|bH 6 rfl (by kernel_rfl) rfl (aJ rfl)<|aU 7 rfl (by kernel_rfl) rfl rfl rfl (aJ rfl)<|aU 8 rfl (by kernel_rfl) rfl rfl rfl (Yl.t (bC rfl rfl) (by decide))<|bH 9 rfl (by kernel_rfl) rfl (aX rfl rfl)<|bH 10 rfl (by kernel_rfl) rfl (aJ rfl) ?_
   refine aU 11 rfl (by kernel_rfl) rfl rfl rfl (aJ rfl)<|aU 12 rfl (by kernel_rfl) rfl rfl rfl (Yl.t (bC rfl rfl) (by decide))<|bH 13 rfl (by kernel_rfl) rfl (aX rfl rfl)<|bH 14 rfl (by kernel_rfl) rfl (aJ rfl)<|aU 15 rfl (by kernel_rfl) rfl rfl rfl (aJ rfl)<|aU 18 rfl (by kernel_rfl) rfl rfl rfl (aJ rfl)<|aU 19 rfl (by kernel_rfl) rfl rfl rfl (iO underlying22 underlying5 underlying9 rfl (h_u.c _))<|iE 16 rfl (by kernel_rfl) rfl rfl rfl (aC JG rfl ((jK rfl rfl (by omega)))) ?_
   rintro _ _ ⟨A_10,c_11,rfl,rfl⟩
   refine⟨.inr fun _ h=>h.right (R':=[_]),?_⟩
   refine aU 17 rfl (by kernel_rfl) rfl rfl rfl (iO underlying22 underlying5 underlying9 rfl (rdr 0 rfl))<|aU 20 rfl (by kernel_rfl) rfl rfl rfl (Yl.t (KA rfl rfl bh_u bh_u) (rfl))<|bH 21 rfl (by kernel_rfl) rfl (aX rfl rfl)<|bH 22 rfl (by kernel_rfl) rfl (aJ rfl)<|aU 23 rfl (by kernel_rfl) rfl rfl rfl (aJ rfl)<|iE 24 rfl (by kernel_rfl) rfl rfl rfl (aC VA rfl (Ct.pick [1,2,3,0] 99 (by decide) rfl (lV rfl rfl))) ?_
   rintro _ _ ⟨rfl,rfl⟩
   refine⟨.inl (by kernel_rfl),?_⟩
   refine aU 25 rfl (by kernel_rfl) rfl rfl rfl (Yl.t (bC rfl rfl) (by decide))<|bH 26 rfl (by kernel_rfl) rfl (aX rfl rfl)<|bH 27 rfl (by kernel_rfl) rfl (aJ rfl)<|aU 28 rfl (by kernel_rfl) rfl rfl rfl (aJ rfl)<|aU 29 rfl (by kernel_rfl) rfl rfl rfl (aJ rfl)<|aU 30 rfl (by kernel_rfl) rfl rfl rfl (bS (v:= .agg #[.int .i64 5, .slice none 0 0, .int .i64 0, .int .i64 0, .int .i64 0, .int .i64 0, .int .i64 0]) rfl (fun w=>by kernel_rfl))<|iE 31 rfl (by kernel_rfl) rfl rfl rfl (aC lU rfl ((VH (s:=u)))) ?_
   rintro _ _ ⟨rfl,rfl⟩
   refine⟨.inr fun _ h=>h,?_⟩
   refine aU 32 rfl (by kernel_rfl) rfl rfl rfl (Yl.t (bC rfl rfl) (by decide))<|bH 33 rfl (by kernel_rfl) rfl (aX rfl rfl)<|bH 34 rfl (by kernel_rfl) rfl (aJ rfl)<|iE 35 rfl (by kernel_rfl) rfl rfl rfl (aC YR rfl (Ct.quiet (fun w hw=>lQ))) ?_
   rintro _ _ ⟨rfl,rfl⟩
   refine⟨.inr fun _ h=>h,?_⟩
   refine bH 36 rfl (by kernel_rfl) rfl (aX rfl rfl)<|bH 37 rfl (by kernel_rfl) rfl (iU rfl)<|dD (by kernel_rfl)<|aY [] 99 (by decide) rfl ?_
   refine⟨_,rfl,?_⟩
   rfl
  ·refine aN<|wm rfl<|wm rfl<|wy (bS (v:= .agg #[.int .i64 2, .slice none 0 0, .int .i64 n, .int .i64 0, .int .i64 0, .int .i64 0, .int .i64 0]) rfl (fun w=>by kernel_rfl)) ?_
   refine(Classical.em (n=1)).elim (fun hn=> ?_) (fun hn=> ?_)
   ·refine wa (aC lU rfl ((EM rfl rfl bh_u (by omega) (by decide) hn))) ?_
    rintro _ _ ⟨b1,hb1,A_13,c_14,A_15,c_16,rfl,rfl⟩
    refine wg rfl<|aA<|wq<|wm rfl<|wm rfl<|wy (bS (v:= .agg #[.int .i64 5, .slice none 0 0, .int .i64 0, .int .i64 0, .int .i64 0, .int .i64 0, .int .i64 0]) rfl (fun w=>by kernel_rfl))<|wa (aC lU rfl ((EO rfl rfl (by decide) (by decide)))) ?_
    rintro _ _ ⟨rfl,rfl⟩
    refine wm rfl<|wy (bS (v:= .agg #[.int .i64 7, .slice none 0 0, .int .i64 0, .int .i64 0, .int .i64 0, .int .i64 0, .int .i64 0]) rfl (fun w=>by kernel_rfl))<|wa (aC lU rfl ((vS rfl rfl (by decide) (by decide)))) ?_
    rintro _ _ ⟨rfl,rfl⟩
    refine wg rfl<|wg rfl<|aA<|wq<|wm rfl<|wm rfl<|wy (bS (v:= .agg #[.int .i64 3, .slice none 0 0, .int .i64 0, .int .i64 0, .int .i64 0, .int .i64 0, .int .i64 0]) rfl (fun w=>by kernel_rfl))<|wa (aC lU rfl ((VL (s0:=u) (l:=[]) rfl rfl (by decide) (XY bh_u hb1.1) (by rw[(TN hb1.1 hb1.2).length_eq];omega) (sG bh_u hb1.1 hb1.2).1 (sG bh_u hb1.1 hb1.2).2))) ?_
    rintro _ _ ⟨A_17,c_18,rfl,rfl⟩
    refine wg rfl<|aA<|aF<|dQ mixed<|bH 0 rfl (by kernel_rfl) rfl (aJ rfl)<|bH 1 rfl (by kernel_rfl) rfl (Yl.t (bC rfl rfl) (by decide))<|bH 2 rfl (by kernel_rfl) rfl (aJ rfl)<|aU 3 rfl (by kernel_rfl) rfl rfl rfl (aJ rfl)<|aU 4 rfl (by kernel_rfl) rfl rfl rfl (Yl.t (bC rfl rfl) (by decide))<|bH 5 rfl (by kernel_rfl) rfl (aX rfl rfl)<|bH 6 rfl (by kernel_rfl) rfl (aJ rfl)<|aU 7 rfl (by kernel_rfl) rfl rfl rfl (aJ rfl)<|aU 8 rfl (by kernel_rfl) rfl rfl rfl (Yl.t (bC rfl rfl) (by decide))<|bH 9 rfl (by kernel_rfl) rfl (aX rfl rfl)<|bH 10 rfl (by kernel_rfl) rfl (aJ rfl) ?_
    refine aU 11 rfl (by kernel_rfl) rfl rfl rfl (aJ rfl)<|aU 12 rfl (by kernel_rfl) rfl rfl rfl (Yl.t (bC rfl rfl) (by decide))<|bH 13 rfl (by kernel_rfl) rfl (aX rfl rfl)<|bH 14 rfl (by kernel_rfl) rfl (aJ rfl)<|aU 15 rfl (by kernel_rfl) rfl rfl rfl (aJ rfl)<|aU 18 rfl (by kernel_rfl) rfl rfl rfl (aJ rfl)<|aU 19 rfl (by kernel_rfl) rfl rfl rfl (iO underlying22 underlying5 underlying9 rfl (h_u.c _))<|iE 16 rfl (by kernel_rfl) rfl rfl rfl (aC JG rfl ((jK rfl rfl (by omega)))) ?_
    rintro _ _ ⟨A_19,c_20,rfl,rfl⟩
    refine⟨.inr fun _ h=>h.right (R':=[_]),?_⟩
    refine aU 17 rfl (by kernel_rfl) rfl rfl rfl (iO underlying22 underlying5 underlying9 rfl (rdr 0 rfl))<|aU 20 rfl (by kernel_rfl) rfl rfl rfl (Yl.t (KA rfl rfl bh_u bh_u) (rfl))<|bH 21 rfl (by kernel_rfl) rfl (aX rfl rfl)<|bH 22 rfl (by kernel_rfl) rfl (aJ rfl)<|aU 23 rfl (by kernel_rfl) rfl rfl rfl (aJ rfl)<|iE 24 rfl (by kernel_rfl) rfl rfl rfl (aC VA rfl (Ct.pick [1,2,3,0] 99 (by decide) rfl (lV rfl rfl))) ?_
    rintro _ _ ⟨rfl,rfl⟩
    refine⟨.inl (by kernel_rfl),?_⟩
    refine aU 25 rfl (by kernel_rfl) rfl rfl rfl (Yl.t (bC rfl rfl) (by decide))<|bH 26 rfl (by kernel_rfl) rfl (aX rfl rfl)<|bH 27 rfl (by kernel_rfl) rfl (aJ rfl)<|aU 28 rfl (by kernel_rfl) rfl rfl rfl (aJ rfl)<|aU 29 rfl (by kernel_rfl) rfl rfl rfl (aJ rfl)<|aU 30 rfl (by kernel_rfl) rfl rfl rfl (bS (v:= .agg #[.int .i64 3, .slice none 0 0, .int .i64 0, .int .i64 0, .int .i64 0, .int .i64 0, .int .i64 0]) rfl (fun w=>by kernel_rfl))<|iE 31 rfl (by kernel_rfl) rfl rfl rfl (aC lU rfl ((vT (s:=u)))) ?_
    rintro _ _ ⟨rfl,rfl⟩
    refine⟨.inr fun _ h=>h,?_⟩
    refine aU 32 rfl (by kernel_rfl) rfl rfl rfl (Yl.t (bC rfl rfl) (by decide))<|bH 33 rfl (by kernel_rfl) rfl (aX rfl rfl)<|bH 34 rfl (by kernel_rfl) rfl (aJ rfl)<|iE 35 rfl (by kernel_rfl) rfl rfl rfl (aC YR rfl (Ct.quiet (fun w hw=>lQ))) ?_
    rintro _ _ ⟨rfl,rfl⟩
    refine⟨.inr fun _ h=>h,?_⟩
    refine bH 36 rfl (by kernel_rfl) rfl (aX rfl rfl)<|bH 37 rfl (by kernel_rfl) rfl (iU rfl)<|dD (by kernel_rfl)<|aY [] 99 (by decide) rfl ?_
    refine⟨_,rfl,?_⟩
    rfl
   ·refine wa (aC lU rfl ((EL rfl rfl bh_u (by omega) (by decide) (by omega)))) ?_
    rintro _ _ ⟨T1,hT1,A_22,c_23,A_24,c_25,rfl,rfl⟩
    refine wg rfl<|aA<|wq<|wm rfl<|wm rfl<|wy (bS (v:= .agg #[.int .i64 5, .slice none 0 0, .int .i64 0, .int .i64 0, .int .i64 0, .int .i64 0, .int .i64 0]) rfl (fun w=>by kernel_rfl))<|wa (aC lU rfl ((EO (by rw[List.length_map]) rfl (by decide) (by decide)))) ?_
    rintro _ _ ⟨rfl,rfl⟩
    refine wm rfl<|wy (bS (v:= .agg #[.int .i64 7, .slice none 0 0, .int .i64 0, .int .i64 0, .int .i64 0, .int .i64 0, .int .i64 0]) rfl (fun w=>by kernel_rfl))<|wa (aC lU rfl ((vS (by rw[List.length_map]) rfl (by decide) (by decide)))) ?_
    rintro _ _ ⟨rfl,rfl⟩
    refine wg rfl<|wg rfl<|aA<|wq<|wm rfl<|wm rfl<|wy (bS (v:= .agg #[.int .i64 3, .slice none 0 0, .int .i64 0, .int .i64 0, .int .i64 0, .int .i64 0, .int .i64 0]) rfl (fun w=>by kernel_rfl))<|wa (aC lU rfl ((VK (s0:=u) (l:=[]) (by rw[List.length_map]) rfl (by decide) (DD hT1.1 (by rw[wE];exact bh_u)) (by rw[List.length_map,MQ hT1.1];omega) (PX bh_u hT1.1 hT1.2)))) ?_
    rintro _ _ ⟨A_26,c_27,rfl,rfl⟩
    refine wg rfl<|aA<|aF<|dQ mixed<|bH 0 rfl (by kernel_rfl) rfl (aJ rfl)<|bH 1 rfl (by kernel_rfl) rfl (Yl.t (bC rfl rfl) (by decide))<|bH 2 rfl (by kernel_rfl) rfl (aJ rfl)<|aU 3 rfl (by kernel_rfl) rfl rfl rfl (aJ rfl)<|aU 4 rfl (by kernel_rfl) rfl rfl rfl (Yl.t (bC rfl rfl) (by decide))<|bH 5 rfl (by kernel_rfl) rfl (aX rfl rfl)<|bH 6 rfl (by kernel_rfl) rfl (aJ rfl)<|aU 7 rfl (by kernel_rfl) rfl rfl rfl (aJ rfl)<|aU 8 rfl (by kernel_rfl) rfl rfl rfl (Yl.t (bC rfl rfl) (by decide))<|bH 9 rfl (by kernel_rfl) rfl (aX rfl rfl)<|bH 10 rfl (by kernel_rfl) rfl (aJ rfl) ?_
    refine aU 11 rfl (by kernel_rfl) rfl rfl rfl (aJ rfl)<|aU 12 rfl (by kernel_rfl) rfl rfl rfl (Yl.t (bC rfl rfl) (by decide))<|bH 13 rfl (by kernel_rfl) rfl (aX rfl rfl)<|bH 14 rfl (by kernel_rfl) rfl (aJ rfl)<|aU 15 rfl (by kernel_rfl) rfl rfl rfl (aJ rfl)<|aU 18 rfl (by kernel_rfl) rfl rfl rfl (aJ rfl)<|aU 19 rfl (by kernel_rfl) rfl rfl rfl (iO underlying22 underlying5 underlying9 rfl (h_u.c _))<|iE 16 rfl (by kernel_rfl) rfl rfl rfl (aC JG rfl ((jK rfl rfl (by omega)))) ?_
    rintro _ _ ⟨A_28,c_29,rfl,rfl⟩
    refine⟨.inr fun _ h=>h.right (R':=[_]),?_⟩
    refine aU 17 rfl (by kernel_rfl) rfl rfl rfl (iO underlying22 underlying5 underlying9 rfl (rdr 0 rfl))<|aU 20 rfl (by kernel_rfl) rfl rfl rfl (Yl.t (KA rfl rfl bh_u bh_u) (rfl))<|bH 21 rfl (by kernel_rfl) rfl (aX rfl rfl)<|bH 22 rfl (by kernel_rfl) rfl (aJ rfl)<|aU 23 rfl (by kernel_rfl) rfl rfl rfl (aJ rfl)<|iE 24 rfl (by kernel_rfl) rfl rfl rfl (aC VA rfl (Ct.pick [1,2,3,0] 99 (by decide) rfl (lV rfl rfl))) ?_
    rintro _ _ ⟨rfl,rfl⟩
    refine⟨.inl (by kernel_rfl),?_⟩
    refine aU 25 rfl (by kernel_rfl) rfl rfl rfl (Yl.t (bC rfl rfl) (by decide))<|bH 26 rfl (by kernel_rfl) rfl (aX rfl rfl)<|bH 27 rfl (by kernel_rfl) rfl (aJ rfl)<|aU 28 rfl (by kernel_rfl) rfl rfl rfl (aJ rfl)<|aU 29 rfl (by kernel_rfl) rfl rfl rfl (aJ rfl)<|aU 30 rfl (by kernel_rfl) rfl rfl rfl (bS (v:= .agg #[.int .i64 3, .slice none 0 0, .int .i64 0, .int .i64 0, .int .i64 0, .int .i64 0, .int .i64 0]) rfl (fun w=>by kernel_rfl))<|iE 31 rfl (by kernel_rfl) rfl rfl rfl (aC lU rfl ((vT (s:=u)))) ?_
    rintro _ _ ⟨rfl,rfl⟩
    refine⟨.inr fun _ h=>h,?_⟩
    refine aU 32 rfl (by kernel_rfl) rfl rfl rfl (Yl.t (bC rfl rfl) (by decide))<|bH 33 rfl (by kernel_rfl) rfl (aX rfl rfl)<|bH 34 rfl (by kernel_rfl) rfl (aJ rfl)<|iE 35 rfl (by kernel_rfl) rfl rfl rfl (aC YR rfl (Ct.quiet (fun w hw=>lQ))) ?_
    rintro _ _ ⟨rfl,rfl⟩
    refine⟨.inr fun _ h=>h,?_⟩
    refine bH 36 rfl (by kernel_rfl) rfl (aX rfl rfl)<|bH 37 rfl (by kernel_rfl) rfl (iU rfl)<|dD (by kernel_rfl)<|aY [] 99 (by decide) rfl ?_
    refine⟨_,rfl,?_⟩
    rfl
set_option maxRecDepth 100000 in
theorem GJ {w:World}:
  Ct Tryz.prog 32 #[.pointer none] w.heap.size w [] (fun v R'=>v= .slice none 0 0):=by
 refine fn1 Tryz.func32 rfl rfl rfl ?_
 refine wq<|wg rfl<|aA<|aF<|wq<|wm rfl<|wy (dJ underlying49 rfl rfl)<|aA<|dN rfl<|wq<|wg rfl<|aA ?_
 refine fC ?_
 refine⟨_,rfl,?_⟩
 rfl
set_option maxRecDepth 100000 in
theorem EP {w:World}:
  Ct Tryz.prog 33 #[.pointer none] w.heap.size w [] (fun v R'=>v= .int .i64 0):=by
 refine fn1 Tryz.func33 rfl rfl rfl ?_
 refine wq<|wg rfl<|aA<|aF<|wq<|wm rfl<|wy (dJ underlying49 rfl rfl)<|aA<|dN rfl<|wq<|wg rfl<|aA ?_
 refine fC ?_
 refine⟨_,rfl,?_⟩
 rfl
set_option maxRecDepth 100000 in
set_option maxHeartbeats 1000000 in
theorem playOwn_ct {w:World} {A_u:Option Addr} {n_u c_u:Nat} {u:List Int} (h_u:Rd w A_u n_u c_u 1 (ints .u8 u)) (bh_u:aP u):
  Ct Tryz.prog 13 #[.slice A_u n_u c_u] w.heap.size w [] (fun v R'=>v= .bool true):=by
 obtain rfl:=h_u.lenI
 refine fn1 Tryz.func13 rfl rfl rfl ?_
 have m_u:=h_u.max
 refine wq<|wg rfl<|aA<|aF<|wq<|wm rfl<|wy (aV underlying22 rfl)<|wL rfl rfl<|wm rfl<|gH 4 [(0, .slice A_u u.length c_u),(14, .bool (decide ((((u.length:Nat):Int)<1)∨(100<((u.length:Nat):Int)))))] [] ?_ ?_
 ·refine fA 10 rfl (fun hc1=> ?_) (fun hc1=> ?_)
  ·refine aT rfl rfl rfl rfl<|aT rfl rfl rfl rfl<|aT rfl rfl rfl rfl<|wy (aX rfl rfl)<|aA ?_
   exact⟨(sc rfl (Sub.to rfl (CX (by first|omega|exact⟨fun h=>⟨(by assumption),h⟩,fun h=>h.2⟩|exact .inl (by assumption)|exact⟨.inr,fun h=>h.resolve_left (by assumption)⟩|exact⟨fun h=>h.resolve_left (by assumption), .inr⟩|simp[*])) Sub.nil)),fun _ h=>h⟩
  ·refine aD rfl rfl<|wm rfl<|aD rfl rfl<|wy (aV underlying22 rfl)<|aD rfl rfl<|wy (kU rfl rfl)<|wy (bG rfl rfl)<|aA ?_
   exact⟨(sc rfl (Sub.to rfl (mb (by first|omega|exact⟨fun h=>⟨(by assumption),h⟩,fun h=>h.2⟩|exact .inl (by assumption)|exact⟨.inr,fun h=>h.resolve_left (by assumption)⟩|exact⟨fun h=>h.resolve_left (by assumption), .inr⟩|simp[*])) Sub.nil)),fun _ h=>h⟩
 refine aA<|bR rfl (fun hc2=> ?_) (fun hc2=> ?_)
 ·refine wq<|wg rfl<|aA<|fC ?_
  refine⟨_,rfl,?_⟩
  rfl
 ·refine aM<|wq<|wa (aC aBu rfl (Ct.fresh (fun w hw=>vH))) ?_
  rintro _ _ ⟨_,rfl,g_1,rfl,rfl⟩
  refine wg rfl<|aA<|wq<|wa (bV .u8 [] underlying22 zs5 rfl rfl rfl) ?_
  rintro _ _ ⟨g_3,rfl,rfl⟩
  refine wm rfl<|wa (bX 0 rfl underlying22 zb5 rfl rfl rfl (h_u.c _) (by omega)) ?_
  rintro _ _ ⟨A_4,c_5,rfl,rfl⟩
  refine bY (v:= .slice A_4 (0+u.length) c_5) rfl<|wg rfl<|aA<|aF<|wq<|wm rfl<|wy (dJ underlying49 rfl rfl)<|wm rfl<|aD rfl rfl<|wm rfl<|aD rfl rfl<|wm rfl<|aD rfl rfl<|wy (bS (v:= .agg #[.int .i64 1, .slice A_4 (0+u.length) c_5, .int .i64 0, .int .i64 0, .int .i64 0, .int .i64 0, .int .i64 0]) rfl (fun w=>by kernel_rfl)) ?_
  refine aD rfl rfl<|wa (aC lU rfl (Ct.pick [1,2,3,0] 99 (by decide) rfl (EN rfl rfl (rdR 0 (r:=⟨5,1,A_4,(0+u.length),c_5,ints .u8 (([])++u),false⟩) rfl) (by simp) (by simp;omega)))) ?_
  rintro _ _ ⟨A_6,c_7,rfl,rfl⟩
  refine aD rfl rfl<|wy (Yl.f (qW rfl rfl) (by decide))<|wy (bG rfl rfl)<|aA<|aL rfl<|aM<|wq<|wm rfl<|wy (aB underlying22 sz5 rfl rfl (rdr 3 rfl) (by first|omega|(simp;omega)) (by first|omega|(simp;omega))) ?_
  refine wy (aZ underlying5 rfl rfl (rdr 3 rfl) (by first|omega|(simp;omega)) (by first|omega|(simp;omega))) ?_
  refine wy (QG rfl rfl)<|wy (aB underlying22 sz5 rfl rfl (rdr 3 rfl) (by first|omega|(simp;omega)) (by first|omega|(simp;omega))) ?_
  refine dK (bD 3 rfl sz5 rfl rfl (by first|omega|(simp;omega)) (by first|omega|(simp;omega))) ?_
  rintro _ _ rfl
  refine aA<|wq<|wm rfl<|wa (aC JG rfl ((jK rfl rfl (by simp;omega)))) ?_
  rintro _ _ ⟨A_8,c_9,rfl,rfl⟩
  refine wg rfl<|aA<|aF<|wq<|wm rfl<|wy (iO underlying22 underlying5 underlying9 rfl (rdr 0 rfl))<|wm rfl<|wy (iO underlying22 underlying5 underlying9 rfl (h_u.c _))<|wy (Yl.f (aCn rfl rfl bh_u bh_u) (fun h=>h rfl))<|aA<|aL rfl<|aM<|wq ?_
  refine wm rfl<|wy (aB underlying22 sz5 rfl rfl (rdr 0 rfl) (by first|omega|(simp;omega)) (by first|omega|(simp;omega))) ?_
  refine wy (aZ underlying5 rfl rfl (rdr 0 rfl) (by first|omega|(simp;omega)) (by first|omega|(simp;omega))) ?_
  refine wy (QG rfl rfl)<|wy (aB underlying22 sz5 rfl rfl (rdr 0 rfl) (by first|omega|(simp;omega)) (by first|omega|(simp;omega))) ?_
  refine dK (bD 0 rfl sz5 rfl rfl (by first|omega|(simp;omega)) (by first|omega|(simp;omega))) ?_
  rintro _ _ rfl
  refine aA<|wq<|wg rfl<|aA<|aF<|dQ mixed<|bH 0 rfl (by kernel_rfl) rfl (aJ rfl)<|bH 3 rfl (by kernel_rfl) rfl (aJ rfl)<|bH 4 rfl (by kernel_rfl) rfl (iO underlying22 underlying5 underlying9 rfl (h_u.c _))<|kF 1 rfl (by kernel_rfl) rfl (aC JG rfl (Ct.pick [1,2,3,0,4] 99 (by decide) rfl (jK rfl rfl (by simp;omega)))) ?_
  rintro _ _ ⟨A_10,c_11,rfl,rfl⟩
  refine⟨.inr fun _ h=>h.pickT [4,1,2,3,5] 99 (by decide) rfl,?_⟩
  refine bH 2 rfl (by kernel_rfl) rfl (iO underlying22 underlying5 underlying9 rfl (rdr 0 rfl))<|bH 5 rfl (by kernel_rfl) rfl (Yl.t (KA rfl rfl bh_u bh_u) (rfl))<|bH 6 rfl (by kernel_rfl) rfl (aJ rfl)<|aU 7 rfl (by kernel_rfl) rfl rfl rfl (aJ rfl)<|aU 8 rfl (by kernel_rfl) rfl rfl rfl (bS (v:= .agg #[.int .i64 4, .slice none 0 0, .int .i64 0, .int .i64 0, .int .i64 0, .int .i64 0, .int .i64 0]) rfl (fun w=>by kernel_rfl))<|iE 9 rfl (by kernel_rfl) rfl rfl rfl (aC lU rfl (Ct.quiet (fun w hw=>VG))) ?_
  rintro _ _ ⟨rfl,rfl⟩
  refine⟨.inr fun _ h=>h,?_⟩
  refine aU 10 rfl (by kernel_rfl) rfl rfl rfl (Yl.t (bC rfl rfl) (by decide))<|bH 11 rfl (by kernel_rfl) rfl (aX rfl rfl)<|bH 12 rfl (by kernel_rfl) rfl (aJ rfl)<|aU 13 rfl (by kernel_rfl) rfl rfl rfl (aJ rfl)<|aU 16 rfl (by kernel_rfl) rfl rfl rfl (aJ rfl)<|iE 14 rfl (by kernel_rfl) rfl rfl rfl (aC JG rfl (Ct.quiet (fun w hw=>GJ))) ?_
  rintro _ _ ⟨rfl,rfl⟩
  refine⟨.inr fun _ h=>h,?_⟩
  refine aU 15 rfl (by kernel_rfl) rfl rfl rfl (aV underlying22 rfl)<|iE 17 rfl (by kernel_rfl) rfl rfl rfl (aC VA rfl (Ct.quiet (fun w hw=>EP))) ?_
  rintro _ _ ⟨rfl,rfl⟩
  refine⟨.inr fun _ h=>h,?_⟩
  refine aU 18 rfl (by kernel_rfl) rfl rfl rfl (Yl.is (jR rfl rfl (by omega)) rfl)<|aU 19 rfl (by kernel_rfl) rfl rfl rfl (Yl.t (bC rfl rfl) (by decide))<|bH 20 rfl (by kernel_rfl) rfl (aX rfl rfl)<|bH 21 rfl (by kernel_rfl) rfl (aJ rfl)<|iE 22 rfl (by kernel_rfl) rfl rfl rfl (aC YR rfl (Ct.quiet (fun w hw=>lQ))) ?_
  rintro _ _ ⟨rfl,rfl⟩
  refine⟨.inr fun _ h=>h,?_⟩
  refine bH 23 rfl (by kernel_rfl) rfl (aX rfl rfl)<|bH 24 rfl (by kernel_rfl) rfl (iU rfl)<|dD (by kernel_rfl)<|aY [] 99 (by decide) rfl ?_
  refine⟨_,rfl,?_⟩
  rfl
theorem playTopB_ct {w:World} {A_u:Option Addr} {n_u c_u:Nat} {u:List Int} {n:Int} {b:Bool} (h_u:Rd w A_u n_u c_u 1 (ints .u8 u)) (bh_u:aP u):
  Ct Tryz.prog 14 #[.slice A_u n_u c_u, .int .i64 n, .bool b] w.heap.size w [] (fun v R'=>v= .bool true):=by
 have h:=IJ (n:=n) (p:=b=true) h_u bh_u
 rwa[Bool.decide_eq_true] at h
end Go.Proofs.YtdbebmmhdefgdaaGreat

