/- Several texts of our own in one: L1. -/
import Derived.Test.YtdbebmmhdefgdaaGreatD6
set_option linter.unusedVariables false
set_option linter.unusedSimpArgs false
namespace Go.Proofs.YtdbebmmhdefgdaaGreat
open Go Go.Eng Go.Pure
open Tryz
set_option maxRecDepth 100000
theorem aTp:mP 0 0 0 1 []=[87,72,82,76,1,0,0,0,1,0,0]:=by
 rw[iP,zW (by decide)]
 rfl
theorem aNy {t o n:Int} {u:List Int} (a b:Int):(mP t a o n u).length=(mP t b o n u).length:=by
 rw[iP,iP]
 simp only[List.length_append,List.length_cons,List.length_nil]
theorem IK (t a o n:Int) (u:List Int):8≤(mP t a o n u).length:=by
 rw[iP]
 simp only[List.length_append,List.length_cons,List.length_nil]
 omega
theorem aTq (t a o n:Int) (u:List Int):rd (mP t a o n u) 6=a:=by
 rw[iP]
 rfl
theorem aGx {t o n:Int} {u:List Int} (a b:Int):(mP t a o n u).take (6:Int).toNat=(mP t b o n u).take (6:Int).toNat:=by
 rw[iP,iP]
 rfl
theorem aGy {t o n:Int} {u:List Int} (a b:Int):(mP t a o n u).drop (7:Int).toNat=(mP t b o n u).drop (7:Int).toNat:=by
 rw[iP,iP]
 rfl
theorem aHw {w:World} {k:Int} {so:Int} {od:Int} {sz:Int} (hno: ¬((0≤k∧k≤3)∧(0≤so∧so≤2)∧(od=0∨od=1)∧(1≤sz∧sz≤16777216))):
  Ct Tryz.prog 23 #[.agg #[I k,I so,I od,I sz]] w.heap.size w [] (fun v R'=>v= .bool false):=by
 refine fn1 Tryz.func23 Z Z Z ?_
 refine wq<|wa (dV (sz:=4) Z Z) ?_
 rintro _ _ ⟨g_1,rfl,rfl⟩
 refine wg Z<|aA<|wq<|wy (aC (off:=0) (m:=0) underlying27 Z sz3 Z Z Z)<|wy (aK (rdr 0 Z) underlying3 Z Z Z)<|wy (jS Z Z)<|wm Z<|cZ 4 [(1, .pointer (GG g_1)),(10, .bool (decide ((0≤k)∧(k≤3))))] [⟨27,4,(GG g_1),1,1,[I k,I so,I od,I sz],false⟩] ?_ ?_
 ·refine bR 6 Z (fun hc1=> ?_) (fun hc1=> ?_)
  ·refine aB Z Z<|wy (aC (off:=0) (m:=0) underlying27 Z sz3 Z Z Z)<|aB Z Z<|wy (aK (rdr 0 Z) underlying3 Z Z Z)<|aB Z Z<|wy (vL Z Z)<|wy (aT Z Z)<|aA ?_
   exact⟨(sc Z (Sub.to Z mbA Sub.nil)),fun _ h=>h⟩
  ·refine aO Z Z Z Z<|aO Z Z Z Z<|aO Z Z Z Z<|wy (aP Z Z)<|aA ?_
   exact⟨(sc Z (Sub.to Z mfA Sub.nil)),fun _ h=>h⟩
 refine wm Z<|cZ 4 [(1, .pointer (GG g_1)),(15, .bool (decide (((0≤k)∧(k≤3))∧(0≤so))))] [⟨27,4,(GG g_1),1,1,[I k,I so,I od,I sz],false⟩] ?_ ?_
 ·refine bR 11 Z (fun hc2=> ?_) (fun hc2=> ?_)
  ·refine aB Z Z<|wy (aC (off:=1) (m:=1) underlying27 Z sz3 Z Z Z)<|aB Z Z<|wy (aK (rdr 0 Z) underlying3 Z Z Z)<|aB Z Z<|wy (jS Z Z)<|wy (aT Z Z)<|aA ?_
   exact⟨(sc Z (Sub.to Z mbA Sub.nil)),fun _ h=>h⟩
  ·refine aO Z Z Z Z<|aO Z Z Z Z<|aO Z Z Z Z<|wy (aP Z Z)<|aA ?_
   exact⟨(sc Z (Sub.to Z mfA Sub.nil)),fun _ h=>h⟩
 refine wm Z<|cZ 4 [(1, .pointer (GG g_1)),(20, .bool (decide ((((0≤k)∧(k≤3))∧(0≤so))∧(so<3))))] [⟨27,4,(GG g_1),1,1,[I k,I so,I od,I sz],false⟩] ?_ ?_
 ·refine bR 16 Z (fun hc3=> ?_) (fun hc3=> ?_)
  ·refine aB Z Z<|wy (aC (off:=1) (m:=1) underlying27 Z sz3 Z Z Z)<|aB Z Z<|wy (aK (rdr 0 Z) underlying3 Z Z Z)<|aB Z Z<|wL Z Z<|wy (aT Z Z)<|aA ?_
   exact⟨(sc Z (Sub.to Z mbA Sub.nil)),fun _ h=>h⟩
  ·refine aO Z Z Z Z<|aO Z Z Z Z<|aO Z Z Z Z<|wy (aP Z Z)<|aA ?_
   exact⟨(sc Z (Sub.to Z mfA Sub.nil)),fun _ h=>h⟩
 refine wm Z<|cZ 9 [(1, .pointer (GG g_1)),(30, .bool (decide (((((0≤k)∧(k≤3))∧(0≤so))∧(so<3))∧((od=0)∨(od=1)))))] [⟨27,4,(GG g_1),1,1,[I k,I so,I od,I sz],false⟩] ?_ ?_
 ·refine bR 21 Z (fun hc4=> ?_) (fun hc4=> ?_)
  ·refine aB Z Z<|wy (aC (off:=2) (m:=2) underlying27 Z sz3 Z Z Z)<|aB Z Z<|wy (aK (rdr 0 Z) underlying3 Z Z Z)<|aB Z Z<|wy (dI Z Z)<|aB Z Z<|wm Z<|cZ 4 [(1, .pointer (GG g_1)),(21, .bool true),(29, .bool (decide ((od=0)∨(od=1))))] [⟨27,4,(GG g_1),1,1,[I k,I so,I od,I sz],false⟩] ?_ ?_
   ·refine bR 25 Z (fun hc5=> ?_) (fun hc5=> ?_)
    ·refine aO Z Z Z Z<|aO Z Z Z Z<|aO Z Z Z Z<|aB Z Z<|wy (aT Z Z)<|aA ?_
     exact⟨(sc Z (sc Z (Sub.to Z mtA Sub.nil))),fun _ h=>h⟩
    ·refine aB Z Z<|wy (aC (off:=2) (m:=2) underlying27 Z sz3 Z Z Z)<|aB Z Z<|wy (aK (rdr 0 Z) underlying3 Z Z Z)<|aB Z Z<|wy (dI Z Z)<|aB Z Z<|wy (aP Z Z)<|aA ?_
     exact⟨(sc Z (sc Z (Sub.to Z mbA Sub.nil))),fun _ h=>h⟩
   refine wy (aT Z Z)<|aA ?_
   exact⟨(sc Z (Sub.to Z mbA Sub.nil)),fun _ h=>h⟩
  ·refine aO Z Z Z Z<|aO Z Z Z Z<|aO Z Z Z Z<|aO Z Z Z Z<|eZ Z Z Z<|eZ Z Z Z<|eZ Z Z Z<|aO Z Z Z Z<|wy (aP Z Z)<|aA ?_
   exact⟨(sc Z (Sub.to Z mfA Sub.nil)),fun _ h=>h⟩
 refine wm Z<|cZ 4 [(1, .pointer (GG g_1)),(35, .bool (decide ((((((0≤k)∧(k≤3))∧(0≤so))∧(so<3))∧((od=0)∨(od=1)))∧(1≤sz))))] [⟨27,4,(GG g_1),1,1,[I k,I so,I od,I sz],false⟩] ?_ ?_
 ·refine bR 31 Z (fun hc6=> ?_) (fun hc6=> ?_)
  ·refine aB Z Z<|wy (aC (off:=3) (m:=3) underlying27 Z sz3 Z Z Z)<|aB Z Z<|wy (aK (rdr 0 Z) underlying3 Z Z Z)<|aB Z Z<|wy (jS Z Z)<|wy (aT Z Z)<|aA ?_
   exact⟨(sc Z (Sub.to Z mbA Sub.nil)),fun _ h=>h⟩
  ·refine aO Z Z Z Z<|aO Z Z Z Z<|aO Z Z Z Z<|wy (aP Z Z)<|aA ?_
   exact⟨(sc Z (Sub.to Z mfA Sub.nil)),fun _ h=>h⟩
 refine wm Z<|cZ 4 [(40, .bool (decide (((((((0≤k)∧(k≤3))∧(0≤so))∧(so<3))∧((od=0)∨(od=1)))∧(1≤sz))∧(sz≤16777216))))] [⟨27,4,(GG g_1),1,1,[I k,I so,I od,I sz],false⟩] ?_ ?_
 ·refine bR 36 Z (fun hc7=> ?_) (fun hc7=> ?_)
  ·refine aB Z Z<|wy (aC (off:=3) (m:=3) underlying27 Z sz3 Z Z Z)<|aB Z Z<|wy (aK (rdr 0 Z) underlying3 Z Z Z)<|aB Z Z<|wy (vL Z Z)<|wy (aT Z Z)<|aA ?_
   exact⟨(Sub.to Z mbA Sub.nil),fun _ h=>h⟩
  ·refine aO Z Z Z Z<|aO Z Z Z Z<|aO Z Z Z Z<|wy (aP Z Z)<|aA ?_
   exact⟨(Sub.to Z mfA Sub.nil),fun _ h=>h⟩
 refine wg Z<|aA<|bA [] 99 (by decide) Z ?_
 refine⟨_,Z,?_⟩
 exact congrArg Value.bool (decide_eq_false (by omega))
theorem aSo {w:World} {A_u:Option Addr} {n_u c_u:Nat} {u:List Int} {k:Int} {so:Int} {od:Int} {sz:Int} (h_u:Rd w A_u n_u c_u 1 (ints .u8 u)) (hno: ¬((0≤k∧k≤3)∧(0≤so∧so≤2)∧(od=0∨od=1)∧(1≤sz∧sz≤16777216))):
  Ct Tryz.prog 36 #[.agg #[.slice A_u u.length c_u, .slice none 0 0], .agg #[I k,I so,I od,I sz]] w.heap.size w [] (fun v R'=>v=I 1):=by
 obtain rfl:=h_u.lenI
 refine fn1 Tryz.func36 Z Z Z ?_
 have m_u:=h_u.max
 refine wq<|wa (dV (sz:=2) Z Z) ?_
 rintro _ _ ⟨g_1,rfl,rfl⟩
 refine wa (dV (sz:=4) Z Z) ?_
 rintro _ _ ⟨g_3,rfl,rfl⟩
 refine wg Z<|aA<|wq<|wg Z<|aA<|wq<|wy (aC (off:=0) (m:=0) underlying27 Z sz3 Z Z Z)<|wy (aK (rdr 0 Z) underlying3 Z Z Z)<|wy (dI Z Z)<|wg Z<|aA<|aG<|aG ?_
 refine aL<|wy (dZ (vs:=[I k,I so,I od,I sz]) (rdr 0 Z) underlying27 Z gL Z Z (Nat.le_of_ble_eq_true Z) Z)<|wa (aD aOf Z (Ct.quiet (fun w hw=>aHw hno))) ?_
 rintro _ _ ⟨rfl,rfl⟩
 refine wy (dH Z)<|wm Z<|aO Z Z Z Z<|aO Z Z Z Z<|aO Z Z Z Z<|eZ Z Z Z<|eZ Z Z Z<|eZ Z Z Z<|eZ Z Z Z<|aO Z Z Z Z<|wy (aT Z Z)<|wm Z<|aO Z Z Z Z<|aO Z Z Z Z<|eZ Z Z Z ?_
 refine eZ Z Z Z<|eZ Z Z Z<|eZ Z Z Z<|aO Z Z Z Z<|wy (aT Z Z)<|wm Z<|aO Z Z Z Z<|aO Z Z Z Z<|aO Z Z Z Z<|aO Z Z Z Z<|wy (aT Z Z)<|aA<|dB Z<|wq ?_
 refine wg Z<|aA<|bA [] 99 (by decide) Z ?_
 refine⟨_,Z,?_⟩
 rfl
theorem aTr {w:World} {A_u:Option Addr} {n_u c_u:Nat} {u:List Int} {k:Int} {so:Int} {od:Int} {sz:Int} (h_u:Rd w A_u n_u c_u 1 (ints .u8 u)) (hno: ¬((0≤k∧k≤3)∧(0≤so∧so≤2)∧(od=0∨od=1)∧(1≤sz∧sz≤16777216))):
  Ct Tryz.prog 16 #[.agg #[.slice A_u u.length c_u, .slice none 0 0], .agg #[I k,I so,I od,I sz]] w.heap.size w [] (fun v R'=>v= .tuple #[.slice none 0 0,I 1]):=by
 obtain rfl:=h_u.lenI
 refine fnV Tryz.func16 Z Z ?_
 have m_u:=h_u.max
 refine gD ?_
 refine aL<|wa (dV (sz:=2) Z Z) ?_
 rintro _ _ ⟨g_1,rfl,rfl⟩
 refine wa (dV (sz:=4) Z Z) ?_
 rintro _ _ ⟨g_3,rfl,rfl⟩
 refine wg Z<|wg Z<|aA ?_
 refine gD ?_
 refine wq<|wy (dZ (vs:=[.slice A_u u.length c_u, .slice none 0 0]) (rdr 1 Z) underlying25 Z rT Z Z (Nat.le_of_ble_eq_true Z) Z)<|wy (dZ (vs:=[I k,I so,I od,I sz]) (rdr 0 Z) underlying27 Z gL Z Z (Nat.le_of_ble_eq_true Z) Z)<|wa (aD bAj Z (Ct.quiet (fun w hw=>aSo ((h_u.c _) w hw) hno))) ?_
 rintro _ _ ⟨rfl,rfl⟩
 refine wg Z<|aA<|wq<|wm Z<|wy (Yl.t (iT Z Z) (by decide))<|aA<|dB Z<|wq<|wm Z<|wg Z<|wg Z<|aA<|bA [] 99 (by decide) Z ?_
 refine aNs Z Gd.refl ⟨_,_,Z,Z,?_⟩
 rfl
theorem wJ {w:World}:
  Ct Tryz.prog 25 #[] w.heap.size w [] (fun v R'=>v= .bool true):=by
 refine fn1 Tryz.func25 Z Z Z ?_
 refine wq<|wg Z<|aA<|wq<|wy (dS (v:= .agg #[.slice none 0 0, .slice none 0 0]) Z (fun w=>by kernel_rfl))<|wy (dS (v:= .agg #[I 0,I 0,I 0,I 1]) rfl (fun w=>by kernel_rfl))<|wa (aD YW rfl (Ct.fresh (fun w hw=>vI (u:=[]) ((XO _) w hw) aN.nil (by decide) (by omega) (by omega)))) ?_
 rintro _ _ ⟨_,rfl,A_1,c_2,rfl,rfl⟩
 refine wm Z<|wX Z Z<|wX Z Z<|wg Z<|wg Z<|aA<|wq<|wm Z<|wa (aD aOj Z (Ct.fresh (fun w hw=>EA (w:=([]:List Int)) (k:=0) (so:=0) (od:=0) (sz:=1) ((rdr 0 Z) w hw) (dX aN.nil (by decide) (by decide) (by decide) (by decide) (by decide)).1 (by have:=(dX (t:=0) (so:=0) (o:=0) (sz:=1) aN.nil (by decide) (by decide) (by decide) (by decide) (by decide)).2;omega) Z aN.nil (by decide) (by omega) (by omega) (by omega) (.inr Z)))) ?_
 rintro _ _ ⟨_,rfl,A_4,c_5,rfl,rfl⟩
 refine wm Z<|wX Z Z<|wX Z Z<|wX Z Z<|wa (fA (sz:=2) WF Z) ?_
 rintro _ _ ⟨g_8,rfl,rfl⟩
 refine wa (fA (sz:=4) WE Z) ?_
 rintro _ _ ⟨g_10,rfl,rfl⟩
 refine bY (dQ (vs:=[.slice A_4 ((([]:List Int)).length) c_5, .slice none 0 0]) 1 Z rT Z Z Z (by intro v hv;simp at hv;rcases hv with rfl|rfl<;>rfl) Z) ?_
 rintro _ _ rfl
 refine bY (dQ (vs:=[I 0,I 0,I 0,I 1]) 0 Z gL Z Z Z (by intro v hv;simp at hv;rcases hv with rfl|rfl|rfl|rfl<;>rfl) Z) ?_
 rintro _ _ rfl
 refine wg Z<|aA<|wq<|wm Z<|wy (Yl.t (dI Z Z) (by decide))<|wm Z<|aB Z Z<|wm Z<|aB Z Z<|wy (kL underlying22 underlying5 underlying9 Z (rdr 3 Z))<|aB Z Z<|wy (Yl.t (aAp (q:=[87,72,82,76,1,0,0,0,1,0,0]) Z Z (dX aN.nil (by decide) (by decide) (by decide) (by decide) (by decide)).1 (by unfold aN;decide)) (aTp)) ?_
 refine wy (aT Z Z)<|wm Z<|aB Z Z<|wm Z<|aB Z Z<|wy (Yl.t (dI Z Z) (by decide))<|wy (aT Z Z)<|wm Z<|aB Z Z<|wy (aC (off:=0) (m:=0) underlying25 Z fP Z Z Z)<|aB Z Z<|wy (aK (rdr 1 Z) underlying22 Z Z Z)<|aB Z Z<|wy (aR underlying22 Z)<|aB Z Z ?_
 refine wy (aC (off:=1) (m:=1) underlying25 Z vM Z Z Z)<|aB Z Z<|wy (aK (rdr 1 Z) underlying23 Z Z Z)<|aB Z Z<|wy (aR underlying23 Z)<|aB Z Z<|wy (dG Z Z (by decide))<|aB Z Z<|wy (Yl.t (dI Z Z) (by decide))<|wy (aT Z Z)<|wm Z<|aB Z Z<|wy (aC (off:=3) (m:=3) underlying27 Z sz3 Z Z Z)<|aB Z Z<|wy (aK (rdr 0 Z) underlying3 Z Z Z) ?_
 refine aB Z Z<|wy (Yl.t (dI Z Z) (by decide))<|wy (aT Z Z)<|wg Z<|aA<|bA [] 99 (by decide) Z ?_
 refine⟨_,Z,?_⟩
 rfl
set_option maxHeartbeats 1000000 in
theorem boxSorters_ct {w:World} {A_u:Option Addr} {n_u c_u:Nat} {u:List Int} {turn:Int} {order:Int} {size:Int} (h_u:Rd w A_u n_u c_u 1 (ints .u8 u)) (bh_u:aN u):
  Ct Tryz.prog 8 #[.slice A_u n_u c_u,I turn,I order,I size] w.heap.size w [] (fun v R'=>v= .bool true):=by
 obtain rfl:=h_u.lenI
 refine fn1 Tryz.func8 Z Z Z ?_
 have m_u:=h_u.max
 refine wq<|wg Z<|aA<|aG<|wq<|wm Z<|wy (aR underlying22 Z)<|wy (dR Z Z)<|wm Z<|cZ 3 [(0, .slice A_u u.length c_u),(1,I turn),(2,I order),(3,I size),(20, .bool (decide ((100<((u.length:Nat):Int))∨(turn<0))))] [] ?_ ?_
 ·refine bR 17 Z (fun hc1=> ?_) (fun hc1=> ?_)
  ·refine aO Z Z Z Z<|aO Z Z Z Z<|wy (aT Z Z)<|aA ?_
   exact⟨(sc Z (sc Z (sc Z (sc Z (Sub.to Z mtA Sub.nil))))),fun _ h=>h⟩
  ·refine aB Z Z<|wm Z<|aB Z Z<|wL Z Z<|wy (aP Z Z)<|aA ?_
   exact⟨(sc Z (sc Z (sc Z (sc Z (Sub.to Z mbA Sub.nil))))),fun _ h=>h⟩
 refine wm Z<|cZ 3 [(0, .slice A_u u.length c_u),(1,I turn),(2,I order),(3,I size),(24, .bool (decide (((100<((u.length:Nat):Int))∨(turn<0))∨(2<turn))))] [] ?_ ?_
 ·refine bR 21 Z (fun hc2=> ?_) (fun hc2=> ?_)
  ·refine aO Z Z Z Z<|aO Z Z Z Z<|wy (aT Z Z)<|aA ?_
   exact⟨(sc Z (sc Z (sc Z (sc Z (Sub.to Z mtA Sub.nil))))),fun _ h=>h⟩
  ·refine aB Z Z<|wm Z<|aB Z Z<|wy (dR Z Z)<|wy (aP Z Z)<|aA ?_
   exact⟨(sc Z (sc Z (sc Z (sc Z (Sub.to Z mbA Sub.nil))))),fun _ h=>h⟩
 refine wm Z<|cZ 3 [(0, .slice A_u u.length c_u),(1,I turn),(2,I order),(3,I size),(28, .bool (decide ((((100<((u.length:Nat):Int))∨(turn<0))∨(2<turn))∨(order<0))))] [] ?_ ?_
 ·refine bR 25 Z (fun hc3=> ?_) (fun hc3=> ?_)
  ·refine aO Z Z Z Z<|aO Z Z Z Z<|wy (aT Z Z)<|aA ?_
   exact⟨(sc Z (sc Z (sc Z (sc Z (Sub.to Z mtA Sub.nil))))),fun _ h=>h⟩
  ·refine aB Z Z<|wm Z<|aB Z Z<|wL Z Z<|wy (aP Z Z)<|aA ?_
   exact⟨(sc Z (sc Z (sc Z (sc Z (Sub.to Z mbA Sub.nil))))),fun _ h=>h⟩
 refine wm Z<|cZ 3 [(0, .slice A_u u.length c_u),(1,I turn),(2,I order),(3,I size),(32, .bool (decide (((((100<((u.length:Nat):Int))∨(turn<0))∨(2<turn))∨(order<0))∨(1<order))))] [] ?_ ?_
 ·refine bR 29 Z (fun hc4=> ?_) (fun hc4=> ?_)
  ·refine aO Z Z Z Z<|aO Z Z Z Z<|wy (aT Z Z)<|aA ?_
   exact⟨(sc Z (sc Z (sc Z (sc Z (Sub.to Z mtA Sub.nil))))),fun _ h=>h⟩
  ·refine aB Z Z<|wm Z<|aB Z Z<|wy (dR Z Z)<|wy (aP Z Z)<|aA ?_
   exact⟨(sc Z (sc Z (sc Z (sc Z (Sub.to Z mbA Sub.nil))))),fun _ h=>h⟩
 refine wm Z<|cZ 3 [(0, .slice A_u u.length c_u),(1,I turn),(2,I order),(3,I size),(36, .bool (decide ((((((100<((u.length:Nat):Int))∨(turn<0))∨(2<turn))∨(order<0))∨(1<order))∨(size<1))))] [] ?_ ?_
 ·refine bR 33 Z (fun hc5=> ?_) (fun hc5=> ?_)
  ·refine aO Z Z Z Z<|aO Z Z Z Z<|wy (aT Z Z)<|aA ?_
   exact⟨(sc Z (sc Z (sc Z (sc Z (Sub.to Z mtA Sub.nil))))),fun _ h=>h⟩
  ·refine aB Z Z<|wm Z<|aB Z Z<|wL Z Z<|wy (aP Z Z)<|aA ?_
   exact⟨(sc Z (sc Z (sc Z (sc Z (Sub.to Z mbA Sub.nil))))),fun _ h=>h⟩
 refine wm Z<|cZ 3 [(0, .slice A_u u.length c_u),(1,I turn),(2,I order),(3,I size),(40, .bool (decide (((((((100<((u.length:Nat):Int))∨(turn<0))∨(2<turn))∨(order<0))∨(1<order))∨(size<1))∨(200<size))))] [] ?_ ?_
 ·refine bR 37 Z (fun hc6=> ?_) (fun hc6=> ?_)
  ·refine aO Z Z Z Z<|aO Z Z Z Z<|wy (aT Z Z)<|aA ?_
   exact⟨(sc Z (sc Z (sc Z (sc Z (Sub.to Z mtA Sub.nil))))),fun _ h=>h⟩
  ·refine aB Z Z<|wm Z<|aB Z Z<|wy (dR Z Z)<|wy (aP Z Z)<|aA ?_
   exact⟨(sc Z (sc Z (sc Z (sc Z (Sub.to Z mbA Sub.nil))))),fun _ h=>h⟩
 refine aA<|bM Z (fun hc7=> ?_) (fun hc7=> ?_)
 ·refine wq<|wg Z<|aA<|dL ?_
  refine⟨_,Z,?_⟩
  rfl
 ·refine aJ<|wq<|wm Z<|wy (dS (v:= .agg #[.slice A_u u.length c_u, .slice none 0 0]) Z (fun w=>by kernel_rfl))<|wm rfl<|wm rfl<|wm rfl<|wy (dS (v:= .agg #[I turn,I 0,I order,I size]) rfl (fun w=>by kernel_rfl))<|wa (aD YW rfl (Ct.fresh (fun w hw=>vI (u:=u) ((h_u.c _) w hw) bh_u (by omega) (by omega) (by omega)))) ?_
  rintro _ _ ⟨_,rfl,A_1,c_2,rfl,rfl⟩
  refine wm Z<|wX Z Z<|wX Z Z<|wg Z<|wg Z<|aA<|aG<|wq<|wm Z<|wy (Yl.f (iT Z Z) (by decide))<|wm Z<|aB Z Z<|wm Z<|aB Z Z ?_
  refine wy (aR underlying22 Z)<|aB Z Z<|wy (Yl.f (fG Z Z) (by have:=IK turn 0 order size u;omega)) ?_
  refine wy (aP Z Z)<|aA<|aQ Z<|aJ<|aG<|wq<|wg Z<|aA<|aI ?_
  refine rQ (fun(k:Int)=>[(0, .slice A_u u.length c_u),(1,I turn),(2,I order),(3,I size),(9, .slice A_1 ((mP turn 0 order size u).length) c_2),(11,I k)]) (fun(k:Int)=>[(ru 5 A_1 ((mP turn 0 order size u).length) c_2 (mP turn 0 order size u))]) (fun(k:Int)=>(1≤k∧k≤3)) (fun(k:Int)=>(3-k).toNat) ?_ ?_
  ·exact⟨1,(by decide),(G6 Z Z Z Z Z Z),fun _ h=>h⟩
  intro k hk1
  have hl0:=IK turn 0 order size u
  have hlk:=IK turn k order size u
  refine aG<|wq<|wm Z<|wy (vL Z Z)<|aA<|bM Z (fun hc8=> ?_) (fun hc8=> ?_)
  ·refine aJ<|aG<|aI<|wq<|wm Z<|wy (dS (v:= .agg #[.slice A_u u.length c_u, .slice none 0 0]) Z (fun w=>by kernel_rfl))<|wm rfl<|wm rfl<|wm rfl<|wm rfl<|wy (dS (v:= .agg #[I turn,I k,I order,I size]) rfl (fun w=>by kernel_rfl))<|wa (aD YW rfl (Ct.fresh (fun w hw=>vI (u:=u) ((h_u.c _) w hw) bh_u (by omega) (by omega) (by omega)))) ?_
   rintro _ _ ⟨_,rfl,A_3,c_4,rfl,rfl⟩
   refine wm Z<|wX Z Z<|wX Z Z<|wg Z<|wg Z<|aA<|aG<|bT mixed<|wD 0 Z (aM Z)<|wD 1 Z (Yl.f (iT Z Z) (by decide))<|wD 2 Z (aM Z)<|aY 3 Z (by kernel_rfl) Z Z Z (aM Z)<|aY 4 Z (by kernel_rfl) Z Z Z (aR underlying22 Z)<|aY 5 Z (by kernel_rfl) Z Z Z (aM Z)<|aY 6 Z (by kernel_rfl) Z Z Z (aR underlying22 Z) ?_
   refine aY 7 Z (by kernel_rfl) Z Z Z (Yl.f (iT Z Z) (by have:=aNy (t:=turn) (o:=order) (n:=size) (u:=u) k 0;omega)) ?_
   refine wD 8 Z (aP Z Z)<|wD 9 Z (aM Z)<|aY 10 Z (by kernel_rfl) Z Z Z (aM Z)<|aY 11 Z (by kernel_rfl) Z Z Z (aH underlying22 sz5 Z Z (rdr 0 Z) (by omega) (by omega))<|aY 12 Z (by kernel_rfl) Z Z Z (aX underlying5 Z Z (rdr 0 Z) (by omega) (by omega))<|aY 13 Z (by kernel_rfl) Z Z Z (aM Z)<|aY 14 Z (by kernel_rfl) Z Z Z (iA underlying3 underlying5 Z)<|aY 15 Z (by kernel_rfl) Z Z Z (Yl.f (iT Z Z) (fun h=>h (by rw[aTq];omega))) ?_
   refine wD 16 Z (aP Z Z)<|wD 17 Z (aM Z)<|aY 18 Z (by kernel_rfl) Z Z Z (aM Z)<|aY 19 Z (by kernel_rfl) Z Z Z (iL underlying22 sz5 Z Z (rdr 0 Z) (by omega) (by omega))<|aY 20 Z (by kernel_rfl) Z Z Z (kL underlying22 underlying5 underlying9 Z (RdC.toI (h:=(6:Int).toNat) (rdr 0 Z) (by first|omega|(dsimp only;omega)))) ?_
   refine aY 21 Z (by kernel_rfl) Z Z Z (aM Z)<|aY 22 Z (by kernel_rfl) Z Z Z (iL underlying22 sz5 Z Z (rdr 1 Z) (by omega) (by omega))<|aY 23 Z (by kernel_rfl) Z Z Z (kL underlying22 underlying5 underlying9 Z (RdC.toI (h:=(6:Int).toNat) (rdr 1 Z) (by first|omega|(dsimp only;omega)))) ?_
   refine aY 24 Z (by kernel_rfl) Z Z Z (Yl.f (aIt Z Z (((dX (t:=turn) (so:=k) (o:=order) (sz:=size) (u:=u) bh_u (by omega) (by omega) (by omega) (by omega) (by omega))).1.take _) (((dX (t:=turn) (so:=0) (o:=order) (sz:=size) (u:=u) bh_u (by omega) (by omega) (by omega) (by omega) (by omega))).1.take _)) (fun h=>h (aGx _ _)))<|wD 25 Z (aP Z Z)<|wD 26 Z (aM Z)<|aY 27 Z (by kernel_rfl) Z Z Z (aM Z)<|aY 28 Z (by kernel_rfl) Z Z Z (gH underlying22 sz5 Z Z (by omega) (by omega))<|aY 29 Z (by kernel_rfl) Z Z Z (kL underlying22 underlying5 underlying9 Z (RdC.fromI (rdr 0 Z) (by first|omega|(dsimp only;omega)))) ?_
   refine aY 30 Z (by kernel_rfl) Z Z Z (aM Z)<|aY 31 Z (by kernel_rfl) Z Z Z (gH underlying22 sz5 Z Z (by omega) (by omega))<|aY 32 Z (by kernel_rfl) Z Z Z (kL underlying22 underlying5 underlying9 Z (RdC.fromI (rdr 1 Z) (by first|omega|(dsimp only;omega)))) ?_
   refine aY 33 Z (by kernel_rfl) Z Z Z (Yl.f (aIt Z Z (((dX (t:=turn) (so:=k) (o:=order) (sz:=size) (u:=u) bh_u (by omega) (by omega) (by omega) (by omega) (by omega))).1.drop _) (((dX (t:=turn) (so:=0) (o:=order) (sz:=size) (u:=u) bh_u (by omega) (by omega) (by omega) (by omega) (by omega))).1.drop _)) (fun h=>h (aGy _ _)))<|wD 34 Z (aP Z Z)<|bP (by kernel_rfl)<|aQ Z<|aJ<|aL<|wm Z<|wA Z Z<|wg Z<|aA ?_
   exact⟨k+1,(by omega),(by omega),(G6 Z Z Z Z Z Z),fun _ h=>h.sel [1] (by decide) Z⟩
  ·refine aZ<|wq<|wa (aD aYk Z (Ct.quiet (fun w hw=>wJ))) ?_
   rintro _ _ ⟨rfl,rfl⟩
   refine wg Z<|aA<|bA [] 99 (by decide) Z ?_
   refine⟨_,Z,?_⟩
   rfl
set_option maxHeartbeats 1000000 in
theorem boxBlocks_ct {w:World} {A_u:Option Addr} {n_u c_u:Nat} {u:List Int} {turn:Int} {order:Int} {size:Int} (h_u:Rd w A_u n_u c_u 1 (ints .u8 u)) (bh_u:aN u):
  Ct Tryz.prog 9 #[.slice A_u n_u c_u,I turn,I order,I size] w.heap.size w [] (fun v R'=>v= .bool true):=by
 obtain rfl:=h_u.lenI
 refine fn1 Tryz.func9 Z Z Z ?_
 have m_u:=h_u.max
 refine wq<|wg Z<|aA<|aG<|wq<|wm Z<|wy (aR underlying22 Z)<|wy (dR Z Z)<|wm Z<|cZ 3 [(0, .slice A_u u.length c_u),(1,I turn),(2,I order),(3,I size),(25, .bool (decide ((60<((u.length:Nat):Int))∨(turn<0))))] [] ?_ ?_
 ·refine bR 22 Z (fun hc1=> ?_) (fun hc1=> ?_)
  ·refine aO Z Z Z Z<|aO Z Z Z Z<|wy (aT Z Z)<|aA ?_
   exact⟨(sc Z (sc Z (sc Z (sc Z (Sub.to Z mtA Sub.nil))))),fun _ h=>h⟩
  ·refine aB Z Z<|wm Z<|aB Z Z<|wL Z Z<|wy (aP Z Z)<|aA ?_
   exact⟨(sc Z (sc Z (sc Z (sc Z (Sub.to Z mbA Sub.nil))))),fun _ h=>h⟩
 refine wm Z<|cZ 3 [(0, .slice A_u u.length c_u),(1,I turn),(2,I order),(3,I size),(29, .bool (decide (((60<((u.length:Nat):Int))∨(turn<0))∨(2<turn))))] [] ?_ ?_
 ·refine bR 26 Z (fun hc2=> ?_) (fun hc2=> ?_)
  ·refine aO Z Z Z Z<|aO Z Z Z Z<|wy (aT Z Z)<|aA ?_
   exact⟨(sc Z (sc Z (sc Z (sc Z (Sub.to Z mtA Sub.nil))))),fun _ h=>h⟩
  ·refine aB Z Z<|wm Z<|aB Z Z<|wy (dR Z Z)<|wy (aP Z Z)<|aA ?_
   exact⟨(sc Z (sc Z (sc Z (sc Z (Sub.to Z mbA Sub.nil))))),fun _ h=>h⟩
 refine wm Z<|cZ 3 [(0, .slice A_u u.length c_u),(1,I turn),(2,I order),(3,I size),(33, .bool (decide ((((60<((u.length:Nat):Int))∨(turn<0))∨(2<turn))∨(order<0))))] [] ?_ ?_
 ·refine bR 30 Z (fun hc3=> ?_) (fun hc3=> ?_)
  ·refine aO Z Z Z Z<|aO Z Z Z Z<|wy (aT Z Z)<|aA ?_
   exact⟨(sc Z (sc Z (sc Z (sc Z (Sub.to Z mtA Sub.nil))))),fun _ h=>h⟩
  ·refine aB Z Z<|wm Z<|aB Z Z<|wL Z Z<|wy (aP Z Z)<|aA ?_
   exact⟨(sc Z (sc Z (sc Z (sc Z (Sub.to Z mbA Sub.nil))))),fun _ h=>h⟩
 refine wm Z<|cZ 3 [(0, .slice A_u u.length c_u),(1,I turn),(2,I order),(3,I size),(37, .bool (decide (((((60<((u.length:Nat):Int))∨(turn<0))∨(2<turn))∨(order<0))∨(1<order))))] [] ?_ ?_
 ·refine bR 34 Z (fun hc4=> ?_) (fun hc4=> ?_)
  ·refine aO Z Z Z Z<|aO Z Z Z Z<|wy (aT Z Z)<|aA ?_
   exact⟨(sc Z (sc Z (sc Z (sc Z (Sub.to Z mtA Sub.nil))))),fun _ h=>h⟩
  ·refine aB Z Z<|wm Z<|aB Z Z<|wy (dR Z Z)<|wy (aP Z Z)<|aA ?_
   exact⟨(sc Z (sc Z (sc Z (sc Z (Sub.to Z mbA Sub.nil))))),fun _ h=>h⟩
 refine wm Z<|cZ 3 [(0, .slice A_u u.length c_u),(1,I turn),(2,I order),(3,I size),(41, .bool (decide ((((((60<((u.length:Nat):Int))∨(turn<0))∨(2<turn))∨(order<0))∨(1<order))∨(size<1))))] [] ?_ ?_
 ·refine bR 38 Z (fun hc5=> ?_) (fun hc5=> ?_)
  ·refine aO Z Z Z Z<|aO Z Z Z Z<|wy (aT Z Z)<|aA ?_
   exact⟨(sc Z (sc Z (sc Z (sc Z (Sub.to Z mtA Sub.nil))))),fun _ h=>h⟩
  ·refine aB Z Z<|wm Z<|aB Z Z<|wL Z Z<|wy (aP Z Z)<|aA ?_
   exact⟨(sc Z (sc Z (sc Z (sc Z (Sub.to Z mbA Sub.nil))))),fun _ h=>h⟩
 refine wm Z<|cZ 3 [(0, .slice A_u u.length c_u),(1,I turn),(2,I order),(3,I size),(45, .bool (decide (((((((60<((u.length:Nat):Int))∨(turn<0))∨(2<turn))∨(order<0))∨(1<order))∨(size<1))∨(100<size))))] [] ?_ ?_
 ·refine bR 42 Z (fun hc6=> ?_) (fun hc6=> ?_)
  ·refine aO Z Z Z Z<|aO Z Z Z Z<|wy (aT Z Z)<|aA ?_
   exact⟨(sc Z (sc Z (sc Z (sc Z (Sub.to Z mtA Sub.nil))))),fun _ h=>h⟩
  ·refine aB Z Z<|wm Z<|aB Z Z<|wy (dR Z Z)<|wy (aP Z Z)<|aA ?_
   exact⟨(sc Z (sc Z (sc Z (sc Z (Sub.to Z mbA Sub.nil))))),fun _ h=>h⟩
 refine aA<|bM Z (fun hc7=> ?_) (fun hc7=> ?_)
 ·refine wq<|wg Z<|aA<|dL ?_
  refine⟨_,Z,?_⟩
  rfl
 ·refine aJ<|wq<|wm Z<|wy (dS (v:= .agg #[.slice A_u u.length c_u, .slice none 0 0]) Z (fun w=>by kernel_rfl))<|wm rfl<|wm rfl<|wm rfl<|wy (dS (v:= .agg #[I turn,I 0,I order,I size]) rfl (fun w=>by kernel_rfl))<|wa (aD YW rfl (Ct.fresh (fun w hw=>vI (u:=u) ((h_u.c _) w hw) bh_u (by omega) (by omega) (by omega)))) ?_
  rintro _ _ ⟨_,rfl,A_1,c_2,rfl,rfl⟩
  refine wm Z<|wX Z Z<|wX Z Z<|wg Z<|wg Z<|aA<|wq<|wm Z<|wy (dS (v:= .agg #[.slice A_u u.length c_u, .slice none 0 0]) Z (fun w=>by kernel_rfl))<|wm rfl<|wm rfl<|wy (dS (v:= .agg #[I turn,I 0,I order,I 100]) rfl (fun w=>by kernel_rfl))<|wa (aD YW rfl (Ct.fresh (fun w hw=>vI (u:=u) ((h_u.c _) w hw) bh_u (by omega) (by omega) (by omega)))) ?_
  rintro _ _ ⟨_,rfl,A_3,c_4,rfl,rfl⟩
  refine wm Z<|wX Z Z<|wX Z Z<|wg Z<|wg Z<|aA<|wq<|wm Z<|wa (aD aOj Z (Ct.fresh (fun w hw=>EA (w:=u) (k:=turn) (so:=0) (od:=order) (sz:=size) ((rdr 1 Z) w hw) (dX (t:=turn) (so:=0) (o:=order) (sz:=size) (u:=u) bh_u (by omega) (by omega) (by omega) (by omega) (by omega)).1 (by have:=(dX (t:=turn) (so:=0) (o:=order) (sz:=size) (u:=u) bh_u (by omega) (by omega) (by omega) (by omega) (by omega)).2;omega) Z bh_u (by omega) (by omega) (by omega) (by omega) (by omega)))) ?_
  rintro _ _ ⟨_,rfl,A_5,c_6,rfl,rfl⟩
  refine wm Z<|wX Z Z<|wX Z Z<|wX Z Z<|wa (fA (sz:=2) WF Z) ?_
  rintro _ _ ⟨g_8,rfl,rfl⟩
  refine wa (fA (sz:=4) WE Z) ?_
  rintro _ _ ⟨g_10,rfl,rfl⟩
  refine bY (dQ (vs:=[.slice A_5 ((u).length) c_6, .slice none 0 0]) 1 Z rT Z Z Z (by intro v hv;simp at hv;rcases hv with rfl|rfl<;>rfl) Z) ?_
  rintro _ _ rfl
  refine bY (dQ (vs:=[I turn,I 0,I order,I size]) 0 Z gL Z Z Z (by intro v hv;simp at hv;rcases hv with rfl|rfl|rfl|rfl<;>rfl) Z) ?_
  rintro _ _ rfl
  refine wg Z<|aA<|wq<|wm Z<|wa (aD aOj Z (Ct.fresh (fun w hw=>EA (w:=u) (k:=turn) (so:=0) (od:=order) (sz:=100) ((rdr 3 Z) w hw) (dX (t:=turn) (so:=0) (o:=order) (sz:=100) (u:=u) bh_u (by omega) (by omega) (by omega) (by omega) (by omega)).1 (by have:=(dX (t:=turn) (so:=0) (o:=order) (sz:=100) (u:=u) bh_u (by omega) (by omega) (by omega) (by omega) (by omega)).2;omega) Z bh_u (by omega) (by omega) (by omega) (by omega) (by omega)))) ?_
  rintro _ _ ⟨_,rfl,A_11,c_12,rfl,rfl⟩
  refine wm Z<|wX Z Z<|wX Z Z<|wX Z Z<|wa (fA (sz:=2) WF Z) ?_
  rintro _ _ ⟨g_14,rfl,rfl⟩
  refine wa (fA (sz:=4) WE Z) ?_
  rintro _ _ ⟨g_16,rfl,rfl⟩
  refine bY (dQ (vs:=[.slice A_11 ((u).length) c_12, .slice none 0 0]) 1 Z rT Z Z Z (by intro v hv;simp at hv;rcases hv with rfl|rfl<;>rfl) Z) ?_
  rintro _ _ rfl
  refine bY (dQ (vs:=[I turn,I 0,I order,I 100]) 0 Z gL Z Z Z (by intro v hv;simp at hv;rcases hv with rfl|rfl|rfl|rfl<;>rfl) Z) ?_
  rintro _ _ rfl
  refine wg Z<|aA<|wq<|wm Z<|wy (Yl.t (dI Z Z) (by decide))<|wm Z<|aB Z Z<|wm Z<|aB Z Z<|wy (Yl.t (dI Z Z) (by decide))<|wy (aT Z Z)<|wm Z<|aB Z Z<|wm Z ?_
  refine aB Z Z<|wy (Yl.t (dI Z Z) (by decide))<|wy (aT Z Z)<|wm Z<|aB Z Z<|wm Z<|aB Z Z<|wy (Yl.t (dI Z Z) (by decide))<|wy (aT Z Z)<|wm Z<|aB Z Z<|wy (aC (off:=0) (m:=0) underlying25 Z fP Z Z Z)<|aB Z Z<|wy (aK (rdr 4 Z) underlying22 Z Z Z)<|aB Z Z ?_
  refine wy (kL underlying22 underlying5 underlying9 Z (rdr 5 Z))<|aB Z Z<|wm Z<|aB Z Z<|wy (kL underlying22 underlying5 underlying9 Z (h_u.c _))<|aB Z Z<|wy (Yl.t (aAp Z Z bh_u bh_u) (Z))<|wy (aT Z Z)<|wm Z<|aB Z Z<|wy (aC (off:=0) (m:=0) underlying25 Z fP Z Z Z)<|aB Z Z<|wy (aK (rdr 1 Z) underlying22 Z Z Z)<|aB Z Z<|wy (kL underlying22 underlying5 underlying9 Z (rdr 2 Z)) ?_
  refine aB Z Z<|wm Z<|aB Z Z<|wy (kL underlying22 underlying5 underlying9 Z (h_u.c _))<|aB Z Z<|wy (Yl.t (aAp Z Z bh_u bh_u) (Z))<|wy (aT Z Z)<|wm Z<|aB Z Z<|wy (aC (off:=3) (m:=3) underlying27 Z sz3 Z Z Z)<|aB Z Z<|wy (aK (rdr 3 Z) underlying3 Z Z Z)<|aB Z Z<|wm Z<|aB Z Z ?_
  refine wy (Yl.t (dI Z Z) (Z))<|wy (aT Z Z)<|wm Z<|aB Z Z<|wy (aC (off:=3) (m:=3) underlying27 Z sz3 Z Z Z)<|aB Z Z<|wy (aK (rdr 0 Z) underlying3 Z Z Z)<|aB Z Z<|wy (Yl.t (dI Z Z) (by decide))<|wy (aT Z Z)<|wm Z<|aB Z Z<|wa (aD aYk Z (Ct.quiet (fun w hw=>wJ))) ?_
  rintro _ _ ⟨rfl,rfl⟩
  refine wy (aT Z Z)<|wg Z<|aA<|bA [] 99 (by decide) Z ?_
  refine⟨_,Z,?_⟩
  rfl
set_option maxHeartbeats 1000000 in
theorem boxLimit_ct {w:World} {A_u:Option Addr} {n_u c_u:Nat} {u:List Int} {p0 p1 p2 p3:Int} {less:Int} (h_u:Rd w A_u n_u c_u 1 (ints .u8 u)) (bh_u:aN u):
  Ct Tryz.prog 7 #[.slice A_u n_u c_u, .agg #[I p0,I p1,I p2,I p3],I less] w.heap.size w [] (fun v R'=>v= .bool true):=by
 obtain rfl:=h_u.lenI
 refine fn1 Tryz.func7 Z Z Z ?_
 have m_u:=h_u.max
 refine wq<|wa (dV (sz:=4) Z Z) ?_
 rintro _ _ ⟨g_1,rfl,rfl⟩
 refine wg Z<|aA<|aG<|wq<|wm Z<|wy (aR underlying22 Z)<|wL Z Z<|wm Z<|cZ 4 [(0, .slice A_u u.length c_u),(2,I less),(4, .pointer (GG g_1)),(22, .bool (decide ((((u.length:Nat):Int)<1)∨(60<((u.length:Nat):Int)))))] [⟨27,4,(GG g_1),1,1,[I p0,I p1,I p2,I p3],false⟩] ?_ ?_
 ·refine bR 18 Z (fun hc1=> ?_) (fun hc1=> ?_)
  ·refine aO Z Z Z Z<|aO Z Z Z Z<|aO Z Z Z Z<|wy (aT Z Z)<|aA ?_
   exact⟨(sc Z (sc Z (sc Z (Sub.to Z mtA Sub.nil)))),fun _ h=>h⟩
  ·refine aB Z Z<|wm Z<|aB Z Z<|wy (aR underlying22 Z)<|aB Z Z<|wy (dR Z Z)<|wy (aP Z Z)<|aA ?_
   exact⟨(sc Z (sc Z (sc Z (Sub.to Z mbA Sub.nil)))),fun _ h=>h⟩
 refine wm Z<|cZ 4 [(0, .slice A_u u.length c_u),(2,I less),(4, .pointer (GG g_1)),(27, .bool (decide (((((u.length:Nat):Int)<1)∨(60<((u.length:Nat):Int)))∨(p0=3))))] [⟨27,4,(GG g_1),1,1,[I p0,I p1,I p2,I p3],false⟩] ?_ ?_
 ·refine bR 23 Z (fun hc2=> ?_) (fun hc2=> ?_)
  ·refine aO Z Z Z Z<|aO Z Z Z Z<|aO Z Z Z Z<|wy (aT Z Z)<|aA ?_
   exact⟨(sc Z (sc Z (sc Z (Sub.to Z mtA Sub.nil)))),fun _ h=>h⟩
  ·refine aB Z Z<|wy (aC (off:=0) (m:=0) underlying27 Z sz3 Z Z Z)<|aB Z Z<|wy (aK (rdr 0 Z) underlying3 Z Z Z)<|aB Z Z<|wy (dI Z Z)<|wy (aP Z Z)<|aA ?_
   exact⟨(sc Z (sc Z (sc Z (Sub.to Z mbA Sub.nil)))),fun _ h=>h⟩
 refine wm Z<|cZ 3 [(0, .slice A_u u.length c_u),(2,I less),(4, .pointer (GG g_1)),(31, .bool (decide ((((((u.length:Nat):Int)<1)∨(60<((u.length:Nat):Int)))∨(p0=3))∨(less<1))))] [⟨27,4,(GG g_1),1,1,[I p0,I p1,I p2,I p3],false⟩] ?_ ?_
 ·refine bR 28 Z (fun hc3=> ?_) (fun hc3=> ?_)
  ·refine aO Z Z Z Z<|aO Z Z Z Z<|wy (aT Z Z)<|aA ?_
   exact⟨(sc Z (sc Z (sc Z (Sub.to Z mtA Sub.nil)))),fun _ h=>h⟩
  ·refine aB Z Z<|wm Z<|aB Z Z<|wL Z Z<|wy (aP Z Z)<|aA ?_
   exact⟨(sc Z (sc Z (sc Z (Sub.to Z mbA Sub.nil)))),fun _ h=>h⟩
 refine wm Z<|cZ 3 [(0, .slice A_u u.length c_u),(2,I less),(4, .pointer (GG g_1)),(35, .bool (decide (((((((u.length:Nat):Int)<1)∨(60<((u.length:Nat):Int)))∨(p0=3))∨(less<1))∨(10<less))))] [⟨27,4,(GG g_1),1,1,[I p0,I p1,I p2,I p3],false⟩] ?_ ?_
 ·refine bR 32 Z (fun hc4=> ?_) (fun hc4=> ?_)
  ·refine aO Z Z Z Z<|aO Z Z Z Z<|wy (aT Z Z)<|aA ?_
   exact⟨(sc Z (sc Z (sc Z (Sub.to Z mtA Sub.nil)))),fun _ h=>h⟩
  ·refine aB Z Z<|wm Z<|aB Z Z<|wy (dR Z Z)<|wy (aP Z Z)<|aA ?_
   exact⟨(sc Z (sc Z (sc Z (Sub.to Z mbA Sub.nil)))),fun _ h=>h⟩
 refine aA<|bM Z (fun hc5=> ?_) (fun hc5=> ?_)
 ·refine wq<|wg Z<|aA<|bA [] 99 (by decide) Z ?_
  refine⟨_,Z,?_⟩
  rfl
 ·refine aJ<|wq<|wm Z<|wy (dS (v:= .agg #[.slice A_u u.length c_u, .slice none 0 0]) Z (fun w=>by kernel_rfl))<|wy (dZ (vs:=[I p0,I p1,I p2,I p3]) (rdr 0 rfl) underlying27 rfl gL rfl rfl (Nat.le_of_ble_eq_true rfl) rfl) ?_
  refine(Classical.em ((0≤p0∧p0≤2)∧(0≤p1∧p1≤2)∧(p2=0∨p2=1)∧(1≤p3∧p3≤16777216))).elim (fun hv=> ?_) (fun hv=> ?_)
  ·refine wa (aD YW Z (Ct.fresh (fun w hw=>vI (u:=u) ((h_u.c _) w hw) bh_u (by omega) (by omega) (by omega)))) ?_
   rintro _ _ ⟨_,rfl,A_2,c_3,rfl,rfl⟩
   refine wm Z<|wX Z Z<|wX Z Z<|wg Z<|wg Z<|aA<|aG<|wq<|wm Z<|wy (Yl.f (iT Z Z) (by decide))<|aA<|aQ Z<|aJ<|aG ?_
   refine aL<|wm Z<|wm Z<|wy (aR underlying22 Z)<|wm Z<|wS Z Z<|wa (aD aOj Z (Ct.quiet (fun w hw=>aTt (w:=u) (k:=p0) (so:=p1) (od:=p2) (sz:=p3) ((rdr 0 Z) w hw) (dX (t:=p0) (so:=p1) (o:=p2) (sz:=p3) (u:=u) bh_u (by omega) (by omega) (by omega) (by omega) (by omega)).1 (by have:=(dX (t:=p0) (so:=p1) (o:=p2) (sz:=p3) (u:=u) bh_u (by omega) (by omega) (by omega) (by omega) (by omega)).2;omega) Z bh_u (by omega) (by omega) (by omega) (by omega) (by omega)))) ?_
   rintro _ _ ⟨rfl,rfl⟩
   refine wm Z<|wX Z Z<|wX Z Z<|wX Z Z<|wa (fA (sz:=2) WF Z) ?_
   rintro _ _ ⟨g_5,rfl,rfl⟩
   refine wa (fA (sz:=4) WE Z) ?_
   rintro _ _ ⟨g_7,rfl,rfl⟩
   refine bY (dQ (vs:=[.slice none 0 0, .slice none 0 0]) 1 Z rT Z Z Z (by intro v hv;simp at hv;rcases hv with rfl|rfl<;>rfl) Z) ?_
   rintro _ _ rfl
   refine bY (dQ (vs:=[I 0,I 0,I 0,I 0]) 0 Z gL Z Z Z (by intro v hv;simp at hv;rcases hv with rfl|rfl|rfl|rfl<;>rfl) Z) ?_
   rintro _ _ rfl
   refine wg Z<|aA<|wq<|wm Z<|wm Z<|wy (aR underlying22 Z)<|wa (aD aOj Z (Ct.fresh (fun w hw=>EA (w:=u) (k:=p0) (so:=p1) (od:=p2) (sz:=p3) ((rdr 2 Z) w hw) (dX (t:=p0) (so:=p1) (o:=p2) (sz:=p3) (u:=u) bh_u (by omega) (by omega) (by omega) (by omega) (by omega)).1 (by have:=(dX (t:=p0) (so:=p1) (o:=p2) (sz:=p3) (u:=u) bh_u (by omega) (by omega) (by omega) (by omega) (by omega)).2;omega) Z bh_u (by omega) (by omega) (by omega) (by omega) (by omega)))) ?_
   rintro _ _ ⟨_,rfl,A_8,c_9,rfl,rfl⟩
   refine wm Z<|wX Z Z<|wX Z Z<|wX Z Z<|wa (fA (sz:=2) WF Z) ?_
   rintro _ _ ⟨g_11,rfl,rfl⟩
   refine wa (fA (sz:=4) WE Z) ?_
   rintro _ _ ⟨g_13,rfl,rfl⟩
   refine bY (dQ (vs:=[.slice A_8 ((u).length) c_9, .slice none 0 0]) 1 Z rT Z Z Z (by intro v hv;simp at hv;rcases hv with rfl|rfl<;>rfl) Z) ?_
   rintro _ _ rfl
   refine bY (dQ (vs:=[I p0,I p1,I p2,I p3]) 0 Z gL Z Z Z (by intro v hv;simp at hv;rcases hv with rfl|rfl|rfl|rfl<;>rfl) Z) ?_
   rintro _ _ rfl
   refine wg Z<|aA<|wq<|wm Z<|wy (Yl.t (dI Z Z) (by decide))<|wm Z<|aB Z Z<|wm Z<|aB Z Z<|wy (Yl.t (dI Z Z) (by decide))<|wy (aT Z Z)<|wm Z<|aB Z Z<|wa (aD aYk Z (Ct.quiet (fun w hw=>wJ))) ?_
   rintro _ _ ⟨rfl,rfl⟩
   refine wy (aT Z Z)<|wg Z<|aA<|bA [] 99 (by decide) Z ?_
   refine⟨_,Z,?_⟩
   rfl
  ·refine wa (aD YW Z (Ct.quiet (fun w hw=>aTr ((h_u.c _) w hw) (by omega)))) ?_
   rintro _ _ ⟨rfl,rfl⟩
   refine wm Z<|wX Z Z<|wX Z Z<|wg Z<|wg Z<|aA<|aG<|wq<|wm Z<|wy (Yl.t (iT Z Z) (by decide))<|aA<|dB Z<|wq ?_
   refine wg Z<|aA<|bA [] 99 (by decide) Z ?_
   refine⟨_,Z,?_⟩
   rfl
end Go.Proofs.YtdbebmmhdefgdaaGreat

